/-
  Laws of walks, and walks.
-/
import Derived.Test.YtphjgfjbiimkjaaGreatEc4
import Derived.Test.YtphjgfjbiimkjaaGreatEc11
set_option linter.unusedVariables false
set_option linter.unusedSimpArgs false
set_option maxRecDepth 100000
set_option maxHeartbeats 16000000
namespace Go.Proofs.YtphjgfjbiimkjaaGreat
section
open Go.RowKit Go.Shelf
attribute [local go_sem] Oper.semAt_some
theorem zGx (u s:Nat->Nat) (W:World):(Op.equalIn 9999 30 (.agg #[.int .u64 (u 0),.int .u64 (u 1),.int .u64 (u 2),.int .u64 (u 3)]) (.agg #[.int .u64 (s 0),.int .u64 (s 1),.int .u64 (s 2),.int .u64 (s 3)])).run Tryz.prog W=.ok (eqS u s) W:=by
 have hi:(Tryz.prog.info? 28).isSome=true:=by kernel_rfl
 obtain⟨i,hi⟩:=Option.isSome_iff_exists.1 hi;have hu:Tryz.prog.underlying 28=some (.int .u64):=by kernel_rfl
 have hc:Tryz.prog.cellsOf 28=1:=by kernel_rfl
 have hst:∀ (x:Nat->Nat) (k:Nat),k<4->∀ W,(part 28 #[.int .u64 (x 0),.int .u64 (x 1),.int .u64 (x 2),.int .u64 (x 3)] (k * 1)).run Tryz.prog W=.ok (.int .u64 (x k)) W:=by
  intro x k hk W;rw[Nat.mul_one]
  match k,hk with
  | 0,_=>simp[go_sem]
  | 1,_=>simp[go_sem]
  | 2,_=>simp[go_sem]
  | 3,_=>simp[go_sem]
 rw[run_equalIn_array W 9998 (n:=4) _ _ (by kernel_rfl) hi,hc]
 have hl:List.range 4=[0,1,2,3]:=by decide
 have he:∀ (a b:Nat),((a:Int) == (b:Int))=(a == b):=by intro a b;rw[Bool.eq_iff_iff];simp;omega
 rw[hl];unfold eqS;simp only[Op.eqItems,Sem.run_bind];simp only[hst u 0 (by decide),hst s 0 (by decide),Result.andThen_ok,run_equalIn_int _ _ _ _ _ _ _ hu,he]
 cases u 0 == s 0
 ·simp
 simp only[Bool.not_true,Bool.false_eq_true,if_false,Bool.true_and,Sem.run_bind];simp only[hst u 1 (by decide),hst s 1 (by decide),Result.andThen_ok,run_equalIn_int _ _ _ _ _ _ _ hu,he]
 cases u 1 == s 1
 ·simp
 simp only[Bool.not_true,Bool.false_eq_true,if_false,Bool.true_and,Sem.run_bind];simp only[hst u 2 (by decide),hst s 2 (by decide),Result.andThen_ok,run_equalIn_int _ _ _ _ _ _ _ hu,he]
 cases u 2 == s 2
 ·simp
 simp only[Bool.not_true,Bool.false_eq_true,if_false,Bool.true_and,Sem.run_bind];simp only[hst u 3 (by decide),hst s 3 (by decide),Result.andThen_ok,run_equalIn_int _ _ _ _ _ _ _ hu,he]
 cases u 3 == s 3<;>simp
theorem zPP {o:Oper} {a:Act} {w:World} {x y:Operand} {U:TypeId} {d e:InstD} (hop:o.op=.binOp .neq 33 x y U) (hx:a.eval x=zA8 d) (hy:a.eval y=zA8 e):(execOp a.eval o).run Tryz.prog w=.ok (.value (.bool (!(eqI d e)))) w:=by
 have he:=zGx d.set e.set w;simp only[execOp,hop,hx,hy];unfold zA8 zAf eqI;simp[go_sem,he]
 by_cases h0:d.kind=e.kind
 ·cases h1:eqS d.set e.set
  ·simp[h0]
  ·by_cases h2:d.next=e.next
   ·by_cases h3:d.other=e.other
    ·by_cases h4:d.slot=e.slot
     ·by_cases h5:d.spot=e.spot<;>simp[h0,h2,h3,h4,h5]
     ·simp[h0,h2,h3,h4]
    ·simp[h0,h2,h3]
   ·simp[h0,h2]
 ·simp[h0]
theorem zPb {z z':Int} (h:z=z'):Ending.returned (.int .i64 z)=Ending.returned (.int .i64 z'):=by rw[h]
theorem zQP (a b:Int):Builtin.max2 (.int .i64 a) (.int .i64 b)=pure (.int .i64 (max a b)):=by
 show (pure (.int .i64 (if b > a then b else a)):Sem Value)=_
 rw[show (if b > a then b else a)=max a b by omega]
theorem zDY (v:Int) (n b:Nat) (w0:World) (hn:0<n) (hn2:n<=1000000) (hb:w0.cell? ⟨b,0,none⟩=some (.int .i64 n)):Calls Tryz.prog 165 #[.int .i64 v,.pointer (some ⟨b,0,none⟩)] w0 (Rt (.int .i64 (zAt n v)) w0):=by
 have hlt:b<w0.heap.size:=by
  unfold World.cell? at hb
  cases h:w0.heap[b]? with
  | none=>simp[h]at hb
  | some x=>exact(Array.getElem?_eq_some_iff.1 h).1
 have H:=(Hold.start w0).know (·=b) (fun V=>V.cell? ⟨b,0,none⟩=some (.int .i64 n)) (fun _ h=>by omega) (fun i r h=>by simp at h) (fun V hV=>by rw[← hb];simp[World.cell?,hV b rfl])
 simp only[List.nil_append]at H
 go_enter Tryz.func165,Tryz.ntmps165
 go_wp2_with (first|((with_reducible refine gL ?_);refine zAK wtd_ _ _ rfl rfl zAF (H.kn (i:=0) .zero) ?_)|fail)
 all_goals (go_ret;exact⟨zPb (by unfold zAt;omega),H.below⟩)
theorem zQW (a b:Int):Builtin.min2 (.int .i64 a) (.int .i64 b)=pure (.int .i64 (min a b)):=by
 show (pure (.int .i64 (if b<a then b else a)):Sem Value)=_
 rw[show (if b<a then b else a)=min a b by omega]
theorem zG3 {P:Program} {ev:Operand->Value} {w:World} {o:Oper} {x y:Operand} {ts:Array TypeId} {i j:Int} (hop:o.op=Op.call {callee:=.builtin .max,args:=#[x,y],argTypes:=ts}) (hx:ev x=.int .i64 i) (hy:ev y=.int .i64 j) :
  (execOp ev o).run P w=.ok (.value (.int .i64 (max i j))) w:=by
 simp[execOp,hop,hx,hy,go_sem,Builtin.max_,zQP]
theorem zHF {P:Program} {ev:Operand->Value} {w:World} {o:Oper} {x y:Operand} {ts:Array TypeId} {i j:Int} (hop:o.op=Op.call {callee:=.builtin .min,args:=#[x,y],argTypes:=ts}) (hx:ev x=.int .i64 i) (hy:ev y=.int .i64 j) :
  (execOp ev o).run P w=.ok (.value (.int .i64 (min i j))) w:=by
 simp[execOp,hop,hx,hy,go_sem,Builtin.min_,zQW]
theorem zEK {P:Program} {ops:Array Oper} {o:Oper} {a:Act} {w:World} {D:Prop} {f:FuncId} {x y:Operand} {ts:Array TypeId} {v c r:Value} (hg:Region.wanted o (yielded ops a.tmps)=true) (hop:o.op=Op.call {callee:=Callee.value x,args:=#[y],argTypes:=ts}) (hf:∀ args w,(callFunc f args).run P w=.ok (.enter f args) w)
  (hx:a.eval x=.func (.func f) #[] #[c]) (hy:a.eval y=v) (hc:Calls P f #[v,c] w fun e w'=>e=.returned r/\Below w.heap.size w w') (hD:¬ D):zA4 P ops o a w (fun v' w'=>v'=r/\(D->w.heap.size<=blk v')):=by
 refine zJc hg (f:=f) (args:=#[v,c]) ?_ (hc.mono fun _ _ ⟨he,hb⟩=>⟨r,he,hb,rfl,fun h=>(hD h).elim⟩)
 simp only[execOp,hop];simp[resolve,hx,hy,Deferred.ofValue,invoke,hf]
theorem zCB (x:InstD) (v:Int):(zAf x).setIfInBounds 0 (.int .i64 v)=zAf {x with kind:=v}:=rfl
theorem zCz (x:InstD) (v:Int):(zAf x).setIfInBounds 5 (.int .i64 v)=zAf {x with next:=v}:=rfl
theorem zKj (x:InstD) (v:Int):(zAf x).setIfInBounds 6 (.int .i64 v)=zAf {x with other:=v}:=rfl
theorem zLF (x:InstD) (v:Int):(zAf x).setIfInBounds 7 (.int .i64 v)=zAf {x with slot:=v}:=rfl
theorem zLJ (x:InstD) (v:Int):(zAf x).setIfInBounds 8 (.int .i64 v)=zAf {x with spot:=v}:=rfl
theorem zKy (x:InstD) (s:Nat->Nat):zCu (zAf x) 1 (setC s).toList=zAf {x with set:=s}:=rfl
theorem zPE (x:InstD) (n:Nat) (w0:World) (hn:0<n) (hn2:n<=1000000):Calls Tryz.prog 150 #[zA8 x,.int .i64 n] w0 (Rt (.tuple #[zA8 (zC1 n x).1,.bool (zC1 n x).2]) w0):=by
 have H:=Hold.start w0
 by_cases k1:x.kind=1
 ·have d1:(x.kind == 1)=true:=by rw[beq_iff_eq];exact k1
  have E:=Lib.hid (show zC1 n x=({kind:=x.kind,set:=x.set,next:=zAt n x.next},!eqS x.set zAG) by unfold zC1;rw[if_pos k1])
  clear k1
  go_enter Tryz.func150,Tryz.ntmps150
  go_upto_region 1 with (first|((with_reducible refine kg 2 ?_);(first|refine kA 2 H ?_|refine kS 2 H ?_|refine kB 2 H ?_);clear H;intro b2 w H;try simp only[nr]at H)|((with_reducible refine kg 3 ?_);(first|refine kA 3 H ?_|refine kS 3 H ?_|refine kB 3 H ?_);clear H;intro b3 w H;try simp only[nr]at H)|((with_reducible refine kg 4 ?_);(first|refine kA 4 H ?_|refine kS 4 H ?_|refine kB 4 H ?_);clear H;intro b4 w H;try simp only[nr]at H)|fail)
  rw[zHL]at H
  try simp only[Value.cells]at H
  go_upto_region 6 with (first|((with_reducible refine gT ?_);refine zAN wtd_ _ _ _ rfl rfl evd_ H (i:=2) i_2 rfl (by show 0<9;omega) (by first|(with_reducible exact zAD zAF)|(with_reducible exact zAD zAo)|(with_reducible exact zAD zA3)) ?_;clear H;intro w H;(rw[zCB]at H);simp only[sc]at H)|((with_reducible refine gL ?_);refine aGi H ?_))
  refine zAd 7 [fun u _=>u=pt b2 1,fun u _=>u=setV x.set,fun u _=>u=.func (.func 165) #[] #[.pointer (some ⟨b3,0,none⟩)],fun u _=>u=pt b2 5,fun u _=>u=.int .i64 (x.next),fun u _=>u=.int .i64 (zAt n (x.next)),fun u _=>u=pt b4 1] (fun _=>false) (by kernel_rfl) (by kernel_rfl) (by kernel_rfl) ⟨zAI _,zAI _,zAI _,zAI _,zAI _,zAI _,zAI _,trivial⟩ (fun _ _ h=>by cases h) ?ob ?en
  case ob =>
   refine⟨?_,?_,?_,?_,?_,?_,?_,trivial⟩<;>intro A W h
   ·(have e:A.eval (.tmp 2)=.pointer (some ⟨b2,0,none⟩):=h.f 2;refine zAA rfl ?_ (by decide);simp only[execOp,e];simp[go_sem])
   ·exact zAA rfl (zAk rfl (h.d 0 16) zBj rfl (fun j hj=>by have h1:=(H.call h.below).cell (i:=0) .zero (1+j);rcases j with _|_|_|_|j<;>first|exact h1|omega)) (by decide)
   ·exact zAB rfl rfl (h.f 6) (by decide)
   ·(have e:A.eval (.tmp 2)=.pointer (some ⟨b2,0,none⟩):=h.f 2;refine zAA rfl ?_ (by decide);simp only[execOp,e];simp[go_sem])
   ·exact zAA rfl (zAC rfl (h.d 3 19) zAF ((H.call h.below).cell (i:=0) .zero 5)) (by decide)
   ·exact zEK rfl rfl (enters_of Tryz.func165 (by kernel_rfl) rfl) (h.d 2 18) (h.d 4 20) (zDY _ n b3 W hn hn2 ((H.call h.below).cell (i:=1) i_1 0)) (by decide)
   ·(have e:A.eval (.tmp 4)=.pointer (some ⟨b4,0,none⟩):=h.f 4;refine zAA rfl ?_ (by decide);simp only[execOp,e];simp[go_sem])
  case en =>
   intro vals W hbw hv _;have v0:vals 0=.pointer (some ⟨b2,1,none⟩):=hv 0 (by omega)
   have v1:vals 1=setV x.set:=hv 1 (by omega)
   have v2:vals 2=.func (.func 165) #[] #[.pointer (some ⟨b3,0,none⟩)]:=hv 2 (by omega)
   have v3:vals 3=.pointer (some ⟨b2,5,none⟩):=hv 3 (by omega)
   have v4:vals 4=.int .i64 (x.next):=hv 4 (by omega)
   have v5:vals 5=.int .i64 (zAt n (x.next)):=hv 5 (by omega)
   have v6:vals 6=.pointer (some ⟨b4,1,none⟩):=hv 6 (by omega)
   simp only[fa,Nat.reduceAdd];rw[v0,v1,v2,v3,v4,v5,v6];clear hv v0 v1 v2 v3 v4 v5 v6;simp only[pl];replace H:=H.call hbw
   go_upto_region 7 with (first|((with_reducible refine gT ?_);refine zGt wtd_ _ _ _ rfl rfl (vs:=setC x.set) evd_ H (i:=2) i_2 (zEX zBj) rfl rfl (by show 1+4<=9;omega) ?_;clear H;intro w H;(rw[zKy]at H);simp only[sc]at H)|((with_reducible refine gT ?_);refine zAN wtd_ _ _ _ rfl rfl evd_ H (i:=2) i_2 rfl (by show 5<9;omega) (by first|(with_reducible exact zAD zAF)|(with_reducible exact zAD zAo)|(with_reducible exact zAD zA3)) ?_;clear H;intro w H;(rw[zCz]at H);simp only[sc]at H)|fail)
   have hS:∀ W,RelS b4 (zAf {kind:=x.kind,set:=x.set,next:=zAt n x.next}) 33 w W->∃ ds,ds.size=9/\Hold w0 W [.blk b2 (zAf x) 33,.blk b3 #[.int .i64 n] 3,.blk b4 ds 33]/\ds=zAf {kind:=x.kind,set:=x.set,next:=zAt n x.next}:=fun W hr=>by
    obtain⟨ds,hds,H2⟩:=H.relS (i:=2) i_2 hr;exact⟨ds,by rcases hds with rfl|rfl<;>rfl,H2,by rcases hds with rfl|rfl<;>rfl⟩
   refine zCb (RelS b4 (zAf {kind:=x.kind,set:=x.set,next:=zAt n x.next}) 33) RelS.refl RelS.trans RelS.drew 6 [fun u _=>u=zA8 {kind:=x.kind,set:=x.set,next:=zAt n x.next},fun u _=>u=pt b2 1,fun u _=>u=setV x.set,fun u _=>u=setV zAG,fun u _=>u=.bool (!(eqS x.set zAG)),zOI b4 (zAf {kind:=x.kind,set:=x.set,next:=zAt n x.next}) 33]
    ⟨zBr _,zBr _,zBr _,zBr _,zBr _,zIE,trivial⟩ (by kernel_rfl) (by kernel_rfl) (by kernel_rfl) ?ob ?en
   case ob =>
    refine⟨?_,?_,?_,?_,?_,?_,trivial⟩<;>intro A W h
    ·obtain⟨ds,_,H2,rfl⟩:=hS W h.rel;exact zB2 rfl (zAH RelS.refl rfl (zAk rfl (h.f 4) zAp rfl (fun k _=>by rw[Nat.zero_add];exact H2.cell (i:=2) i_2 k)))
    ·(have e:A.eval (.tmp 2)=.pointer (some ⟨b2,0,none⟩):=h.f 2;refine zB2 rfl (zAH RelS.refl rfl ?_);simp only[execOp,e];simp[go_sem])
    ·obtain⟨ds,_,H2,rfl⟩:=hS W h.rel;exact zB2 rfl (zAH RelS.refl rfl (zAk rfl (h.d 1 25) zBj rfl (fun j hj=>by have h1:=H2.cell (i:=0) .zero (1+j);rcases j with _|_|_|_|j<;>first|exact h1|omega)))
    ·exact zB2 rfl (zAH RelS.refl rfl (zKK rfl))
    ·exact zB2 rfl (zAH RelS.refl rfl (zMa rfl (h.d 2 26) (h.d 3 27)))
    ·obtain⟨ds,hsz,H2,_⟩:=hS W h.rel;exact zPD rfl rfl rfl (h.f 4) (H2.blk (i:=2) i_2).2 hsz (h.d 0 24) (zEX (n:=9) zAp) rfl
   case en =>
    intro vals W1 hrel hv hlk;have v0:vals 0=zA8 {kind:=x.kind,set:=x.set,next:=zAt n x.next}:=hv 0 (by omega)
    have v1:vals 1=.pointer (some ⟨b2,1,none⟩):=hv 1 (by omega)
    have v2:vals 2=setV x.set:=hv 2 (by omega)
    have v3:vals 3=setV zAG:=hv 3 (by omega)
    have v4:vals 4=.bool (!(eqS x.set zAG)):=hv 4 (by omega)
    have H2:=H.laidS (i:=2) i_2 hrel (hv 5 (by omega))
    simp only[fa,Nat.reduceAdd];rw[v0,v1,v2,v3,v4];clear hv v0 v1 v2 v3 v4 hlk hrel H hS;have H:=H2;clear H2;simp only[sc]at H;simp only[pl]
    go_wp2_with (first|fail)
    (refine zEl Tryz.results150 rfl (by first|rfl|(simp only[pl];rfl)) H (i:=2) i_2 zAp rfl rfl ?_)
    exact⟨by rw[E.out];rfl,H.below⟩
 have d1:(x.kind == 1)=false:=by rw[beq_eq_false_iff_ne];exact k1
 by_cases k2:x.kind=2
 ·have d2:(x.kind == 2)=true:=by rw[beq_iff_eq];exact k2
  have E:=Lib.hid (show zC1 n x=({kind:=x.kind,next:=zAt n x.next,other:=zAt n x.other},true) by unfold zC1;rw[if_neg k1,if_pos k2])
  clear k1 k2
  go_enter Tryz.func150,Tryz.ntmps150
  go_upto_region 1 with (first|((with_reducible refine kg 2 ?_);(first|refine kA 2 H ?_|refine kS 2 H ?_|refine kB 2 H ?_);clear H;intro b2 w H;try simp only[nr]at H)|((with_reducible refine kg 3 ?_);(first|refine kA 3 H ?_|refine kS 3 H ?_|refine kB 3 H ?_);clear H;intro b3 w H;try simp only[nr]at H)|((with_reducible refine kg 4 ?_);(first|refine kA 4 H ?_|refine kS 4 H ?_|refine kB 4 H ?_);clear H;intro b4 w H;try simp only[nr]at H)|fail)
  rw[zHL]at H
  try simp only[Value.cells]at H
  go_upto_region 9 with (first|((with_reducible refine gT ?_);refine zAN wtd_ _ _ _ rfl rfl evd_ H (i:=2) i_2 rfl (by show 0<9;omega) (by first|(with_reducible exact zAD zAF)|(with_reducible exact zAD zAo)|(with_reducible exact zAD zA3)) ?_;clear H;intro w H;(rw[zCB]at H);simp only[sc]at H)|((with_reducible refine gL ?_);refine aGi H ?_))
  refine zAd 9 [fun u _=>u=.func (.func 165) #[] #[.pointer (some ⟨b3,0,none⟩)],fun u _=>u=pt b2 5,fun u _=>u=.int .i64 (x.next),fun u _=>u=.int .i64 (zAt n (x.next)),fun u _=>u=.func (.func 165) #[] #[.pointer (some ⟨b3,0,none⟩)],fun u _=>u=pt b2 6,fun u _=>u=.int .i64 (x.other),fun u _=>u=.int .i64 (zAt n (x.other)),fun u _=>u=pt b4 5] (fun _=>false) (by kernel_rfl) (by kernel_rfl) (by kernel_rfl) ⟨zAI _,zAI _,zAI _,zAI _,zAI _,zAI _,zAI _,zAI _,zAI _,trivial⟩ (fun _ _ h=>by cases h) ?ob ?en
  case ob =>
   refine⟨?_,?_,?_,?_,?_,?_,?_,?_,?_,trivial⟩<;>intro A W h
   ·exact zAB rfl rfl (h.f 6) (by decide)
   ·(have e:A.eval (.tmp 2)=.pointer (some ⟨b2,0,none⟩):=h.f 2;refine zAA rfl ?_ (by decide);simp only[execOp,e];simp[go_sem])
   ·exact zAA rfl (zAC rfl (h.d 1 32) zAF ((H.call h.below).cell (i:=0) .zero 5)) (by decide)
   ·exact zEK rfl rfl (enters_of Tryz.func165 (by kernel_rfl) rfl) (h.d 0 31) (h.d 2 33) (zDY _ n b3 W hn hn2 ((H.call h.below).cell (i:=1) i_1 0)) (by decide)
   ·exact zAB rfl rfl (h.f 6) (by decide)
   ·(have e:A.eval (.tmp 2)=.pointer (some ⟨b2,0,none⟩):=h.f 2;refine zAA rfl ?_ (by decide);simp only[execOp,e];simp[go_sem])
   ·exact zAA rfl (zAC rfl (h.d 5 36) zAF ((H.call h.below).cell (i:=0) .zero 6)) (by decide)
   ·exact zEK rfl rfl (enters_of Tryz.func165 (by kernel_rfl) rfl) (h.d 4 35) (h.d 6 37) (zDY _ n b3 W hn hn2 ((H.call h.below).cell (i:=1) i_1 0)) (by decide)
   ·(have e:A.eval (.tmp 4)=.pointer (some ⟨b4,0,none⟩):=h.f 4;refine zAA rfl ?_ (by decide);simp only[execOp,e];simp[go_sem])
  case en =>
   intro vals W hbw hv _;have v0:vals 0=.func (.func 165) #[] #[.pointer (some ⟨b3,0,none⟩)]:=hv 0 (by omega)
   have v1:vals 1=.pointer (some ⟨b2,5,none⟩):=hv 1 (by omega)
   have v2:vals 2=.int .i64 (x.next):=hv 2 (by omega)
   have v3:vals 3=.int .i64 (zAt n (x.next)):=hv 3 (by omega)
   have v4:vals 4=.func (.func 165) #[] #[.pointer (some ⟨b3,0,none⟩)]:=hv 4 (by omega)
   have v5:vals 5=.pointer (some ⟨b2,6,none⟩):=hv 5 (by omega)
   have v6:vals 6=.int .i64 (x.other):=hv 6 (by omega)
   have v7:vals 7=.int .i64 (zAt n (x.other)):=hv 7 (by omega)
   have v8:vals 8=.pointer (some ⟨b4,5,none⟩):=hv 8 (by omega)
   simp only[fa,Nat.reduceAdd];rw[v0,v1,v2,v3,v4,v5,v6,v7,v8];clear hv v0 v1 v2 v3 v4 v5 v6 v7 v8;simp only[pl];replace H:=H.call hbw
   go_wp2_with (first|((with_reducible refine gT ?_);refine zAN wtd_ _ _ _ rfl rfl evd_ H (i:=2) i_2 rfl (by show 5<9;omega) (by first|(with_reducible exact zAD zAF)|(with_reducible exact zAD zAo)|(with_reducible exact zAD zA3)) ?_;clear H;intro w H;(rw[zCz]at H);simp only[sc]at H)|((with_reducible refine gT ?_);refine zAN wtd_ _ _ _ rfl rfl evd_ H (i:=2) i_2 rfl (by show 6<9;omega) (by first|(with_reducible exact zAD zAF)|(with_reducible exact zAD zAo)|(with_reducible exact zAD zA3)) ?_;clear H;intro w H;(rw[zKj]at H);simp only[sc]at H)|(first|((with_reducible refine gTi ?_);refine aTi H ?_;clear H;intro w H;try simp only[nr]at H)|((with_reducible refine gLi ?_);refine aLi H ?_)))
   (refine zEl Tryz.results150 rfl (by first|rfl|(simp only[pl];rfl)) H (i:=2) i_2 zAp rfl rfl ?_)
   exact⟨by rw[E.out];rfl,H.below⟩
 have d2:(x.kind == 2)=false:=by rw[beq_eq_false_iff_ne];exact k2
 by_cases k3:x.kind=3
 ·have d3:(x.kind == 3)=true:=by rw[beq_iff_eq];exact k3
  have E:=Lib.hid (show zC1 n x=({kind:=x.kind,slot:=min (max x.slot 0) 41,next:=zAt n x.next},true) by unfold zC1;rw[if_neg k1,if_neg k2,if_pos k3])
  clear k1 k2 k3
  go_enter Tryz.func150,Tryz.ntmps150
  go_upto_region 1 with (first|((with_reducible refine kg 2 ?_);(first|refine kA 2 H ?_|refine kS 2 H ?_|refine kB 2 H ?_);clear H;intro b2 w H;try simp only[nr]at H)|((with_reducible refine kg 3 ?_);(first|refine kA 3 H ?_|refine kS 3 H ?_|refine kB 3 H ?_);clear H;intro b3 w H;try simp only[nr]at H)|((with_reducible refine kg 4 ?_);(first|refine kA 4 H ?_|refine kS 4 H ?_|refine kB 4 H ?_);clear H;intro b4 w H;try simp only[nr]at H)|fail)
  rw[zHL]at H
  try simp only[Value.cells]at H
  go_upto_region 11 with (first|((with_reducible refine gT ?_);refine zAN wtd_ _ _ _ rfl rfl evd_ H (i:=2) i_2 rfl (by show 0<9;omega) (by first|(with_reducible exact zAD zAF)|(with_reducible exact zAD zAo)|(with_reducible exact zAD zA3)) ?_;clear H;intro w H;(rw[zCB]at H);simp only[sc]at H)|((with_reducible refine gL ?_);refine aGi H ?_))
  refine zAd 9 [fun u _=>u=pt b2 7,fun u _=>u=.int .i64 (x.slot),fun u _=>u=.int .i64 (max (x.slot) 0),fun u _=>u=.int .i64 (min (max x.slot 0) 41),fun u _=>u=.func (.func 165) #[] #[.pointer (some ⟨b3,0,none⟩)],fun u _=>u=pt b2 5,fun u _=>u=.int .i64 (x.next),fun u _=>u=.int .i64 (zAt n (x.next)),fun u _=>u=pt b4 7] (fun _=>false) (by kernel_rfl) (by kernel_rfl) (by kernel_rfl) ⟨zAI _,zAI _,zAI _,zAI _,zAI _,zAI _,zAI _,zAI _,zAI _,trivial⟩ (fun _ _ h=>by cases h) ?ob ?en
  case ob =>
   refine⟨?_,?_,?_,?_,?_,?_,?_,?_,?_,trivial⟩<;>intro A W h
   ·(have e:A.eval (.tmp 2)=.pointer (some ⟨b2,0,none⟩):=h.f 2;refine zAA rfl ?_ (by decide);simp only[execOp,e];simp[go_sem])
   ·exact zAA rfl (zAC rfl (h.d 0 43) zAF ((H.call h.below).cell (i:=0) .zero 7)) (by decide)
   ·exact zAA rfl (zG3 rfl (h.d 1 44) rfl) (by decide)
   ·exact zAA rfl (zHF rfl (h.d 2 45) rfl) (by decide)
   ·exact zAB rfl rfl (h.f 6) (by decide)
   ·(have e:A.eval (.tmp 2)=.pointer (some ⟨b2,0,none⟩):=h.f 2;refine zAA rfl ?_ (by decide);simp only[execOp,e];simp[go_sem])
   ·exact zAA rfl (zAC rfl (h.d 5 48) zAF ((H.call h.below).cell (i:=0) .zero 5)) (by decide)
   ·exact zEK rfl rfl (enters_of Tryz.func165 (by kernel_rfl) rfl) (h.d 4 47) (h.d 6 49) (zDY _ n b3 W hn hn2 ((H.call h.below).cell (i:=1) i_1 0)) (by decide)
   ·(have e:A.eval (.tmp 4)=.pointer (some ⟨b4,0,none⟩):=h.f 4;refine zAA rfl ?_ (by decide);simp only[execOp,e];simp[go_sem])
  case en =>
   intro vals W hbw hv _;have v0:vals 0=.pointer (some ⟨b2,7,none⟩):=hv 0 (by omega)
   have v1:vals 1=.int .i64 (x.slot):=hv 1 (by omega)
   have v2:vals 2=.int .i64 (max (x.slot) 0):=hv 2 (by omega)
   have v3:vals 3=.int .i64 (min (max x.slot 0) 41):=hv 3 (by omega)
   have v4:vals 4=.func (.func 165) #[] #[.pointer (some ⟨b3,0,none⟩)]:=hv 4 (by omega)
   have v5:vals 5=.pointer (some ⟨b2,5,none⟩):=hv 5 (by omega)
   have v6:vals 6=.int .i64 (x.next):=hv 6 (by omega)
   have v7:vals 7=.int .i64 (zAt n (x.next)):=hv 7 (by omega)
   have v8:vals 8=.pointer (some ⟨b4,7,none⟩):=hv 8 (by omega)
   simp only[fa,Nat.reduceAdd];rw[v0,v1,v2,v3,v4,v5,v6,v7,v8];clear hv v0 v1 v2 v3 v4 v5 v6 v7 v8;simp only[pl];replace H:=H.call hbw
   go_wp2_with (first|((with_reducible refine gT ?_);refine zAN wtd_ _ _ _ rfl rfl evd_ H (i:=2) i_2 rfl (by show 7<9;omega) (by first|(with_reducible exact zAD zAF)|(with_reducible exact zAD zAo)|(with_reducible exact zAD zA3)) ?_;clear H;intro w H;(rw[zLF]at H);simp only[sc]at H)|((with_reducible refine gT ?_);refine zAN wtd_ _ _ _ rfl rfl evd_ H (i:=2) i_2 rfl (by show 5<9;omega) (by first|(with_reducible exact zAD zAF)|(with_reducible exact zAD zAo)|(with_reducible exact zAD zA3)) ?_;clear H;intro w H;(rw[zCz]at H);simp only[sc]at H)|(first|((with_reducible refine gTi ?_);refine aTi H ?_;clear H;intro w H;try simp only[nr]at H)|((with_reducible refine gLi ?_);refine aLi H ?_)))
   (refine zEl Tryz.results150 rfl (by first|rfl|(simp only[pl];rfl)) H (i:=2) i_2 zAp rfl rfl ?_)
   exact⟨by rw[E.out];rfl,H.below⟩
 have d3:(x.kind == 3)=false:=by rw[beq_eq_false_iff_ne];exact k3
 by_cases k4:x.kind=4
 ·have d4:(x.kind == 4)=true:=by rw[beq_iff_eq];exact k4
  have E:=Lib.hid (show zC1 n x=({kind:=x.kind,spot:=min (max x.spot 8) 13,next:=zAt n x.next},true) by unfold zC1;rw[if_neg k1,if_neg k2,if_neg k3,if_pos k4])
  clear k1 k2 k3 k4
  go_enter Tryz.func150,Tryz.ntmps150
  go_upto_region 1 with (first|((with_reducible refine kg 2 ?_);(first|refine kA 2 H ?_|refine kS 2 H ?_|refine kB 2 H ?_);clear H;intro b2 w H;try simp only[nr]at H)|((with_reducible refine kg 3 ?_);(first|refine kA 3 H ?_|refine kS 3 H ?_|refine kB 3 H ?_);clear H;intro b3 w H;try simp only[nr]at H)|((with_reducible refine kg 4 ?_);(first|refine kA 4 H ?_|refine kS 4 H ?_|refine kB 4 H ?_);clear H;intro b4 w H;try simp only[nr]at H)|fail)
  rw[zHL]at H
  try simp only[Value.cells]at H
  go_upto_region 13 with (first|((with_reducible refine gT ?_);refine zAN wtd_ _ _ _ rfl rfl evd_ H (i:=2) i_2 rfl (by show 0<9;omega) (by first|(with_reducible exact zAD zAF)|(with_reducible exact zAD zAo)|(with_reducible exact zAD zA3)) ?_;clear H;intro w H;(rw[zCB]at H);simp only[sc]at H)|((with_reducible refine gL ?_);refine aGi H ?_))
  refine zAd 9 [fun u _=>u=pt b2 8,fun u _=>u=.int .i64 (x.spot),fun u _=>u=.int .i64 (max (x.spot) 8),fun u _=>u=.int .i64 (min (max x.spot 8) 13),fun u _=>u=.func (.func 165) #[] #[.pointer (some ⟨b3,0,none⟩)],fun u _=>u=pt b2 5,fun u _=>u=.int .i64 (x.next),fun u _=>u=.int .i64 (zAt n (x.next)),fun u _=>u=pt b4 8] (fun _=>false) (by kernel_rfl) (by kernel_rfl) (by kernel_rfl) ⟨zAI _,zAI _,zAI _,zAI _,zAI _,zAI _,zAI _,zAI _,zAI _,trivial⟩ (fun _ _ h=>by cases h) ?ob ?en
  case ob =>
   refine⟨?_,?_,?_,?_,?_,?_,?_,?_,?_,trivial⟩<;>intro A W h
   ·(have e:A.eval (.tmp 2)=.pointer (some ⟨b2,0,none⟩):=h.f 2;refine zAA rfl ?_ (by decide);simp only[execOp,e];simp[go_sem])
   ·exact zAA rfl (zAC rfl (h.d 0 55) zAo ((H.call h.below).cell (i:=0) .zero 8)) (by decide)
   ·exact zAA rfl (zG3 rfl (h.d 1 56) rfl) (by decide)
   ·exact zAA rfl (zHF rfl (h.d 2 57) rfl) (by decide)
   ·exact zAB rfl rfl (h.f 6) (by decide)
   ·(have e:A.eval (.tmp 2)=.pointer (some ⟨b2,0,none⟩):=h.f 2;refine zAA rfl ?_ (by decide);simp only[execOp,e];simp[go_sem])
   ·exact zAA rfl (zAC rfl (h.d 5 60) zAF ((H.call h.below).cell (i:=0) .zero 5)) (by decide)
   ·exact zEK rfl rfl (enters_of Tryz.func165 (by kernel_rfl) rfl) (h.d 4 59) (h.d 6 61) (zDY _ n b3 W hn hn2 ((H.call h.below).cell (i:=1) i_1 0)) (by decide)
   ·(have e:A.eval (.tmp 4)=.pointer (some ⟨b4,0,none⟩):=h.f 4;refine zAA rfl ?_ (by decide);simp only[execOp,e];simp[go_sem])
  case en =>
   intro vals W hbw hv _;have v0:vals 0=.pointer (some ⟨b2,8,none⟩):=hv 0 (by omega)
   have v1:vals 1=.int .i64 (x.spot):=hv 1 (by omega)
   have v2:vals 2=.int .i64 (max (x.spot) 8):=hv 2 (by omega)
   have v3:vals 3=.int .i64 (min (max x.spot 8) 13):=hv 3 (by omega)
   have v4:vals 4=.func (.func 165) #[] #[.pointer (some ⟨b3,0,none⟩)]:=hv 4 (by omega)
   have v5:vals 5=.pointer (some ⟨b2,5,none⟩):=hv 5 (by omega)
   have v6:vals 6=.int .i64 (x.next):=hv 6 (by omega)
   have v7:vals 7=.int .i64 (zAt n (x.next)):=hv 7 (by omega)
   have v8:vals 8=.pointer (some ⟨b4,8,none⟩):=hv 8 (by omega)
   simp only[fa,Nat.reduceAdd];rw[v0,v1,v2,v3,v4,v5,v6,v7,v8];clear hv v0 v1 v2 v3 v4 v5 v6 v7 v8;simp only[pl];replace H:=H.call hbw
   go_wp2_with (first|((with_reducible refine gT ?_);refine zAN wtd_ _ _ _ rfl rfl evd_ H (i:=2) i_2 rfl (by show 8<9;omega) (by first|(with_reducible exact zAD zAF)|(with_reducible exact zAD zAo)|(with_reducible exact zAD zA3)) ?_;clear H;intro w H;(rw[zLJ]at H);simp only[sc]at H)|((with_reducible refine gT ?_);refine zAN wtd_ _ _ _ rfl rfl evd_ H (i:=2) i_2 rfl (by show 5<9;omega) (by first|(with_reducible exact zAD zAF)|(with_reducible exact zAD zAo)|(with_reducible exact zAD zA3)) ?_;clear H;intro w H;(rw[zCz]at H);simp only[sc]at H)|(first|((with_reducible refine gTi ?_);refine aTi H ?_;clear H;intro w H;try simp only[nr]at H)|((with_reducible refine gLi ?_);refine aLi H ?_)))
   (refine zEl Tryz.results150 rfl (by first|rfl|(simp only[pl];rfl)) H (i:=2) i_2 zAp rfl rfl ?_)
   exact⟨by rw[E.out];rfl,H.below⟩
 have d4:(x.kind == 4)=false:=by rw[beq_eq_false_iff_ne];exact k4
 by_cases k5:x.kind=5
 ·have d5:(x.kind == 5)=true:=by rw[beq_iff_eq];exact k5
  have E:=Lib.hid (show zC1 n x=({kind:=x.kind},true) by unfold zC1;rw[if_neg k1,if_neg k2,if_neg k3,if_neg k4,if_pos (.inl k5)])
  clear k1 k2 k3 k4 k5
  go_enter Tryz.func150,Tryz.ntmps150
  go_upto_region 1 with (first|((with_reducible refine kg 2 ?_);(first|refine kA 2 H ?_|refine kS 2 H ?_|refine kB 2 H ?_);clear H;intro b2 w H;try simp only[nr]at H)|((with_reducible refine kg 3 ?_);(first|refine kA 3 H ?_|refine kS 3 H ?_|refine kB 3 H ?_);clear H;intro b3 w H;try simp only[nr]at H)|((with_reducible refine kg 4 ?_);(first|refine kA 4 H ?_|refine kS 4 H ?_|refine kB 4 H ?_);clear H;intro b4 w H;try simp only[nr]at H)|fail)
  rw[zHL]at H
  try simp only[Value.cells]at H
  go_wp2_with (first|((with_reducible refine gT ?_);refine zAN wtd_ _ _ _ rfl rfl evd_ H (i:=2) i_2 rfl (by show 0<9;omega) (by first|(with_reducible exact zAD zAF)|(with_reducible exact zAD zAo)|(with_reducible exact zAD zA3)) ?_;clear H;intro w H;(rw[zCB]at H);simp only[sc]at H)|(first|((with_reducible refine gTi ?_);refine aTi H ?_;clear H;intro w H;try simp only[nr]at H)|((with_reducible refine gLi ?_);refine aLi H ?_)|((with_reducible refine gL ?_);refine aGi H ?_)))
  (refine zEl Tryz.results150 rfl (by first|rfl|(simp only[pl];rfl)) H (i:=2) i_2 zAp rfl rfl ?_)
  exact⟨by rw[E.out];rfl,H.below⟩
 have d5:(x.kind == 5)=false:=by rw[beq_eq_false_iff_ne];exact k5
 by_cases k6:x.kind=6
 ·have d6:(x.kind == 6)=true:=by rw[beq_iff_eq];exact k6
  have E:=Lib.hid (show zC1 n x=({kind:=x.kind},true) by unfold zC1;rw[if_neg k1,if_neg k2,if_neg k3,if_neg k4,if_pos (.inr k6)])
  clear k1 k2 k3 k4 k5 k6
  go_enter Tryz.func150,Tryz.ntmps150
  go_upto_region 1 with (first|((with_reducible refine kg 2 ?_);(first|refine kA 2 H ?_|refine kS 2 H ?_|refine kB 2 H ?_);clear H;intro b2 w H;try simp only[nr]at H)|((with_reducible refine kg 3 ?_);(first|refine kA 3 H ?_|refine kS 3 H ?_|refine kB 3 H ?_);clear H;intro b3 w H;try simp only[nr]at H)|((with_reducible refine kg 4 ?_);(first|refine kA 4 H ?_|refine kS 4 H ?_|refine kB 4 H ?_);clear H;intro b4 w H;try simp only[nr]at H)|fail)
  rw[zHL]at H
  try simp only[Value.cells]at H
  go_wp2_with (first|((with_reducible refine gT ?_);refine zAN wtd_ _ _ _ rfl rfl evd_ H (i:=2) i_2 rfl (by show 0<9;omega) (by first|(with_reducible exact zAD zAF)|(with_reducible exact zAD zAo)|(with_reducible exact zAD zA3)) ?_;clear H;intro w H;(rw[zCB]at H);simp only[sc]at H)|(first|((with_reducible refine gTi ?_);refine aTi H ?_;clear H;intro w H;try simp only[nr]at H)|((with_reducible refine gLi ?_);refine aLi H ?_)|((with_reducible refine gL ?_);refine aGi H ?_)))
  (refine zEl Tryz.results150 rfl (by first|rfl|(simp only[pl];rfl)) H (i:=2) i_2 zAp rfl rfl ?_)
  exact⟨by rw[E.out];rfl,H.below⟩
 ·have d6:(x.kind == 6)=false:=by rw[beq_eq_false_iff_ne];exact k6
  have E:=Lib.hid (show zC1 n x=({kind:=x.kind},false) by unfold zC1;rw[if_neg k1,if_neg k2,if_neg k3,if_neg k4,if_neg (fun h=>h.elim k5 k6)])
  clear k1 k2 k3 k4 k5 k6
  go_enter Tryz.func150,Tryz.ntmps150
  go_upto_region 1 with (first|((with_reducible refine kg 2 ?_);(first|refine kA 2 H ?_|refine kS 2 H ?_|refine kB 2 H ?_);clear H;intro b2 w H;try simp only[nr]at H)|((with_reducible refine kg 3 ?_);(first|refine kA 3 H ?_|refine kS 3 H ?_|refine kB 3 H ?_);clear H;intro b3 w H;try simp only[nr]at H)|((with_reducible refine kg 4 ?_);(first|refine kA 4 H ?_|refine kS 4 H ?_|refine kB 4 H ?_);clear H;intro b4 w H;try simp only[nr]at H)|fail)
  rw[zHL]at H
  try simp only[Value.cells]at H
  go_wp2_with (first|((with_reducible refine gT ?_);refine zAN wtd_ _ _ _ rfl rfl evd_ H (i:=2) i_2 rfl (by show 0<9;omega) (by first|(with_reducible exact zAD zAF)|(with_reducible exact zAD zAo)|(with_reducible exact zAD zA3)) ?_;clear H;intro w H;(rw[zCB]at H);simp only[sc]at H)|(first|((with_reducible refine gTi ?_);refine aTi H ?_;clear H;intro w H;try simp only[nr]at H)|((with_reducible refine gLi ?_);refine aLi H ?_)|((with_reducible refine gL ?_);refine aGi H ?_)))
  (refine zEl Tryz.results150 rfl (by first|rfl|(simp only[pl];rfl)) H (i:=2) i_2 zAp rfl rfl ?_)
  exact⟨by rw[E.out];rfl,H.below⟩
section
variable {M:Nat->Prop} {ops:Array Oper} {dst:Option Tmp} {ty:TypeId} {pos:String} {aft:Array Edge} {grd:Option (Nat × Bool)} {rest:List Oper} {a:Act} {w w0:World} {l:List Res} {Q:Exit->Act->World->Prop}
theorem gNI {U:TypeId} {x y:Operand} (h:wpList Tryz.prog ops Q ((⟨dst,.binOp .neq 33 x y U,ty,pos,aft,grd⟩:Oper)::rest) a w):wpList Tryz.prog ops Q ((⟨dst,.binOp .neq 33 x y U,ty,pos,aft,grd⟩:Oper)::rest) a w:=h
theorem nI {U:TypeId} {x y:Operand} {d e:InstD} (h:wpList Tryz.prog ops Q rest (a.put dst (.bool (!(eqI d e)))) w) (hg:Region.wanted (⟨dst,.binOp .neq 33 x y U,ty,pos,aft,grd⟩:Oper) (yielded ops a.tmps)=true:=by first|rfl|exact zAT rfl (zAM rfl (by first|rfl|(simp only[pe];rfl)))) (hx:a.eval x=zA8 d:=by first|(simp only[pe];done)|(simp only[pe];rfl)) (hy:a.eval y=zA8 e:=by first|(simp only[pe];done)|(simp only[pe];rfl)):wpList Tryz.prog ops Q ((⟨dst,.binOp .neq 33 x y U,ty,pos,aft,grd⟩:Oper)::rest) a w :=
 zAh hg (zPP rfl hx hy) h
end
theorem zMg (x:InstD) (q:Option Addr) (n c b:Nat) (w0:World) (hn:0<n) (hn2:n<=1000000) (hlt:b<w0.heap.size) (hb:w0.cell? ⟨b,0,none⟩=some (.slice q n c)):Calls Tryz.prog 149 #[zA8 x,.pointer (some ⟨b,0,none⟩)] w0 (Rt (.bool (!(zBG n x))) w0):=by
 have H:=(Hold.start w0).know (·=b) (fun V=>V.cell? ⟨b,0,none⟩=some (.slice q n c)) (fun _ h=>by omega) (fun i r h=>by simp at h) (fun V hV=>by rw[← hb];simp[World.cell?,hV b rfl])
 simp only[List.nil_append]at H;have hba:=fun w=>zPE x n w hn hn2
 have E:=Lib.hid (zLD n hn x)
 cases hz:(zC1 n x).2 with
 | true =>
  rw[hz]at hba
  go_enter Tryz.func149,Tryz.ntmps149
  go_wp2_with (first|((with_reducible refine gNI ?_);refine nI ?_)|((with_reducible refine gL ?_);refine zAK wtd_ _ _ rfl rfl zCI (H.kn (i:=0) .zero) ?_)|(first|((with_reducible refine gTi ?_);refine aTi H ?_;clear H;intro w H;try simp only[nr]at H)|((with_reducible refine gLi ?_);refine aLi H ?_)|((with_reducible refine gX ?_);(refine bB H ?_;clear H;intro b w H;try simp only[nr]at H))|((with_reducible refine gA ?_);(refine bA H ?_;clear H;intro b w H;try simp only[nr]at H)))|((with_reducible refine ch (hba _) H ?_);clear H;intro w H))
  go_ret;refine⟨?_,H.below⟩;rw[← E.out,hz];rfl
 | false =>
  rw[hz]at hba
  go_enter Tryz.func149,Tryz.ntmps149
  go_wp2_with (first|((with_reducible refine gL ?_);refine zAK wtd_ _ _ rfl rfl zCI (H.kn (i:=0) .zero) ?_)|(first|((with_reducible refine gTi ?_);refine aTi H ?_;clear H;intro w H;try simp only[nr]at H)|((with_reducible refine gLi ?_);refine aLi H ?_)|((with_reducible refine gX ?_);(refine bB H ?_;clear H;intro b w H;try simp only[nr]at H))|((with_reducible refine gA ?_);(refine bA H ?_;clear H;intro b w H;try simp only[nr]at H)))|((with_reducible refine ch (hba _) H ?_);clear H;intro w H))
  go_ret;refine⟨?_,H.below⟩;rw[← E.out,hz];rfl
theorem zL7 (p q:Option Addr) (c cq b:Nat) (xs:List InstD) (F:Nat->Prop) (w0:World) (hn:0<xs.length) (hn2:xs.length<=1000000) (hF:∀ b,F b->b<w0.heap.size) (h:InstsR F p c xs w0) (hlt:b<w0.heap.size) (hb:w0.cell? ⟨b,0,none⟩=some (.slice q xs.length cq)) :
  Calls Tryz.prog 164 #[.slice p xs.length c,.func (.func 149) #[] #[.pointer (some ⟨b,0,none⟩)]] w0 fun e w'=>∃ r:Int,e=.returned (.int .i64 r)/\decide (0<=r)=!(xs.all (zBG xs.length))/\Below w0.heap.size w0 w':=by
 have hc:=h.bound;have hp:=h.at;have H:=Hold.insts hF h
 replace H:=H.know (·=b) (fun V=>V.cell? ⟨b,0,none⟩=some (.slice q xs.length cq)) (fun _ h=>by omega) (fun i r h=>by
  rcases i with _|i
  ·simp at h;subst h;intro b hb;cases hb
  ·simp at h) (fun V hV=>by rw[← hb];simp[World.cell?,hV b rfl])
 simp only[ca]at H;clear h hb;obtain⟨n,hnn⟩:∃ n,xs.length=n:=⟨_,rfl⟩;rw[hnn]at hc hp hn hn2 H ⊢;have HN:=Lib.hid hnn;clear hnn;have hr1:=fun w x (hl:b<w.heap.size) (hb:w.cell? ⟨b,0,none⟩=some (.slice q n cq))=>zMg x q n cq b w hn hn2 hl hb
 go_enter Tryz.func164,Tryz.ntmps164
 go_wp2_with (first|fail)
 go_loopw [8] (fun ix wr=>∃ (j:Nat),j<=n/\ix=.int .i64 j/\Hid ((xs.take j).all (zBG n)=true)/\Hold w0 wr [.kn F (InstsR F p c xs),.kn (·=b) (fun V=>V.cell? ⟨b,0,none⟩=some (.slice q n cq))]) (fun ix _=>n+1 - (intOf ix).toNat)
 case atStart=>exact⟨0,by omega,rfl,Lib.hid rfl,H⟩
 case round =>
  clear H;obtain⟨j,hj,rfl,EA,H⟩:=hrel
  by_cases hlt:j<n
  ·have dj:decide ((j:Int)<(n:Int))=true:=by simp;omega
   obtain⟨x,hx⟩:∃ x,xs[j]?=some x:=⟨_,List.getElem?_eq_getElem (by rw[HN.out];exact hlt)⟩
   obtain⟨b1,off,rfl⟩:=hp (by omega)
   have hcell:∀ V,InstsR F (some ⟨b1,off,none⟩) c xs V->∀ k,k<9->V.cell? ⟨b1,off+j * 9+k,none⟩=(zAf x)[k]?:=fun V h=>h.cells hx rfl
   cases hr:zBG n x with
   | true =>
    have E:=Lib.hid (zIQ hx EA.out hr);have hr2:=fun w (hl:b<w.heap.size) (hb:w.cell? ⟨b,0,none⟩=some (.slice q n cq))=>hr1 w x hl hb
    rw[hr]at hr2;clear hx hr EA hr1 hp
    go_wp2_with (first|((with_reducible refine gL ?_);refine zCW wtd_ _ _ rfl rfl zAp rfl (hcell _ (H.kn (i:=0) .zero)) ?_)|fail|(go_at_call 149;refine ch (hr2 _ (H.knlt (i:=1) i_1 b rfl) (H.kn (i:=1) i_1)) H ?_;clear H;intro w H))
    go_roundw
    case rel=>exact⟨j+1,by omega,by go_num,E,H⟩
    case measure=>simp[intOf];omega
   | false =>
    have E:=Lib.hid (show xs.all (zBG n)=false by rw[List.all_eq_false];exact⟨x,List.mem_of_getElem? hx,by rw[hr];decide⟩)
    have hr2:=fun w (hl:b<w.heap.size) (hb:w.cell? ⟨b,0,none⟩=some (.slice q n cq))=>hr1 w x hl hb
    rw[hr]at hr2;clear hx hr EA hr1 hp
    go_wp2_with (first|((with_reducible refine gL ?_);refine zCW wtd_ _ _ rfl rfl zAp rfl (hcell _ (H.kn (i:=0) .zero)) ?_)|fail|(go_at_call 149;refine ch (hr2 _ (H.knlt (i:=1) i_1 b rfl) (H.kn (i:=1) i_1)) H ?_;clear H;intro w H))
    go_ret;exact⟨j,rfl,by rw[E.out];simp,H.below⟩
  ·have hjn:j=n:=by omega
   have dj:decide ((j:Int)<(n:Int))=false:=by simp;omega
   have E:=Lib.hid (show xs.all (zBG n)=true by
    have h:=EA.out
    rwa [List.take_of_length_le (by rw[HN.out];omega)]at h)
   clear hp EA hjn hr1
   go_wp2_with (first|fail)
   go_ret;exact⟨-1,rfl,by rw[E.out];simp,H.below⟩
theorem chR {M:Nat->Prop} {P:Program} {f:FuncId} {args:Array Value} {w w0:World} {l:List Res} {D:Int->Prop} {R:Ending->World->Prop} (c:Calls P f args w fun e w'=>∃ r:Int,e=.returned (.int .i64 r)/\D r/\Below w.heap.size w w') (H:HoldG M w0 w l)
  (k:∀ r w',D r->HoldG M w0 w' l->R (.returned (.int .i64 r)) w'):Calls P f args w R:=c.mono fun _ w' ⟨r,e,hd,hb⟩=>by subst e;exact k r w' hd (H.call hb)
theorem zID (p q:Option Addr) (c cq b:Nat) (xs:List InstD) (F:Nat->Prop) (w0:World) (hn:0<xs.length) (hn2:xs.length<=1000000) (hF:∀ b,F b->b<w0.heap.size) (h:InstsR F p c xs w0) (hlt:b<w0.heap.size) (hb:w0.cell? ⟨b,0,none⟩=some (.slice q xs.length cq)) :
  Calls Tryz.prog 148 #[.slice p xs.length c,.func (.func 149) #[] #[.pointer (some ⟨b,0,none⟩)]] w0 fun e w'=>e=.returned (.bool (!(xs.all (zBG xs.length))))/\Below w0.heap.size w0 w':=by
 have hix:=zL7 p q c cq b xs F w0 hn hn2 hF h hlt hb;have H:=Hold.start w0;obtain⟨bb,hbb⟩:∃ bb,xs.all (zBG xs.length)=bb:=⟨_,rfl⟩;rw[hbb]at hix ⊢;obtain⟨n,hnn⟩:∃ n,xs.length=n:=⟨_,rfl⟩;rw[hnn]at hix ⊢;clear hn hn2 hb h hF hlt hnn hbb
 go_enter Tryz.func148,Tryz.ntmps148
 go_wp2_with (first|fail|(go_at_call 164;refine chR hix H ?_;clear H hix;intro r w hd H))
 go_ret;exact⟨by rw[← hd];rfl,H.below⟩
theorem zOi (p:Option Addr) (c:Nat) (xs:List InstD) (F:Nat->Prop) (w0:World) (hF:∀ b,F b->b<w0.heap.size) (h:InstsR F p c xs w0) :
  Calls Tryz.prog 110 #[.slice p xs.length c] w0 (Rt (.bool (zAq xs)) w0):=by
 have H:=Hold.insts hF h;clear h
 by_cases h1:xs.length<1
 ·have d1:decide ((xs.length:Int)<1)=true:=by simp;omega
  have E:=Lib.hid (show zAq xs=false by unfold zAq;rw[decide_eq_false (by omega),Bool.false_and,Bool.false_and])
  go_enter Tryz.func110,Tryz.ntmps110
  go_wp2_with (first|(first|((with_reducible refine gL ?_);refine aG H ?_)|((with_reducible refine gX ?_);(refine bB H ?_;clear H;intro b w H;try simp only[nr]at H))))
  go_ret;exact⟨by rw[E.out];rfl,H.below⟩
 have d1:decide ((xs.length:Int)<1)=false:=by simp;omega
 by_cases h2:4000<xs.length
 ·have d2:decide ((4000:Int)<(xs.length:Int))=true:=by simp;omega
  have E:=Lib.hid (show zAq xs=false by unfold zAq;rw[decide_eq_false (p:=xs.length<=4000) (by omega),Bool.and_false,Bool.false_and])
  go_enter Tryz.func110,Tryz.ntmps110
  go_wp2_with (first|(first|((with_reducible refine gL ?_);refine aG H ?_)|((with_reducible refine gX ?_);(refine bB H ?_;clear H;intro b w H;try simp only[nr]at H))))
  go_ret;exact⟨by rw[E.out];rfl,H.below⟩
 have d2:decide ((4000:Int)<(xs.length:Int))=false:=by simp;omega
 have E:=Lib.hid (show zAq xs=xs.all (zBG xs.length) by unfold zAq;rw[decide_eq_true (by omega),decide_eq_true (by omega)];rfl)
 have hco:=fun w b (h1:∀ b,F b->b<w.heap.size) (h2:InstsR F p c xs w) (h3:b<w.heap.size) (h4:w.cell? ⟨b,0,none⟩=some (.slice p xs.length c))=>zID p p c c b xs F w (by omega) (by omega) h1 h2 h3 h4
 clear h1 h2
 go_enter Tryz.func110,Tryz.ntmps110
 go_wp2_with (first|((with_reducible refine kg 1 ?_);(first|refine kA 1 H ?_|refine kS 1 H ?_|refine kB 1 H ?_);clear H;intro b1 w H;try simp only[nr]at H)|((with_reducible refine gL ?_);refine aG H ?_)|(go_at_call 148;refine ch (hco _ b1 (H.knlt (i:=0) .zero) (H.kn (i:=0) .zero) ((Array.getElem?_eq_some_iff.1 (H.blk (i:=1) i_1).2).1) (H.cell (i:=1) i_1 0)) H ?_;clear H;intro w H))
 go_ret;exact⟨by rw[E.out];simp,H.below⟩
theorem zNR (p:Option Addr) (c:Nat) (xs:List InstD) (F:Nat->Prop) (w0:World) (hF:∀ b,F b->b<w0.heap.size) (h:InstsR F p c xs w0) :
  Calls Tryz.prog 112 #[.slice p xs.length c] w0 (Rt (.int .i64 (zGc xs)) w0):=by
 have hc:=h.bound;have hp:=h.at;have H:=Hold.insts hF h;clear h;obtain⟨n,hn⟩:∃ n,xs.length=n:=⟨_,rfl⟩;rw[hn]at hc hp ⊢;have HN:=Lib.hid hn;clear hn
 go_enter Tryz.func112,Tryz.ntmps112
 go_wp2_with (first|fail)
 go_loopw [3,8] (fun vs ix wr=>∃ (j:Nat),j<=n/\vs=.int .i64 (zDZ (xs.take j))/\ix=.int .i64 j/\Hold w0 wr [.kn F (InstsR F p c xs)]) (fun _ ix _=>n+1 - (intOf ix).toNat)
 case atStart=>exact⟨0,by omega,rfl,rfl,H⟩
 case round =>
  clear H;obtain⟨j,hj,rfl,rfl,H⟩:=hrel
  by_cases hlt:j<n
  ·have dj:decide ((j:Int)<(n:Int))=true:=by simp;omega
   obtain⟨x,hx⟩:∃ x,xs[j]?=some x:=⟨_,List.getElem?_eq_getElem (by rw[HN.out];exact hlt)⟩
   obtain⟨b,off,rfl⟩:=hp (by omega)
   have hcell:∀ V,InstsR F (some ⟨b,off,none⟩) c xs V->∀ k,k<9->V.cell? ⟨b,off+j * 9+k,none⟩=(zAf x)[k]?:=fun V h=>h.cells hx rfl
   have E:=Lib.hid (zG0 hx);clear hx hp
   go_wp2_with (first|((with_reducible refine gL ?_);refine zCW wtd_ _ _ rfl rfl zAp rfl (hcell _ (H.kn (i:=0) .zero)) ?_)|(first|((with_reducible refine gTi ?_);refine aTi H ?_;clear H;intro w H;try simp only[nr]at H)|((with_reducible refine gL ?_);refine aGi H ?_)|((with_reducible refine gA ?_);(refine bA H ?_;clear H;intro b w H;try simp only[nr]at H))))
   all_goals (go_roundw)
   case rel=>exact⟨j+1,by omega,by rw[E.out,show (if zDZ (List.take j xs)<x.slot then x.slot else zDZ (List.take j xs))=max (zDZ (List.take j xs)) x.slot by omega],by go_num,H.pick [0] _ (by decide) rfl⟩
   case measure=>simp[intOf];omega
  ·have hjn:j=n:=by omega
   subst hjn;have dj:decide ((j:Int)<(j:Int))=false:=by simp
   have E:=Lib.hid (show zDZ (xs.take j)=zDZ xs by rw[List.take_of_length_le (by rw[HN.out];omega)])
   clear hp
   go_wp2_with (first|fail)
   go_ret;exact⟨by unfold zGc;rw[← E.out];rfl,H.below⟩
end
end Go.Proofs.YtphjgfjbiimkjaaGreat
