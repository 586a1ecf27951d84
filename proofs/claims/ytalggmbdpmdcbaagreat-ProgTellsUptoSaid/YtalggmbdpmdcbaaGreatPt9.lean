/-
  Laws of walks, and walks.
-/
import Derived.Test.YtalggmbdpmdcbaaGreatPt7
import Derived.Test.YtalggmbdpmdcbaaGreatPt8
import Derived.Test.YtalggmbdpmdcbaaGreatPt5
set_option linter.unusedVariables false
set_option linter.unusedSimpArgs false
set_option maxRecDepth 100000
set_option maxHeartbeats 16000000
namespace Go.Proofs.YtalggmbdpmdcbaaGreat
section
open Go.RowKit Go.Shelf
attribute [local go_sem] Oper.semAt_some
theorem zID (u s:Nat->Nat) (W:World):(Op.equalIn 9999 25 (.agg #[.int .u64 (u 0),.int .u64 (u 1),.int .u64 (u 2),.int .u64 (u 3)]) (.agg #[.int .u64 (s 0),.int .u64 (s 1),.int .u64 (s 2),.int .u64 (s 3)])).run Tryz.prog W=.ok (eqS u s) W:=by
 have hi:(Tryz.prog.info? 23).isSome=true:=by kernel_rfl
 obtain⟨i,hi⟩:=Option.isSome_iff_exists.1 hi;have hu:Tryz.prog.underlying 23=some (.int .u64):=by kernel_rfl
 have hc:Tryz.prog.cellsOf 23=1:=by kernel_rfl
 have hst:∀ (x:Nat->Nat) (k:Nat),k<4->∀ W,(part 23 #[.int .u64 (x 0),.int .u64 (x 1),.int .u64 (x 2),.int .u64 (x 3)] (k * 1)).run Tryz.prog W=.ok (.int .u64 (x k)) W:=by
  intro x k hk W;rw[Nat.mul_one]
  match k,hk with
  | 0,_=>simp[go_sem]
  | 1,_=>simp[go_sem]
  | 2,_=>simp[go_sem]
  | 3,_=>simp[go_sem]
 rw[run_equalIn_array W 9998 (n:=4) _ _ (by kernel_rfl) hi,hc]
 have hl:List.range 4=[0,1,2,3]:=by decide
 have he:∀ (a b:Nat),((a:Int) == (b:Int))=(a == b):=by intro a b;rw[Bool.eq_iff_iff];simp;omega
 rw[hl];unfold eqS;simp only[Op.eqItems,Sem.run_bind];simp only[hst u 0 (by decide),hst s 0 (by decide),Result.andThen_ok,run_equalIn_int _ _ _ _ _ _ _ hu,he]
 cases u 0 == s 0
 ·simp
 simp only[Bool.not_true,Bool.false_eq_true,if_false,Bool.true_and,Sem.run_bind];simp only[hst u 1 (by decide),hst s 1 (by decide),Result.andThen_ok,run_equalIn_int _ _ _ _ _ _ _ hu,he]
 cases u 1 == s 1
 ·simp
 simp only[Bool.not_true,Bool.false_eq_true,if_false,Bool.true_and,Sem.run_bind];simp only[hst u 2 (by decide),hst s 2 (by decide),Result.andThen_ok,run_equalIn_int _ _ _ _ _ _ _ hu,he]
 cases u 2 == s 2
 ·simp
 simp only[Bool.not_true,Bool.false_eq_true,if_false,Bool.true_and,Sem.run_bind];simp only[hst u 3 (by decide),hst s 3 (by decide),Result.andThen_ok,run_equalIn_int _ _ _ _ _ _ _ hu,he]
 cases u 3 == s 3<;>simp
theorem zNP {o:Oper} {a:Act} {w:World} {x y:Operand} {U:TypeId} {d e:InstD} (hop:o.op=.binOp .neq 47 x y U) (hx:a.eval x=zAm d) (hy:a.eval y=zAm e):(execOp a.eval o).run Tryz.prog w=.ok (.value (.bool (!(eqI d e)))) w:=by
 have he:=zID d.set e.set w;simp only[execOp,hop,hx,hy];unfold zAm zAL eqI;simp[go_sem,he]
 by_cases h0:d.kind=e.kind
 ·cases h1:eqS d.set e.set
  ·simp[h0]
  ·by_cases h2:d.next=e.next
   ·by_cases h3:d.other=e.other
    ·by_cases h4:d.slot=e.slot
     ·by_cases h5:d.spot=e.spot<;>simp[h0,h2,h3,h4,h5]
     ·simp[h0,h2,h3,h4]
    ·simp[h0,h2,h3]
   ·simp[h0,h2]
 ·simp[h0]
theorem zQl {z z':Int} (h:z=z'):Ending.returned (.int .i64 z)=Ending.returned (.int .i64 z'):=by rw[h]
theorem zRI (a b:Int):Builtin.max2 (.int .i64 a) (.int .i64 b)=pure (.int .i64 (max a b)):=by
 show (pure (.int .i64 (if b > a then b else a)):Sem Value)=_
 rw[show (if b > a then b else a)=max a b by omega]
theorem zEa (v:Int) (n b:Nat) (w0:World) (hn:0<n) (hn2:n<=1000000) (hb:w0.cell? ⟨b,0,none⟩=some (.int .i64 n)):Calls Tryz.prog 114 #[.int .i64 v,.pointer (some ⟨b,0,none⟩)] w0 (Rt (.int .i64 (zBE n v)) w0):=by
 have hlt:b<w0.heap.size:=by
  unfold World.cell? at hb
  cases h:w0.heap[b]? with
  | none=>simp[h]at hb
  | some x=>exact(Array.getElem?_eq_some_iff.1 h).1
 have H:=(Hold.start w0).know (·=b) (fun V=>V.cell? ⟨b,0,none⟩=some (.int .i64 n)) (fun _ h=>by omega) (fun i r h=>by simp at h) (fun V hV=>by rw[← hb];simp[World.cell?,hV b rfl])
 simp only[List.nil_append]at H
 go_enter Tryz.func114,Tryz.ntmps114
 go_wp2_with (first|((with_reducible refine gL ?_);refine zAT wtd_ _ _ rfl rfl zAI (H.kn (i:=0) .zero) ?_)|fail)
 all_goals (go_ret;exact⟨zQl (by unfold zBE;omega),H.below⟩)
theorem zRq (a b:Int):Builtin.min2 (.int .i64 a) (.int .i64 b)=pure (.int .i64 (min a b)):=by
 show (pure (.int .i64 (if b<a then b else a)):Sem Value)=_
 rw[show (if b<a then b else a)=min a b by omega]
theorem zFK {P:Program} {ev:Operand->Value} {w:World} {o:Oper} {x y:Operand} {ts:Array TypeId} {i j:Int} (hop:o.op=Op.call {callee:=.builtin .max,args:=#[x,y],argTypes:=ts}) (hx:ev x=.int .i64 i) (hy:ev y=.int .i64 j) :
  (execOp ev o).run P w=.ok (.value (.int .i64 (max i j))) w:=by
 simp[execOp,hop,hx,hy,go_sem,Builtin.max_,zRI]
theorem zFQ {P:Program} {ev:Operand->Value} {w:World} {o:Oper} {x y:Operand} {ts:Array TypeId} {i j:Int} (hop:o.op=Op.call {callee:=.builtin .min,args:=#[x,y],argTypes:=ts}) (hx:ev x=.int .i64 i) (hy:ev y=.int .i64 j) :
  (execOp ev o).run P w=.ok (.value (.int .i64 (min i j))) w:=by
 simp[execOp,hop,hx,hy,go_sem,Builtin.min_,zRq]
theorem zFj {P:Program} {ops:Array Oper} {o:Oper} {a:Act} {w:World} {D:Prop} {f:FuncId} {x y:Operand} {ts:Array TypeId} {v c r:Value} (hg:Region.wanted o (yielded ops a.tmps)=true) (hop:o.op=Op.call {callee:=Callee.value x,args:=#[y],argTypes:=ts}) (hf:∀ args w,(callFunc f args).run P w=.ok (.enter f args) w)
  (hx:a.eval x=.func (.func f) #[] #[c]) (hy:a.eval y=v) (hc:Calls P f #[v,c] w fun e w'=>e=.returned r/\Below w.heap.size w w') (hD:¬ D):zBU P ops o a w (fun v' w'=>v'=r/\(D->w.heap.size<=blk v')):=by
 refine zN8 hg (f:=f) (args:=#[v,c]) ?_ (hc.mono fun _ _ ⟨he,hb⟩=>⟨r,he,hb,rfl,fun h=>(hD h).elim⟩)
 simp only[execOp,hop];simp[resolve,hx,hy,Deferred.ofValue,invoke,hf]
theorem zCy (x:InstD) (v:Int):(zAL x).setIfInBounds 0 (.int .i64 v)=zAL {x with kind:=v}:=rfl
theorem zEp (x:InstD) (v:Int):(zAL x).setIfInBounds 5 (.int .i64 v)=zAL {x with next:=v}:=rfl
theorem zLo (x:InstD) (v:Int):(zAL x).setIfInBounds 6 (.int .i64 v)=zAL {x with other:=v}:=rfl
theorem zMB (x:InstD) (v:Int):(zAL x).setIfInBounds 7 (.int .i64 v)=zAL {x with slot:=v}:=rfl
theorem zLu (x:InstD) (v:Int):(zAL x).setIfInBounds 8 (.int .i64 v)=zAL {x with spot:=v}:=rfl
theorem zMg (x:InstD) (s:Nat->Nat):zDg (zAL x) 1 (setC s).toList=zAL {x with set:=s}:=rfl
theorem zQd (x:InstD) (n:Nat) (w0:World) (hn:0<n) (hn2:n<=1000000):Calls Tryz.prog 53 #[zAm x,.int .i64 n] w0 (Rt (.tuple #[zAm (zDz n x).1,.bool (zDz n x).2]) w0):=by
 have H:=Hold.start w0
 by_cases k1:x.kind=1
 ·have d1:(x.kind == 1)=true:=by rw[beq_iff_eq];exact k1
  have E:=Lib.hid (show zDz n x=({kind:=x.kind,set:=x.set,next:=zBE n x.next},!eqS x.set zAU) by unfold zDz;rw[if_pos k1])
  clear k1
  go_enter Tryz.func53,Tryz.ntmps53
  go_upto_region 1 with (first|((with_reducible refine kg 2 ?_);(first|refine kA 2 H ?_|refine kS 2 H ?_|refine kB 2 H ?_);clear H;intro b2 w H;try simp only[nr]at H)|((with_reducible refine kg 3 ?_);(first|refine kA 3 H ?_|refine kS 3 H ?_|refine kB 3 H ?_);clear H;intro b3 w H;try simp only[nr]at H)|((with_reducible refine kg 4 ?_);(first|refine kA 4 H ?_|refine kS 4 H ?_|refine kB 4 H ?_);clear H;intro b4 w H;try simp only[nr]at H)|fail)
  rw[zKl]at H
  try simp only[Value.cells]at H
  go_upto_region 6 with (first|((with_reducible refine gT ?_);refine zAb wtd_ _ _ _ rfl rfl evd_ H (i:=2) i_2 rfl (by show 0<9;omega) (by first|(with_reducible exact zAH zAI)|(with_reducible exact zAH zAh)|(with_reducible exact zAH zA0)) ?_;clear H;intro w H;(rw[zCy]at H);simp only[sc]at H)|((with_reducible refine gL ?_);refine aGi H ?_))
  refine zAp 7 [fun u _=>u=pt b2 1,fun u _=>u=setV x.set,fun u _=>u=.func (.func 114) #[] #[.pointer (some ⟨b3,0,none⟩)],fun u _=>u=pt b2 5,fun u _=>u=.int .i64 (x.next),fun u _=>u=.int .i64 (zBE n (x.next)),fun u _=>u=pt b4 1] (fun _=>false) (by kernel_rfl) (by kernel_rfl) (by kernel_rfl) ⟨zAJ _,zAJ _,zAJ _,zAJ _,zAJ _,zAJ _,zAJ _,trivial⟩ (fun _ _ h=>by cases h) ?ob ?en
  case ob =>
   refine⟨?_,?_,?_,?_,?_,?_,?_,trivial⟩<;>intro A W h
   ·(have e:A.eval (.tmp 2)=.pointer (some ⟨b2,0,none⟩):=h.f 2;refine zAA rfl ?_ (by decide);simp only[execOp,e];simp[go_sem])
   ·exact zAA rfl (zAV rfl (h.d 0 16) zBp rfl (fun j hj=>by have h1:=(H.call h.below).cell (i:=0) .zero (1+j);rcases j with _|_|_|_|j<;>first|exact h1|omega)) (by decide)
   ·exact zAB rfl rfl (h.f 6) (by decide)
   ·(have e:A.eval (.tmp 2)=.pointer (some ⟨b2,0,none⟩):=h.f 2;refine zAA rfl ?_ (by decide);simp only[execOp,e];simp[go_sem])
   ·exact zAA rfl (zAG rfl (h.d 3 19) zAI ((H.call h.below).cell (i:=0) .zero 5)) (by decide)
   ·exact zFj rfl rfl (enters_of Tryz.func114 (by kernel_rfl) rfl) (h.d 2 18) (h.d 4 20) (zEa _ n b3 W hn hn2 ((H.call h.below).cell (i:=1) i_1 0)) (by decide)
   ·(have e:A.eval (.tmp 4)=.pointer (some ⟨b4,0,none⟩):=h.f 4;refine zAA rfl ?_ (by decide);simp only[execOp,e];simp[go_sem])
  case en =>
   intro vals W hbw hv _;have v0:vals 0=.pointer (some ⟨b2,1,none⟩):=hv 0 (by omega)
   have v1:vals 1=setV x.set:=hv 1 (by omega)
   have v2:vals 2=.func (.func 114) #[] #[.pointer (some ⟨b3,0,none⟩)]:=hv 2 (by omega)
   have v3:vals 3=.pointer (some ⟨b2,5,none⟩):=hv 3 (by omega)
   have v4:vals 4=.int .i64 (x.next):=hv 4 (by omega)
   have v5:vals 5=.int .i64 (zBE n (x.next)):=hv 5 (by omega)
   have v6:vals 6=.pointer (some ⟨b4,1,none⟩):=hv 6 (by omega)
   simp only[fa,Nat.reduceAdd];rw[v0,v1,v2,v3,v4,v5,v6];clear hv v0 v1 v2 v3 v4 v5 v6;simp only[pl];replace H:=H.call hbw
   go_upto_region 7 with (first|((with_reducible refine gT ?_);refine zGA wtd_ _ _ _ rfl rfl (vs:=setC x.set) evd_ H (i:=2) i_2 (zAu zBp) rfl rfl (by show 1+4<=9;omega) ?_;clear H;intro w H;(rw[zMg]at H);simp only[sc]at H)|((with_reducible refine gT ?_);refine zAb wtd_ _ _ _ rfl rfl evd_ H (i:=2) i_2 rfl (by show 5<9;omega) (by first|(with_reducible exact zAH zAI)|(with_reducible exact zAH zAh)|(with_reducible exact zAH zA0)) ?_;clear H;intro w H;(rw[zEp]at H);simp only[sc]at H)|fail)
   have hS:∀ W,RelS b4 (zAL {kind:=x.kind,set:=x.set,next:=zBE n x.next}) 47 w W->∃ ds,ds.size=9/\Hold w0 W [.blk b2 (zAL x) 47,.blk b3 #[.int .i64 n] 3,.blk b4 ds 47]/\ds=zAL {kind:=x.kind,set:=x.set,next:=zBE n x.next}:=fun W hr=>by
    obtain⟨ds,hds,H2⟩:=H.relS (i:=2) i_2 hr;exact⟨ds,by rcases hds with rfl|rfl<;>rfl,H2,by rcases hds with rfl|rfl<;>rfl⟩
   refine zCF (RelS b4 (zAL {kind:=x.kind,set:=x.set,next:=zBE n x.next}) 47) RelS.refl RelS.trans RelS.drew 6 [fun u _=>u=zAm {kind:=x.kind,set:=x.set,next:=zBE n x.next},fun u _=>u=pt b2 1,fun u _=>u=setV x.set,fun u _=>u=setV zAU,fun u _=>u=.bool (!(eqS x.set zAU)),zK5 b4 (zAL {kind:=x.kind,set:=x.set,next:=zBE n x.next}) 47]
    ⟨zAe _,zAe _,zAe _,zAe _,zAe _,zDd,trivial⟩ (by kernel_rfl) (by kernel_rfl) (by kernel_rfl) ?ob ?en
   case ob =>
    refine⟨?_,?_,?_,?_,?_,?_,trivial⟩<;>intro A W h
    ·obtain⟨ds,_,H2,rfl⟩:=hS W h.rel;exact zB8 rfl (zAF RelS.refl rfl (zAV rfl (h.f 4) zAg rfl (fun k _=>by rw[Nat.zero_add];exact H2.cell (i:=2) i_2 k)))
    ·(have e:A.eval (.tmp 2)=.pointer (some ⟨b2,0,none⟩):=h.f 2;refine zB8 rfl (zAF RelS.refl rfl ?_);simp only[execOp,e];simp[go_sem])
    ·obtain⟨ds,_,H2,rfl⟩:=hS W h.rel;exact zB8 rfl (zAF RelS.refl rfl (zAV rfl (h.d 1 25) zBp rfl (fun j hj=>by have h1:=H2.cell (i:=0) .zero (1+j);rcases j with _|_|_|_|j<;>first|exact h1|omega)))
    ·exact zB8 rfl (zAF RelS.refl rfl (zLZ rfl))
    ·exact zB8 rfl (zAF RelS.refl rfl (zNK rfl (h.d 2 26) (h.d 3 27)))
    ·obtain⟨ds,hsz,H2,_⟩:=hS W h.rel;exact zIo rfl rfl rfl (h.f 4) (H2.blk (i:=2) i_2).2 hsz (h.d 0 24) (zAu (n:=9) zAg) rfl
   case en =>
    intro vals W1 hrel hv hlk;have v0:vals 0=zAm {kind:=x.kind,set:=x.set,next:=zBE n x.next}:=hv 0 (by omega)
    have v1:vals 1=.pointer (some ⟨b2,1,none⟩):=hv 1 (by omega)
    have v2:vals 2=setV x.set:=hv 2 (by omega)
    have v3:vals 3=setV zAU:=hv 3 (by omega)
    have v4:vals 4=.bool (!(eqS x.set zAU)):=hv 4 (by omega)
    have H2:=H.laidS (i:=2) i_2 hrel (hv 5 (by omega))
    simp only[fa,Nat.reduceAdd];rw[v0,v1,v2,v3,v4];clear hv v0 v1 v2 v3 v4 hlk hrel H hS;have H:=H2;clear H2;simp only[sc]at H;simp only[pl]
    go_wp2_with (first|fail)
    (refine zFL Tryz.results53 rfl (by first|rfl|(simp only[pl];rfl)) H (i:=2) i_2 zAg rfl rfl ?_)
    exact⟨by rw[E.out];rfl,H.below⟩
 have d1:(x.kind == 1)=false:=by rw[beq_eq_false_iff_ne];exact k1
 by_cases k2:x.kind=2
 ·have d2:(x.kind == 2)=true:=by rw[beq_iff_eq];exact k2
  have E:=Lib.hid (show zDz n x=({kind:=x.kind,next:=zBE n x.next,other:=zBE n x.other},true) by unfold zDz;rw[if_neg k1,if_pos k2])
  clear k1 k2
  go_enter Tryz.func53,Tryz.ntmps53
  go_upto_region 1 with (first|((with_reducible refine kg 2 ?_);(first|refine kA 2 H ?_|refine kS 2 H ?_|refine kB 2 H ?_);clear H;intro b2 w H;try simp only[nr]at H)|((with_reducible refine kg 3 ?_);(first|refine kA 3 H ?_|refine kS 3 H ?_|refine kB 3 H ?_);clear H;intro b3 w H;try simp only[nr]at H)|((with_reducible refine kg 4 ?_);(first|refine kA 4 H ?_|refine kS 4 H ?_|refine kB 4 H ?_);clear H;intro b4 w H;try simp only[nr]at H)|fail)
  rw[zKl]at H
  try simp only[Value.cells]at H
  go_upto_region 9 with (first|((with_reducible refine gT ?_);refine zAb wtd_ _ _ _ rfl rfl evd_ H (i:=2) i_2 rfl (by show 0<9;omega) (by first|(with_reducible exact zAH zAI)|(with_reducible exact zAH zAh)|(with_reducible exact zAH zA0)) ?_;clear H;intro w H;(rw[zCy]at H);simp only[sc]at H)|((with_reducible refine gL ?_);refine aGi H ?_))
  refine zAp 9 [fun u _=>u=.func (.func 114) #[] #[.pointer (some ⟨b3,0,none⟩)],fun u _=>u=pt b2 5,fun u _=>u=.int .i64 (x.next),fun u _=>u=.int .i64 (zBE n (x.next)),fun u _=>u=.func (.func 114) #[] #[.pointer (some ⟨b3,0,none⟩)],fun u _=>u=pt b2 6,fun u _=>u=.int .i64 (x.other),fun u _=>u=.int .i64 (zBE n (x.other)),fun u _=>u=pt b4 5] (fun _=>false) (by kernel_rfl) (by kernel_rfl) (by kernel_rfl) ⟨zAJ _,zAJ _,zAJ _,zAJ _,zAJ _,zAJ _,zAJ _,zAJ _,zAJ _,trivial⟩ (fun _ _ h=>by cases h) ?ob ?en
  case ob =>
   refine⟨?_,?_,?_,?_,?_,?_,?_,?_,?_,trivial⟩<;>intro A W h
   ·exact zAB rfl rfl (h.f 6) (by decide)
   ·(have e:A.eval (.tmp 2)=.pointer (some ⟨b2,0,none⟩):=h.f 2;refine zAA rfl ?_ (by decide);simp only[execOp,e];simp[go_sem])
   ·exact zAA rfl (zAG rfl (h.d 1 32) zAI ((H.call h.below).cell (i:=0) .zero 5)) (by decide)
   ·exact zFj rfl rfl (enters_of Tryz.func114 (by kernel_rfl) rfl) (h.d 0 31) (h.d 2 33) (zEa _ n b3 W hn hn2 ((H.call h.below).cell (i:=1) i_1 0)) (by decide)
   ·exact zAB rfl rfl (h.f 6) (by decide)
   ·(have e:A.eval (.tmp 2)=.pointer (some ⟨b2,0,none⟩):=h.f 2;refine zAA rfl ?_ (by decide);simp only[execOp,e];simp[go_sem])
   ·exact zAA rfl (zAG rfl (h.d 5 36) zAI ((H.call h.below).cell (i:=0) .zero 6)) (by decide)
   ·exact zFj rfl rfl (enters_of Tryz.func114 (by kernel_rfl) rfl) (h.d 4 35) (h.d 6 37) (zEa _ n b3 W hn hn2 ((H.call h.below).cell (i:=1) i_1 0)) (by decide)
   ·(have e:A.eval (.tmp 4)=.pointer (some ⟨b4,0,none⟩):=h.f 4;refine zAA rfl ?_ (by decide);simp only[execOp,e];simp[go_sem])
  case en =>
   intro vals W hbw hv _;have v0:vals 0=.func (.func 114) #[] #[.pointer (some ⟨b3,0,none⟩)]:=hv 0 (by omega)
   have v1:vals 1=.pointer (some ⟨b2,5,none⟩):=hv 1 (by omega)
   have v2:vals 2=.int .i64 (x.next):=hv 2 (by omega)
   have v3:vals 3=.int .i64 (zBE n (x.next)):=hv 3 (by omega)
   have v4:vals 4=.func (.func 114) #[] #[.pointer (some ⟨b3,0,none⟩)]:=hv 4 (by omega)
   have v5:vals 5=.pointer (some ⟨b2,6,none⟩):=hv 5 (by omega)
   have v6:vals 6=.int .i64 (x.other):=hv 6 (by omega)
   have v7:vals 7=.int .i64 (zBE n (x.other)):=hv 7 (by omega)
   have v8:vals 8=.pointer (some ⟨b4,5,none⟩):=hv 8 (by omega)
   simp only[fa,Nat.reduceAdd];rw[v0,v1,v2,v3,v4,v5,v6,v7,v8];clear hv v0 v1 v2 v3 v4 v5 v6 v7 v8;simp only[pl];replace H:=H.call hbw
   go_wp2_with (first|((with_reducible refine gT ?_);refine zAb wtd_ _ _ _ rfl rfl evd_ H (i:=2) i_2 rfl (by show 5<9;omega) (by first|(with_reducible exact zAH zAI)|(with_reducible exact zAH zAh)|(with_reducible exact zAH zA0)) ?_;clear H;intro w H;(rw[zEp]at H);simp only[sc]at H)|((with_reducible refine gT ?_);refine zAb wtd_ _ _ _ rfl rfl evd_ H (i:=2) i_2 rfl (by show 6<9;omega) (by first|(with_reducible exact zAH zAI)|(with_reducible exact zAH zAh)|(with_reducible exact zAH zA0)) ?_;clear H;intro w H;(rw[zLo]at H);simp only[sc]at H)|(first|((with_reducible refine gTi ?_);refine aTi H ?_;clear H;intro w H;try simp only[nr]at H)|((with_reducible refine gLi ?_);refine aLi H ?_)))
   (refine zFL Tryz.results53 rfl (by first|rfl|(simp only[pl];rfl)) H (i:=2) i_2 zAg rfl rfl ?_)
   exact⟨by rw[E.out];rfl,H.below⟩
 have d2:(x.kind == 2)=false:=by rw[beq_eq_false_iff_ne];exact k2
 by_cases k3:x.kind=3
 ·have d3:(x.kind == 3)=true:=by rw[beq_iff_eq];exact k3
  have E:=Lib.hid (show zDz n x=({kind:=x.kind,slot:=min (max x.slot 0) 41,next:=zBE n x.next},true) by unfold zDz;rw[if_neg k1,if_neg k2,if_pos k3])
  clear k1 k2 k3
  go_enter Tryz.func53,Tryz.ntmps53
  go_upto_region 1 with (first|((with_reducible refine kg 2 ?_);(first|refine kA 2 H ?_|refine kS 2 H ?_|refine kB 2 H ?_);clear H;intro b2 w H;try simp only[nr]at H)|((with_reducible refine kg 3 ?_);(first|refine kA 3 H ?_|refine kS 3 H ?_|refine kB 3 H ?_);clear H;intro b3 w H;try simp only[nr]at H)|((with_reducible refine kg 4 ?_);(first|refine kA 4 H ?_|refine kS 4 H ?_|refine kB 4 H ?_);clear H;intro b4 w H;try simp only[nr]at H)|fail)
  rw[zKl]at H
  try simp only[Value.cells]at H
  go_upto_region 11 with (first|((with_reducible refine gT ?_);refine zAb wtd_ _ _ _ rfl rfl evd_ H (i:=2) i_2 rfl (by show 0<9;omega) (by first|(with_reducible exact zAH zAI)|(with_reducible exact zAH zAh)|(with_reducible exact zAH zA0)) ?_;clear H;intro w H;(rw[zCy]at H);simp only[sc]at H)|((with_reducible refine gL ?_);refine aGi H ?_))
  refine zAp 9 [fun u _=>u=pt b2 7,fun u _=>u=.int .i64 (x.slot),fun u _=>u=.int .i64 (max (x.slot) 0),fun u _=>u=.int .i64 (min (max x.slot 0) 41),fun u _=>u=.func (.func 114) #[] #[.pointer (some ⟨b3,0,none⟩)],fun u _=>u=pt b2 5,fun u _=>u=.int .i64 (x.next),fun u _=>u=.int .i64 (zBE n (x.next)),fun u _=>u=pt b4 7] (fun _=>false) (by kernel_rfl) (by kernel_rfl) (by kernel_rfl) ⟨zAJ _,zAJ _,zAJ _,zAJ _,zAJ _,zAJ _,zAJ _,zAJ _,zAJ _,trivial⟩ (fun _ _ h=>by cases h) ?ob ?en
  case ob =>
   refine⟨?_,?_,?_,?_,?_,?_,?_,?_,?_,trivial⟩<;>intro A W h
   ·(have e:A.eval (.tmp 2)=.pointer (some ⟨b2,0,none⟩):=h.f 2;refine zAA rfl ?_ (by decide);simp only[execOp,e];simp[go_sem])
   ·exact zAA rfl (zAG rfl (h.d 0 43) zAI ((H.call h.below).cell (i:=0) .zero 7)) (by decide)
   ·exact zAA rfl (zFK rfl (h.d 1 44) rfl) (by decide)
   ·exact zAA rfl (zFQ rfl (h.d 2 45) rfl) (by decide)
   ·exact zAB rfl rfl (h.f 6) (by decide)
   ·(have e:A.eval (.tmp 2)=.pointer (some ⟨b2,0,none⟩):=h.f 2;refine zAA rfl ?_ (by decide);simp only[execOp,e];simp[go_sem])
   ·exact zAA rfl (zAG rfl (h.d 5 48) zAI ((H.call h.below).cell (i:=0) .zero 5)) (by decide)
   ·exact zFj rfl rfl (enters_of Tryz.func114 (by kernel_rfl) rfl) (h.d 4 47) (h.d 6 49) (zEa _ n b3 W hn hn2 ((H.call h.below).cell (i:=1) i_1 0)) (by decide)
   ·(have e:A.eval (.tmp 4)=.pointer (some ⟨b4,0,none⟩):=h.f 4;refine zAA rfl ?_ (by decide);simp only[execOp,e];simp[go_sem])
  case en =>
   intro vals W hbw hv _;have v0:vals 0=.pointer (some ⟨b2,7,none⟩):=hv 0 (by omega)
   have v1:vals 1=.int .i64 (x.slot):=hv 1 (by omega)
   have v2:vals 2=.int .i64 (max (x.slot) 0):=hv 2 (by omega)
   have v3:vals 3=.int .i64 (min (max x.slot 0) 41):=hv 3 (by omega)
   have v4:vals 4=.func (.func 114) #[] #[.pointer (some ⟨b3,0,none⟩)]:=hv 4 (by omega)
   have v5:vals 5=.pointer (some ⟨b2,5,none⟩):=hv 5 (by omega)
   have v6:vals 6=.int .i64 (x.next):=hv 6 (by omega)
   have v7:vals 7=.int .i64 (zBE n (x.next)):=hv 7 (by omega)
   have v8:vals 8=.pointer (some ⟨b4,7,none⟩):=hv 8 (by omega)
   simp only[fa,Nat.reduceAdd];rw[v0,v1,v2,v3,v4,v5,v6,v7,v8];clear hv v0 v1 v2 v3 v4 v5 v6 v7 v8;simp only[pl];replace H:=H.call hbw
   go_wp2_with (first|((with_reducible refine gT ?_);refine zAb wtd_ _ _ _ rfl rfl evd_ H (i:=2) i_2 rfl (by show 7<9;omega) (by first|(with_reducible exact zAH zAI)|(with_reducible exact zAH zAh)|(with_reducible exact zAH zA0)) ?_;clear H;intro w H;(rw[zMB]at H);simp only[sc]at H)|((with_reducible refine gT ?_);refine zAb wtd_ _ _ _ rfl rfl evd_ H (i:=2) i_2 rfl (by show 5<9;omega) (by first|(with_reducible exact zAH zAI)|(with_reducible exact zAH zAh)|(with_reducible exact zAH zA0)) ?_;clear H;intro w H;(rw[zEp]at H);simp only[sc]at H)|(first|((with_reducible refine gTi ?_);refine aTi H ?_;clear H;intro w H;try simp only[nr]at H)|((with_reducible refine gLi ?_);refine aLi H ?_)))
   (refine zFL Tryz.results53 rfl (by first|rfl|(simp only[pl];rfl)) H (i:=2) i_2 zAg rfl rfl ?_)
   exact⟨by rw[E.out];rfl,H.below⟩
 have d3:(x.kind == 3)=false:=by rw[beq_eq_false_iff_ne];exact k3
 by_cases k4:x.kind=4
 ·have d4:(x.kind == 4)=true:=by rw[beq_iff_eq];exact k4
  have E:=Lib.hid (show zDz n x=({kind:=x.kind,spot:=min (max x.spot 8) 13,next:=zBE n x.next},true) by unfold zDz;rw[if_neg k1,if_neg k2,if_neg k3,if_pos k4])
  clear k1 k2 k3 k4
  go_enter Tryz.func53,Tryz.ntmps53
  go_upto_region 1 with (first|((with_reducible refine kg 2 ?_);(first|refine kA 2 H ?_|refine kS 2 H ?_|refine kB 2 H ?_);clear H;intro b2 w H;try simp only[nr]at H)|((with_reducible refine kg 3 ?_);(first|refine kA 3 H ?_|refine kS 3 H ?_|refine kB 3 H ?_);clear H;intro b3 w H;try simp only[nr]at H)|((with_reducible refine kg 4 ?_);(first|refine kA 4 H ?_|refine kS 4 H ?_|refine kB 4 H ?_);clear H;intro b4 w H;try simp only[nr]at H)|fail)
  rw[zKl]at H
  try simp only[Value.cells]at H
  go_upto_region 13 with (first|((with_reducible refine gT ?_);refine zAb wtd_ _ _ _ rfl rfl evd_ H (i:=2) i_2 rfl (by show 0<9;omega) (by first|(with_reducible exact zAH zAI)|(with_reducible exact zAH zAh)|(with_reducible exact zAH zA0)) ?_;clear H;intro w H;(rw[zCy]at H);simp only[sc]at H)|((with_reducible refine gL ?_);refine aGi H ?_))
  refine zAp 9 [fun u _=>u=pt b2 8,fun u _=>u=.int .i64 (x.spot),fun u _=>u=.int .i64 (max (x.spot) 8),fun u _=>u=.int .i64 (min (max x.spot 8) 13),fun u _=>u=.func (.func 114) #[] #[.pointer (some ⟨b3,0,none⟩)],fun u _=>u=pt b2 5,fun u _=>u=.int .i64 (x.next),fun u _=>u=.int .i64 (zBE n (x.next)),fun u _=>u=pt b4 8] (fun _=>false) (by kernel_rfl) (by kernel_rfl) (by kernel_rfl) ⟨zAJ _,zAJ _,zAJ _,zAJ _,zAJ _,zAJ _,zAJ _,zAJ _,zAJ _,trivial⟩ (fun _ _ h=>by cases h) ?ob ?en
  case ob =>
   refine⟨?_,?_,?_,?_,?_,?_,?_,?_,?_,trivial⟩<;>intro A W h
   ·(have e:A.eval (.tmp 2)=.pointer (some ⟨b2,0,none⟩):=h.f 2;refine zAA rfl ?_ (by decide);simp only[execOp,e];simp[go_sem])
   ·exact zAA rfl (zAG rfl (h.d 0 55) zAh ((H.call h.below).cell (i:=0) .zero 8)) (by decide)
   ·exact zAA rfl (zFK rfl (h.d 1 56) rfl) (by decide)
   ·exact zAA rfl (zFQ rfl (h.d 2 57) rfl) (by decide)
   ·exact zAB rfl rfl (h.f 6) (by decide)
   ·(have e:A.eval (.tmp 2)=.pointer (some ⟨b2,0,none⟩):=h.f 2;refine zAA rfl ?_ (by decide);simp only[execOp,e];simp[go_sem])
   ·exact zAA rfl (zAG rfl (h.d 5 60) zAI ((H.call h.below).cell (i:=0) .zero 5)) (by decide)
   ·exact zFj rfl rfl (enters_of Tryz.func114 (by kernel_rfl) rfl) (h.d 4 59) (h.d 6 61) (zEa _ n b3 W hn hn2 ((H.call h.below).cell (i:=1) i_1 0)) (by decide)
   ·(have e:A.eval (.tmp 4)=.pointer (some ⟨b4,0,none⟩):=h.f 4;refine zAA rfl ?_ (by decide);simp only[execOp,e];simp[go_sem])
  case en =>
   intro vals W hbw hv _;have v0:vals 0=.pointer (some ⟨b2,8,none⟩):=hv 0 (by omega)
   have v1:vals 1=.int .i64 (x.spot):=hv 1 (by omega)
   have v2:vals 2=.int .i64 (max (x.spot) 8):=hv 2 (by omega)
   have v3:vals 3=.int .i64 (min (max x.spot 8) 13):=hv 3 (by omega)
   have v4:vals 4=.func (.func 114) #[] #[.pointer (some ⟨b3,0,none⟩)]:=hv 4 (by omega)
   have v5:vals 5=.pointer (some ⟨b2,5,none⟩):=hv 5 (by omega)
   have v6:vals 6=.int .i64 (x.next):=hv 6 (by omega)
   have v7:vals 7=.int .i64 (zBE n (x.next)):=hv 7 (by omega)
   have v8:vals 8=.pointer (some ⟨b4,8,none⟩):=hv 8 (by omega)
   simp only[fa,Nat.reduceAdd];rw[v0,v1,v2,v3,v4,v5,v6,v7,v8];clear hv v0 v1 v2 v3 v4 v5 v6 v7 v8;simp only[pl];replace H:=H.call hbw
   go_wp2_with (first|((with_reducible refine gT ?_);refine zAb wtd_ _ _ _ rfl rfl evd_ H (i:=2) i_2 rfl (by show 8<9;omega) (by first|(with_reducible exact zAH zAI)|(with_reducible exact zAH zAh)|(with_reducible exact zAH zA0)) ?_;clear H;intro w H;(rw[zLu]at H);simp only[sc]at H)|((with_reducible refine gT ?_);refine zAb wtd_ _ _ _ rfl rfl evd_ H (i:=2) i_2 rfl (by show 5<9;omega) (by first|(with_reducible exact zAH zAI)|(with_reducible exact zAH zAh)|(with_reducible exact zAH zA0)) ?_;clear H;intro w H;(rw[zEp]at H);simp only[sc]at H)|(first|((with_reducible refine gTi ?_);refine aTi H ?_;clear H;intro w H;try simp only[nr]at H)|((with_reducible refine gLi ?_);refine aLi H ?_)))
   (refine zFL Tryz.results53 rfl (by first|rfl|(simp only[pl];rfl)) H (i:=2) i_2 zAg rfl rfl ?_)
   exact⟨by rw[E.out];rfl,H.below⟩
 have d4:(x.kind == 4)=false:=by rw[beq_eq_false_iff_ne];exact k4
 by_cases k5:x.kind=5
 ·have d5:(x.kind == 5)=true:=by rw[beq_iff_eq];exact k5
  have E:=Lib.hid (show zDz n x=({kind:=x.kind},true) by unfold zDz;rw[if_neg k1,if_neg k2,if_neg k3,if_neg k4,if_pos (.inl k5)])
  clear k1 k2 k3 k4 k5
  go_enter Tryz.func53,Tryz.ntmps53
  go_upto_region 1 with (first|((with_reducible refine kg 2 ?_);(first|refine kA 2 H ?_|refine kS 2 H ?_|refine kB 2 H ?_);clear H;intro b2 w H;try simp only[nr]at H)|((with_reducible refine kg 3 ?_);(first|refine kA 3 H ?_|refine kS 3 H ?_|refine kB 3 H ?_);clear H;intro b3 w H;try simp only[nr]at H)|((with_reducible refine kg 4 ?_);(first|refine kA 4 H ?_|refine kS 4 H ?_|refine kB 4 H ?_);clear H;intro b4 w H;try simp only[nr]at H)|fail)
  rw[zKl]at H
  try simp only[Value.cells]at H
  go_wp2_with (first|((with_reducible refine gT ?_);refine zAb wtd_ _ _ _ rfl rfl evd_ H (i:=2) i_2 rfl (by show 0<9;omega) (by first|(with_reducible exact zAH zAI)|(with_reducible exact zAH zAh)|(with_reducible exact zAH zA0)) ?_;clear H;intro w H;(rw[zCy]at H);simp only[sc]at H)|(first|((with_reducible refine gTi ?_);refine aTi H ?_;clear H;intro w H;try simp only[nr]at H)|((with_reducible refine gLi ?_);refine aLi H ?_)|((with_reducible refine gL ?_);refine aGi H ?_)))
  (refine zFL Tryz.results53 rfl (by first|rfl|(simp only[pl];rfl)) H (i:=2) i_2 zAg rfl rfl ?_)
  exact⟨by rw[E.out];rfl,H.below⟩
 have d5:(x.kind == 5)=false:=by rw[beq_eq_false_iff_ne];exact k5
 by_cases k6:x.kind=6
 ·have d6:(x.kind == 6)=true:=by rw[beq_iff_eq];exact k6
  have E:=Lib.hid (show zDz n x=({kind:=x.kind},true) by unfold zDz;rw[if_neg k1,if_neg k2,if_neg k3,if_neg k4,if_pos (.inr k6)])
  clear k1 k2 k3 k4 k5 k6
  go_enter Tryz.func53,Tryz.ntmps53
  go_upto_region 1 with (first|((with_reducible refine kg 2 ?_);(first|refine kA 2 H ?_|refine kS 2 H ?_|refine kB 2 H ?_);clear H;intro b2 w H;try simp only[nr]at H)|((with_reducible refine kg 3 ?_);(first|refine kA 3 H ?_|refine kS 3 H ?_|refine kB 3 H ?_);clear H;intro b3 w H;try simp only[nr]at H)|((with_reducible refine kg 4 ?_);(first|refine kA 4 H ?_|refine kS 4 H ?_|refine kB 4 H ?_);clear H;intro b4 w H;try simp only[nr]at H)|fail)
  rw[zKl]at H
  try simp only[Value.cells]at H
  go_wp2_with (first|((with_reducible refine gT ?_);refine zAb wtd_ _ _ _ rfl rfl evd_ H (i:=2) i_2 rfl (by show 0<9;omega) (by first|(with_reducible exact zAH zAI)|(with_reducible exact zAH zAh)|(with_reducible exact zAH zA0)) ?_;clear H;intro w H;(rw[zCy]at H);simp only[sc]at H)|(first|((with_reducible refine gTi ?_);refine aTi H ?_;clear H;intro w H;try simp only[nr]at H)|((with_reducible refine gLi ?_);refine aLi H ?_)|((with_reducible refine gL ?_);refine aGi H ?_)))
  (refine zFL Tryz.results53 rfl (by first|rfl|(simp only[pl];rfl)) H (i:=2) i_2 zAg rfl rfl ?_)
  exact⟨by rw[E.out];rfl,H.below⟩
 ·have d6:(x.kind == 6)=false:=by rw[beq_eq_false_iff_ne];exact k6
  have E:=Lib.hid (show zDz n x=({kind:=x.kind},false) by unfold zDz;rw[if_neg k1,if_neg k2,if_neg k3,if_neg k4,if_neg (fun h=>h.elim k5 k6)])
  clear k1 k2 k3 k4 k5 k6
  go_enter Tryz.func53,Tryz.ntmps53
  go_upto_region 1 with (first|((with_reducible refine kg 2 ?_);(first|refine kA 2 H ?_|refine kS 2 H ?_|refine kB 2 H ?_);clear H;intro b2 w H;try simp only[nr]at H)|((with_reducible refine kg 3 ?_);(first|refine kA 3 H ?_|refine kS 3 H ?_|refine kB 3 H ?_);clear H;intro b3 w H;try simp only[nr]at H)|((with_reducible refine kg 4 ?_);(first|refine kA 4 H ?_|refine kS 4 H ?_|refine kB 4 H ?_);clear H;intro b4 w H;try simp only[nr]at H)|fail)
  rw[zKl]at H
  try simp only[Value.cells]at H
  go_wp2_with (first|((with_reducible refine gT ?_);refine zAb wtd_ _ _ _ rfl rfl evd_ H (i:=2) i_2 rfl (by show 0<9;omega) (by first|(with_reducible exact zAH zAI)|(with_reducible exact zAH zAh)|(with_reducible exact zAH zA0)) ?_;clear H;intro w H;(rw[zCy]at H);simp only[sc]at H)|(first|((with_reducible refine gTi ?_);refine aTi H ?_;clear H;intro w H;try simp only[nr]at H)|((with_reducible refine gLi ?_);refine aLi H ?_)|((with_reducible refine gL ?_);refine aGi H ?_)))
  (refine zFL Tryz.results53 rfl (by first|rfl|(simp only[pl];rfl)) H (i:=2) i_2 zAg rfl rfl ?_)
  exact⟨by rw[E.out];rfl,H.below⟩
end
section
open Go.RowKit
def zB0 (d:NodeD) (i o:Int):InstD:=if d.lazy then {kind:=2,next:=o,other:=i} else {kind:=2,next:=i,other:=o}
abbrev LayR:=Nat × List InstD
mutual
def layP:Tree->Nat->List InstD->LayR
 | .mk d ks,out,xs =>
  if d.kind=1 then (out,xs)
  else if d.kind=2 then (xs.length,xs++[{kind:=6}])
  else if d.kind=3 then (xs.length,xs++[{kind:=1,set:=d.set,next:=out}])
  else if d.kind=4 then layC ks out xs
  else if d.kind=5 then layA ks out xs
  else if d.kind=7 then
   let a:=layH ks xs.length (xs++[{kind:=3,slot:=2 * d.group+1,next:=out}])
   (a.2.length,a.2++[{kind:=3,slot:=2 * d.group,next:=a.1}])
  else if d.kind=6 then
   if d.hi=1 then
    let a:=layH ks out xs
    (a.2.length,a.2++[zB0 d a.1 out])
   else
    let a:=layH ks xs.length (xs++[{kind:=2}])
    (xs.length,a.2.set xs.length (zB0 d a.1 out))
  else (xs.length,xs++[{kind:=4,spot:=d.kind,next:=out}])
def layH:List Tree->Nat->List InstD->LayR
 | [],out,xs=>(out,xs)
 | k::_,out,xs=>layP k out xs
def layC:List Tree->Nat->List InstD->LayR
 | [],out,xs=>(out,xs)
 | k::r,out,xs=>layP k (layC r out xs).1 (layC r out xs).2
def layA:List Tree->Nat->List InstD->LayR
 | [],out,xs=>(out,xs)
 | [k],out,xs=>layP k out xs
 | k::k2::r,out,xs =>
  let a:=layA (k2::r) out xs
  let b:=layP k out a.2
  (b.2.length,b.2++[{kind:=2,next:=b.1,other:=a.1}])
end
mutual
theorem zBy:∀ (t:Tree) (out:Nat) (xs:List InstD),xs.length<=(layP t out xs).2.length/\(layP t out xs).2.length<=xs.length+(3 * zAC t - 1)
 | .mk d ks,out,xs=>by
  have hc:=zIV ks out xs;have ha:=zIi ks out xs;have h7:=zIW ks xs.length (xs++[{kind:=3,slot:=2 * d.group+1,next:=out}]);have h6:=zIW ks out xs;have h8:=zIW ks xs.length (xs++[{kind:=2}]);simp only[List.length_append,List.length_cons,List.length_nil]at h7 h8;simp only[layP,zAC];split
  ·simp
  split
  ·simp;omega
  split
  ·simp;omega
  split
  ·omega
  split
  ·omega
  split
  ·simp only[List.length_append,List.length_cons,List.length_nil];omega
  split
  ·split
   ·simp only[List.length_append,List.length_cons,List.length_nil];omega
   ·simp only[List.length_set];omega
  ·simp;omega
theorem zIW:∀ (ts:List Tree) (out:Nat) (xs:List InstD),xs.length<=(layH ts out xs).2.length/\(layH ts out xs).2.length<=xs.length+(3 * zAD ts - 1)
 | [],_,_=>by simp[layH]
 | k::r,out,xs=>by
  have:=zBy k out xs;have:=zAy k;simp only[layH,zAD];omega
theorem zIV:∀ (ts:List Tree) (out:Nat) (xs:List InstD),xs.length<=(layC ts out xs).2.length/\(layC ts out xs).2.length<=xs.length+(3 * zAD ts - 1)
 | [],_,_=>by simp[layC]
 | k::r,out,xs=>by
  have h1:=zIV r out xs;have h2:=zBy k (layC r out xs).1 (layC r out xs).2;have h3:=zAy k;simp only[layC,zAD];omega
theorem zIi:∀ (ts:List Tree) (out:Nat) (xs:List InstD),xs.length<=(layA ts out xs).2.length/\(layA ts out xs).2.length<=xs.length+(3 * zAD ts - 1)
 | [],_,_=>by simp[layA]
 | [k],out,xs=>by
  have:=zBy k out xs;have:=zAy k;simp only[layA,zAD];omega
 | k::k2::r,out,xs=>by
  have h1:=zIi (k2::r) out xs;have h2:=zBy k out (layA (k2::r) out xs).2;have h3:=zAy k2;simp only[layA,List.length_append,List.length_cons,List.length_nil];have h4:=zAy k;simp only[zAD]at *;omega
end
theorem zHB:zAi (zBj 1)=true:=by decide +kernel
theorem zEF:zAi (zBj 2)=true:=by decide +kernel
theorem zCt:∀ {ts:List Tree},zAd ts=true↔∀ t ∈ ts,zAi t=true
 | []=>by simp[zAd]
 | t::r=>by simp[zAd,zCt (ts:=r)]
theorem zMN {t:Tree} (h:zAi t=true):zAd t.kids=true:=by
 rw[zGo,Bool.and_eq_true]at h;exact h.2
theorem zII {ts:List Tree} {i o:Int} (h:zAd ts=true):zAd (zBV ts i o)=true:=by
 rw[zCt]at h ⊢;intro t ht;obtain⟨u,hu,hx⟩:=List.mem_flatMap.1 ht;unfold zFh at hx;split at hx
 ·exact zCt.1 (zMN (h u hu)) t hx
 split at hx
 ·cases hx
 ·rw[List.mem_singleton]at hx;subst hx;exact h _ hu
theorem zJV {k:Int} {ts:List Tree} {d:Tree} (hk:k=4\/k=5) (hd:zAi d=true) (h:zAd ts=true):zAi (rowN k ts d)=true:=by
 unfold rowN;split
 ·exact hd
 ·simpa [zAd] using h
 ·rename_i h1 h2;have hl:1<ts.length:=by
   rcases ts with _|⟨a,_|⟨b,r⟩⟩
   ·exact absurd rfl h1
   ·exact absurd rfl (h2 a)
   ·simp
  rw[zAi,h,Bool.and_true];have he:eqS zAU zAU=true:=zC4 _;rcases hk with rfl|rfl<;>simp[zA7,zAf,zDI,he]<;>omega
theorem zHM {ts:List Tree} (h:zAd ts=true):zAi (catT ts)=true:=by
 unfold catT;split
 ·exact zEF
 ·exact zJV (.inl rfl) zHB (zII h)
theorem zHW {n:NodeD} {k:Tree} {m:Int} (hm:m = -1\/m=1) (h:zAi k=true):zAi (zB9 n k m)=true:=by
 have he:eqS zAU zAU=true:=zC4 _;unfold zB9;simp only[zAi,zAd,h,Bool.and_true];rcases hm with rfl|rfl<;>simp[zA7,zAf,zDI,he]
theorem zHo {n:NodeD} {k:Tree} (h:zAi k=true):∀ m,zAd (zCV n k m)=true
 | 0=>rfl
 | m+1=>by
  simp only[zCV,zAd,Bool.and_true];exact zHW (.inr rfl) (zHM (by simp only[zAd,h,zHo h m,Bool.and_true]))
theorem zJc {d:NodeD} {k s:Tree} (h:zAi k=true) (e:zCQ d k=some s):zAi s=true:=by
 unfold zCQ at e;split at e
 ·cases e;exact zHB
 split at e
 ·cases e;exact zEF
 split at e
 ·cases e
 ·cases e
  refine zHM ?_
  rw[zC5,Bool.and_eq_true];refine⟨zCt.2 fun t ht=>by rw[List.eq_of_mem_replicate ht];exact h,?_⟩
  split
  ·simp only[zAd,Bool.and_true];exact zHW (.inl rfl) h
  ·exact zHo h _
theorem zNf {o:Option Tree} {s:Tree} (h:capT o=some s):o=some s:=by
 unfold capT at h;split at h
 ·split at h
  ·exact h
  ·cases h
 ·cases h
mutual
theorem zGO:∀ {t s:Tree},zAi t=true->zAv t=some s->zAi s=true
 | .mk d ks,s,h,e=>by
  have h0:=h;simp only[zAi,Bool.and_eq_true]at h;simp only[zAv]at e;split at e
  ·cases e
  ·rename_i l hl;have hkl:=zD8 h.2 hl;have hlen:=zGT hl;have e:=zNf e;unfold ruleT at e;split at e
   ·split at e
    ·cases e
    ·rename_i k r;split at e
     ·cases e;exact zEF
     ·cases e
      rw[zAi,hkl,hlen,h.1];rfl
   split at e
   ·cases e;exact zHM hkl
   split at e
   ·cases e;exact zJV (.inr rfl) zEF (zII hkl)
   split at e
   ·split at e
    ·cases e
    ·rename_i k r;simp only[zAd,Bool.and_eq_true]at hkl;exact zJc hkl.1 e
   ·cases e;exact h0
theorem zD8:∀ {ts l:List Tree},zAd ts=true->zAs ts=some l->zAd l=true
 | [],l,_,e=>by simp[zAs]at e;subst e;rfl
 | t::r,l,h,e=>by
  simp only[zAd,Bool.and_eq_true]at h;simp only[zAs]at e;split at e
  ·cases e
  ·rename_i x hx;split at e
   ·cases e
   ·rename_i l' hl'
    cases e
    simp only[zAd,zGO h.1 hx,zD8 h.2 hl',Bool.and_true]
end
def zFF (m:Nat) (x:InstD):InstD:={x with next:=if (x.kind == 1 || x.kind == 2 || x.kind == 3 || x.kind == 4) then wrap64 (m - x.next) else x.next,other:=if x.kind == 2 then wrap64 (m - x.other) else x.other}
def zBq (zs:List InstD):List InstD:=zs.reverse.map (zFF (zs.length - 1))
def zCf:List InstD:=[{kind:=5},{kind:=3,slot:=1,next:=0}]
def zHS (s:Tree):List InstD:=(layP s 1 zCf).2++[{kind:=3,next:=(layP s 1 zCf).1}]
def zDM (t:Tree):Except Nat (List InstD):=match zBa t with
 | .error e=>.error e
 | .ok s=>if 4000<=(zHS s).length - 1 then .error 7 else .ok (zBq (zHS s))
theorem zEn (zs:List InstD):(zBq zs).length=zs.length:=by simp[zBq]
theorem zL4 {zs:List InstD} {m j:Nat} {x:InstD} (hm:zs.length=m+1) (hj:j<=m) (h:zs[m - j]?=some x):(zBq zs)[j]?=some (zFF m x):=by
 unfold zBq;rw[List.getElem?_map,List.getElem?_reverse (by omega),show zs.length - 1 - j=m - j by omega,h,hm]
 rfl
theorem zIH {t s:Tree} (h:zBa t=.ok s):zAi s=true/\zAC s<=2000:=by
 unfold zBa at h;split at h
 ·rename_i hk;split at h
  ·cases h
  ·rename_i hs
   cases h
   exact⟨zGO hk.1 hs,zD0 hs⟩
 ·cases h
def zCN (ts:List Tree):List Tree:=ts.flatMap Tree.kids
theorem zJ5 (a b:List Tree):zCN (a++b)=zCN a++zCN b:=by simp[zCN]
theorem zL7 {ts:List Tree} {j:Nat} {t:Tree} (h:ts[j]?=some t):zCN (ts.take (j+1))=zCN (ts.take j)++t.kids:=by
 rw[zBc h];simp[zCN]
theorem zCa:∀ ts:List Tree,zAD ts=ts.length+zAD (zCN ts)
 | []=>rfl
 | t::r=>by
  have h:=zCa r;have h2:=zCI t;simp only[zCN,List.flatMap_cons,zAc,zAD,List.length_cons]at h ⊢;omega
theorem zCb:∀ ts:List Tree,ts≠[]->zBY ts=zBY (zCN ts)+1
 | [],h=>absurd rfl h
 | [t],_=>by simp[zBY,zCN,zLE]
 | t::u::r,_=>by
  have h:=zCb (u::r) (by simp)
  have h2:=zLE t;have e:zCN (t::u::r)=t.kids++zCN (u::r):=by simp[zCN]
  rw[e,zEI,zBY,h];omega
def bfs:Nat->Nat->List Tree->List (Tree × Nat)
 | 0,_,_=>[]
 | n+1,d,row=>row.map (fun t=>(t,d))++bfs n (d+1) (zCN row)
theorem zKO:∀ n d,bfs n d []=[]
 | 0,_=>rfl
 | n+1,d=>by simp only[bfs,List.map_nil,List.nil_append,zCN,List.flatMap_nil];exact zKO n (d+1)
theorem zMq:∀ (n d:Nat) (row:List Tree),zBY row<=n->(bfs n d row).length=zAD row
 | 0,d,row,h=>by
  cases row with
  | nil=>rfl
  | cons t r=>have:=zCb (t::r) (by simp);omega
 | n+1,d,row,h=>by
  by_cases hr:row=[]
  ·subst hr;rw[zKO];rfl
  ·have h1:=zCb row hr;have h2:=zMq n (d+1) (zCN row) (by omega)
   have h3:=zCa row;simp only[bfs,List.length_append,List.length_map,h2];omega
mutual
def allT (p:Tree->Bool):Tree->Bool
 | .mk d ks=>p (.mk d ks)&&zEN p ks
def zEN (p:Tree->Bool):List Tree->Bool
 | []=>true
 | t::r=>allT p t&&zEN p r
end
theorem zQZ (p:Tree->Bool) (t:Tree):allT p t=(p t&&zEN p t.kids):=by cases t;simp[allT,Tree.kids]
theorem zGM (p:Tree->Bool):∀ a b:List Tree,zEN p (a++b)=(zEN p a&&zEN p b)
 | [],b=>by simp[zEN]
 | t::r,b=>by simp only[List.cons_append,zEN,zGM p r b,Bool.and_assoc]
theorem zHU (p:Tree->Bool):∀ ts:List Tree,zEN p ts=(ts.all p&&zEN p (zCN ts))
 | []=>rfl
 | t::r=>by
  have h:=zHU p r;have e:zCN (t::r)=t.kids++zCN r:=by simp[zCN]
  rw[e,zGM,zEN,zQZ,h,List.all_cons]
  cases p t<;>cases zEN p t.kids<;>cases r.all p<;>simp
theorem zMn (p:Tree->Bool):∀ (n d:Nat) (row:List Tree),zBY row<=n->(bfs n d row).all (fun x=>p x.1)=zEN p row
 | 0,d,row,h=>by
  cases row with
  | nil=>rfl
  | cons t r=>have:=zCb (t::r) (by simp);omega
 | n+1,d,row,h=>by
  by_cases hr:row=[]
  ·subst hr;rw[zKO];rfl
  ·have h1:=zCb row hr;have h2:=zMn p n (d+1) (zCN row) (by omega)
   rw[zHU,← h2];simp only[bfs,List.all_append,List.all_map];rfl
mutual
theorem zH8:∀ t:Tree,zAi t=allT (fun t=>zA7 t.d t.kids.length) t
 | .mk d ks=>by simp only[zAi,allT,Tree.d,Tree.kids,zGv ks]
theorem zGv:∀ ts:List Tree,zAd ts=zEN (fun t=>zA7 t.d t.kids.length) ts
 | []=>rfl
 | t::r=>by simp only[zAd,zEN,zH8 t,zGv r]
end
def zDW (t:Tree):List (Tree × Nat):=bfs (zDk t) 1 [t]
theorem zFo (t:Tree):(zDW t).length=zAC t:=by
 unfold zDW;rw[zMq _ _ _ (by rw[zEs];exact Nat.le_refl _),zA6]
theorem zHz (p:Tree->Bool) (t:Tree):(zDW t).all (fun x=>p x.1)=allT p t:=by
 unfold zDW;rw[zMn p _ _ _ (by rw[zEs];exact Nat.le_refl _)]
 simp[zEN]
structure RelK (b:Nat) (vs:List (Nat × Value)) (w w':World):Prop where
 os:w'.os=w.os
 tape:w'.tape=w.tape
 output:w'.output=w.output
 size:w.heap.size<=w'.heap.size
 old:∀ k,k<w.heap.size->k≠b->w'.heap[k]?=w.heap[k]?
 at0:∀ cs T,w.heap[b]?=some (.cells cs T (0,0))->∃ ds:Array Value,w'.heap[b]?=some (.cells ds T (0,0))/\ds.size=cs.size/\∀ i,ds[i]?=cs[i]?\/∃ v,(i,v) ∈ vs/\ds[i]?=some v
section
variable {b:Nat} {vs:List (Nat × Value)}
theorem RelK.refl (w:World):RelK b vs w w:=⟨rfl,rfl,rfl,Nat.le_refl _,fun _ _ _=>rfl,fun cs T h=>⟨cs,h,rfl,fun _=>.inl rfl⟩⟩
theorem RelK.trans (u v w:World) (h:RelK b vs u v) (k:RelK b vs v w):RelK b vs u w:=by
 refine⟨k.os.trans h.os,k.tape.trans h.tape,k.output.trans h.output,Nat.le_trans h.size k.size,fun i h1 h2=>(k.old i (Nat.lt_of_lt_of_le h1 h.size) h2).trans (h.old i h1 h2),fun cs T hc=>?_⟩
 obtain⟨ds,h1,h2,h3⟩:=h.at0 cs T hc;obtain⟨es,k1,k2,k3⟩:=k.at0 ds T h1;refine⟨es,k1,k2.trans h2,fun i=>?_⟩
 rcases k3 i with e|e
 ·rw[e];exact h3 i
 ·exact .inr e
theorem RelK.drew (w:World):RelK b vs w {w with drawn:=w.drawn+1}:=⟨rfl,rfl,rfl,Nat.le_refl _,fun _ _ _=>rfl,fun cs T h=>⟨cs,h,rfl,fun _=>.inl rfl⟩⟩
theorem RelK.of_below {w w':World} (h:Below w.heap.size w w'):RelK b vs w w':=⟨h.os,h.tape,h.output,h.size,fun k hk _=>h.block k hk,fun cs T hc=>⟨cs,(h.block b (Array.getElem?_eq_some_iff.1 hc).1).trans hc,rfl,fun _=>.inl rfl⟩⟩
def zN0 (b i:Nat) (v u:Value) (w:World):Prop:=u=.pointer (some ⟨b,i,none⟩)/\∃ cs T,w.heap[b]?=some (.cells cs T (0,0))/\cs[i]?=some v
theorem zJL {i:Nat} {v:Value} (hd:∀ v',(i,v') ∈ vs->v'=v):zGB (RelK b vs) (zN0 b i v):=fun u w w' ⟨e,cs,T,h1,h2⟩ hr=>by
 obtain⟨ds,k1,_,k3⟩:=hr.at0 cs T h1;refine⟨e,ds,T,k1,?_⟩
 rcases k3 i with f|⟨v',f1,f2⟩
 ·rw[f];exact h2
 ·rw[hd v' f1]at f2;exact f2
theorem HoldG.relK {M:Nat->Prop} {w0 w W:World} {l:List Res} (H:HoldG M w0 w l) {i:Nat} {cs:Array Value} {T:TypeId} (hi:At l i (.blk b cs T)) (hr:RelK b vs w W):∃ ds:Array Value,ds.size=cs.size/\(∀ i,ds[i]?=cs[i]?\/∃ v,(i,v) ∈ vs/\ds[i]?=some v)/\HoldG M w0 W (l.set i (.blk b ds T)):=by
 have hb:=H.blk hi;obtain⟨ds,h1,h2,h3⟩:=hr.at0 cs T hb.2;exact⟨ds,h2,h3,H.upd hi.get ⟨hr.os,hr.tape,hr.output,hr.size,fun k h1 h2=>hr.old k h1 (fun e=>h2 (by rw[e];rfl))⟩ ⟨hb.1,h1⟩ (fun _ e=>.inl e)⟩
theorem zKw {P:Program} {ops:Array Oper} {o:Oper} {a:Act} {w:World} {S:TypeId} {m:Tmp} {y:Operand} {i:Nat} {v:Value} (hg:Region.wanted o (yielded ops a.tmps)=true) (hop:o.op=.store S (.tmp m) y) (hdst:o.dst=none) (hm:a.eval (.tmp m)=.pointer (some ⟨b,i,none⟩)) (hy:a.eval y=v) (hv:(i,v) ∈ vs)
  (hb:∃ cs T,w.heap[b]?=some (.cells cs T (0,0))/\i<cs.size) (hT:zCu P S 1=true) (h1:v.oneCell'=true):zBu P ops (RelK b vs) o a w (fun u w'=>zN0 b i v u w'/\(o.dst=none->u=zHO o a)):=by
 obtain⟨cs,T,hb,hs⟩:=hb;unfold zBu;rw[if_pos hg];unfold Oper.wp;have h0:(⟨b,i,none⟩:Addr).add 0=⟨b,i,none⟩:=by rw[Addr.add_mid];rfl
 have hcell:(w.cell? ⟨b,i,none⟩).isSome=true:=by rw[cell_of_row w b i cs T (0,0) hb];simp[hs]
 have hfz:w.frozen? ⟨b,i,none⟩=false:=by simp[World.frozen?,hb]
 have hr':(execOp a.eval o).run P w=.ok .skip (w.setCell ⟨b,i,none⟩ v):=by
  unfold execOp;simp only[hop,hm,hy,Instr.storeAt,Instr.sureAddr,Sem.run_bind,Sem.run_pure,Result.andThen_ok,zC0 (P:=P) (w:=w) hT h1 hcell hfz h0]
 rw[hr'];simp only[Oper.upon];have hg2:=zCW w b i v;have hh:=heap_setCell (k:=i) hb v;refine⟨.pointer (some ⟨b,i,none⟩),(by rw[hdst];rfl),⟨hg2.os,hg2.tape,hg2.output,hg2.size,fun j hj hne=>hg2.block j hj (fun e=>by cases e;exact hne rfl),fun cs' T' hc=>?_⟩,⟨rfl,_,_,hh,?_⟩,fun _=>?_⟩
 ·rw[hb]at hc;cases hc
  refine⟨_,hh,by simp,fun j=>?_⟩
  by_cases hji:i=j
  ·subst hji;refine .inr ⟨v,hv,?_⟩
   simp[hs]
  ·exact .inl (Array.getElem?_setIfInBounds_ne hji)
 ·simp[hs]
 ·unfold zHO ownT;rw[hop];exact hm.symm
end
end
end Go.Proofs.YtalggmbdpmdcbaaGreat
