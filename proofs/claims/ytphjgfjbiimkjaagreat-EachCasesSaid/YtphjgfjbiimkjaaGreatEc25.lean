/-
  Laws of walks, and walks.
-/
import Derived.Test.YtphjgfjbiimkjaaGreatEc24
import Derived.Test.YtphjgfjbiimkjaaGreatEc13
import Derived.Test.YtphjgfjbiimkjaaGreatEc12
set_option linter.unusedVariables false
set_option linter.unusedSimpArgs false
set_option maxRecDepth 100000
set_option maxHeartbeats 16000000
namespace Go.Proofs.YtphjgfjbiimkjaaGreat
section
open Go.RowKit Go.Shelf
attribute [local go_sem] Oper.semAt_some
theorem HoldG.rebase {M0 M:Nat->Prop} {w0 w:World} {l l':List Res} (H:HoldG M0 w0 w l) (js:List Nat) (hn:js.Nodup) (h:js.map (fun j=>l[j]?)=l'.map some) (hb:∀ r ∈ l',∃ b cs T,r=.blk b cs T/\M b):HoldG M w w l':=by
 have K:=H.pick js l' hn h;refine⟨KeepBut.refl _ _ _,fun i r hr=>?_,K.apart⟩
 obtain⟨b,cs,T,rfl,hM⟩:=hb r (List.mem_of_getElem? hr);exact⟨.inr hM,(K.all i _ hr).2⟩
theorem HoldG.absorb {M:Nat->Prop} {w0 wa w':World} {A l l2:List Res} (H:Hold w0 wa (A++l)) (K:HoldG M wa w' l2) (hM:∀ b,M b->∃ r ∈ l,r.place=some b) (hl2:l2.all zAY=true):Hold w0 w' (A++l2):=by
 have hs:=H.keep.size;have hM2:∀ b,M b->w0.heap.size<=b:=fun b hb=>by
  obtain⟨r,hr,hp⟩:=hM b hb;obtain⟨j,hj⟩:=List.getElem?_of_mem hr;exact(Res.Holds.lt (H.all (A.length+j) r (by rw[List.getElem?_append_right (by omega),Nat.add_sub_cancel_left];exact hj)) b hp).1.resolve_right id
 have hAM:∀ i r,A[i]?=some r->∀ b,Res.foot r b->¬ M b:=fun i r hr b hf hb=>by
  obtain⟨s,hs2,hp⟩:=hM b hb;obtain⟨j,hj⟩:=List.getElem?_of_mem hs2;have hi:=(List.getElem?_eq_some_iff.1 hr).1;exact H.apart (A.length+j) i s r (by omega) (by rw[List.getElem?_append_right (by omega),Nat.add_sub_cancel_left];exact hj) (by rw[List.getElem?_append_left hi];exact hr) b hp hf
 have hAl:∀ i r,A[i]?=some r->∀ b,Res.foot r b->b<wa.heap.size:=fun i r hr b hf=>(H.left.all i r hr).ltf b hf
 have hnew:∀ j s,l2[j]?=some s->∀ b,Res.foot s b->Res.place s=some b:=fun j s hj b hf=>by
  have:=List.all_eq_true.1 hl2 s (List.mem_of_getElem? hj)
  cases s with
  | kn _ _=>cases this
  | blk _ _ _=>exact hf
  | row _ _ _ _ _=>exact hf
  | mp _ _ _=>exact hf
 refine⟨⟨K.keep.os.trans H.keep.os,K.keep.tape.trans H.keep.tape,K.keep.output.trans H.keep.output,Nat.le_trans hs K.keep.size,fun k h1 h2=>(K.keep.old k (by omega) (fun hb=>by have:=hM2 k hb;omega)).trans (H.keep.old k h1 h2)⟩,fun i r hr=>?_,fun i j r s hij hr hsj b hp hf=>?_⟩
 ·rw[List.getElem?_append]at hr;split at hr
  ·exact(H.left.all i r hr).kept (fun b hb=>K.keep.old b (hAl i r hr b hb) (hAM i r hr b hb)) K.keep.size
  ·have h1:=K.all _ r hr;have hpl:=List.all_eq_true.1 hl2 r (List.mem_of_getElem? hr)
   cases r with
   | kn _ _=>cases hpl
   | mp _ _ _=>cases hpl
   | blk b cs T=>exact⟨.inl (h1.1.elim (fun h=>by omega) (hM2 b)),h1.2⟩
   | row v e sz n xs=>exact zJ7 h1 hs
 ·rw[List.getElem?_append]at hr hsj;split at hr
  ·split at hsj
   ·exact H.left.apart i j r s hij hr hsj b hp hf
   ·have h1:=(K.all _ s hsj).lt b (hnew _ s hsj b hf);have h2:=hAl i r hr b (Res.place_foot hp);have h3:=hAM i r hr b (Res.place_foot hp);rcases h1.1 with h|h
    ·omega
    ·exact h3 h
  ·split at hsj
   ·have h1:=(K.all _ r hr).lt b hp;have h2:=hAl j s hsj b hf;have h3:=hAM j s hsj b hf;rcases h1.1 with h|h
    ·omega
    ·exact h3 h
   ·exact K.apart _ _ r s (by omega) hr hsj b hp hf
theorem HoldG.absorbAt (k:Nat) {M:Nat->Prop} {w0 wa w':World} {L l2:List Res} (H:Hold w0 wa L) (K:HoldG M wa w' l2) (hM:∀ b,M b->∃ r ∈ L.drop k,r.place=some b) (hl2:l2.all zAY=true):Hold w0 w' (L.take k++l2) :=
 HoldG.absorb (A:=L.take k) (l:=L.drop k) (by rw[List.take_append_drop];exact H) K hM hl2
def zJp (A:List Res) (b:Nat):Prop:=∃ r ∈ A,Res.foot r b
def zMu (A:List Res) (w V:World):Prop:=∀ b,zJp A b->b<V.heap.size/\V.heap[b]?=w.heap[b]?
theorem HoldG.bundle (A:List Res) {M:Nat->Prop} {w0 w:World} {l:List Res} (H:HoldG M w0 w (A++l)):HoldG M w0 w (l++[.kn (zJp A) (zMu A w)]):=by
 have Hl:HoldG M w0 w l:=HoldG.left (ext:=A) (H.perms List.perm_append_comm);have hlt:∀ b,zJp A b->b<w.heap.size:=fun b ⟨r,hr,hf⟩=>by
  obtain⟨i,hi⟩:=List.getElem?_of_mem hr;exact(H.all i r (by rw[List.getElem?_append_left (List.getElem?_eq_some_iff.1 hi).1];exact hi)).ltf b hf
 refine Hl.know _ _ hlt (fun i r hi b hp ⟨s,hs,hf⟩=>?_) (fun V hV b hb=>⟨?_,hV b hb⟩)
 ·obtain⟨j,hj⟩:=List.getElem?_of_mem hs;have hjl:=(List.getElem?_eq_some_iff.1 hj).1;exact H.apart (A.length+i) j r s (by omega) (by rw[List.getElem?_append_right (by omega),Nat.add_sub_cancel_left];exact hi) (by rw[List.getElem?_append_left hjl];exact hj) b hp hf
 ·have:=hV b hb;rw[Array.getElem?_eq_getElem (hlt b hb)]at this;exact(Array.getElem?_eq_some_iff.1 this).1
theorem HoldG.unbundle {A:List Res} {w0 w w':World} (H:Hold w0 w A) (hb:Below w0.heap.size w0 w') (hS:zMu A w w'):Hold w0 w' A :=
 ⟨((Hold.start w0).call hb).keep,fun i r hr=>(H.all i r hr).keptF (fun b hf=>(hS b ⟨r,List.mem_of_getElem? hr,hf⟩).2) (fun b hf=>(hS b ⟨r,List.mem_of_getElem? hr,hf⟩).1),H.apart⟩
theorem HoldG.pickI {M:Nat->Prop} {w0 w:World} {L I:List Res} (js:List Nat) (l1:List Res) (H:HoldG M w0 w (L++I)) (hn:js.Nodup) (h:js.map (fun j=>L[j]?)=l1.map some):HoldG M w0 w (l1++I):=by
 have hjl:∀ j ∈ js,j<L.length:=fun j hj=>by
  have h1:L[j]? ∈ l1.map some:=by rw[← h];exact List.mem_map.2 ⟨j,hj,rfl⟩
  obtain⟨r,_,hr⟩:=List.mem_map.1 h1;exact(List.getElem?_eq_some_iff.1 hr.symm).1
 refine H.pick (js++List.range' L.length I.length) _ ?_ ?_
 ·rw[List.nodup_append];refine⟨hn,List.nodup_range',fun a ha b hb e=>?_⟩
  subst e;have:=hjl a ha;rw[List.mem_range']at hb;obtain⟨i,_,e⟩:=hb;omega
 ·rw[List.map_append,List.map_append]
  congr 1
  ·rw[← h];exact List.map_congr_left fun j hj=>by rw[List.getElem?_append_left (hjl j hj)]
  ·apply List.ext_getElem?;intro i;rw[List.getElem?_map,List.getElem?_map]
   by_cases hi:i<I.length
   ·rw[List.getElem?_range' hi];simp[List.getElem?_append_right,List.getElem?_eq_getElem hi]
   ·rw[List.getElem?_eq_none (by simp;omega),List.getElem?_eq_none (by omega)];rfl
theorem HoldG.ins {M:Nat->Prop} {w0 w:World} {L I:List Res} {r:Res} (k:Nat) (H:HoldG M w0 w (L++r::I)):HoldG M w0 w (L.take k++r::(L.drop k++I)):=H.perms (by
 have h:L++r::I=L.take k++(L.drop k++r::I):=by rw[← List.append_assoc,List.take_append_drop]
 rw[h]
 exact List.Perm.append_left _ List.perm_middle)
theorem zNA (p q:Option Addr) (n m c d:Nat) (W:World):(Instr.buildSlice 60 2 #[(0,.slice p n c),(1,.slice q m d)]).run Tryz.prog W=.ok (.slice (some ⟨W.heap.size,0,none⟩) 2 2) (W.alloc (.cells #[.slice p n c,.slice q m d] 47)):=by kernel_rfl
section
variable {p:List InstD} {s:Str}
theorem zFx {a:Int} {l:zAP} (h:zBQ p s a=some l):l.length<=42:=by
 obtain⟨_,_,_,_,_,_,_,h1,h2⟩:=zBh h;rw[h1];exact(zEE h2).2.2
theorem zKx {a:Int} {e:Bool} {l:zAP} (h:zBu p s a e=some l):l.length<=42:=by
 unfold zBu at h;split at h
 ·cases h
 ·rename_i l' hl;split at h
  ·exact zFx h
  ·cases h;exact zFx hl
theorem zGM:∀ (n:Nat) (a:Int) (e:Bool),∀ l ∈ zC4 p s n a e,l.length<=42
 | 0,_,_=>fun _ h=>by cases h
 | n+1,a,e=>fun l hl=>by
  unfold zC4 at hl
  cases hn:zBu p s a e with
  | none=>rw[hn]at hl;cases hl
  | some l' =>
   rw[hn]at hl;rcases List.mem_cons.1 hl with rfl|hl
   ·exact zKx hn
   ·exact zGM n _ _ l hl
end
theorem HoldG.pickK (k:Nat) {M:Nat->Prop} {w0 w:World} {l:List Res} (js:List Nat) (l1:List Res) (H:HoldG M w0 w l) (hn:js.Nodup) (h:js.map (fun j=>(l.take k)[j]?)=l1.map some):HoldG M w0 w (l1++l.drop k) :=
 HoldG.pickI (L:=l.take k) js l1 (by rw[List.take_append_drop];exact H) hn h
theorem zKq {P:Program} {fn:Func} {p:Tmp} (hres:fn.results=#[.tmp p]) {tmps:Array Value} {w:World} {v:Value} (h2:tmps.getD p undef=v):(results fn tmps).run P w=.ok v w:=by
 have e2:tmps[p]?.getD undef=v:=by simpa using h2
 simp[results,hres,e2]
theorem zLi {P:Program} {ev:Operand->Value} {w:World} {o:Oper} {x y:Operand} {ts:Array TypeId} {i j v:Int} (hv:min i j=v) (hop:o.op=Op.call {callee:=.builtin .min,args:=#[x,y],argTypes:=ts}) (hx:ev x=.int .i64 i) (hy:ev y=.int .i64 j) :
  (execOp ev o).run P w=.ok (.value (.int .i64 v)) w:=by
 subst hv;exact zHF hop hx hy
theorem zF1 {id:Nat} {Q:Exit->Act->World->Prop} {a:Act} {w:World} {j:Option Code} (hj:j=none\/j=some (.exit id)) (h:Q .normal a w):zN9 (Exit.inBlock id Q) a w j:=by
 rcases hj with rfl|rfl
 ·exact h
 ·simp only[zN9,Exit.inBlock];rw[if_pos trivial];exact h
def C1 (b1 b2 b11:Nat) (v1 v2:Value) (many:Int) (v:Nat) (lc:List Res):Prop:=lc=[.blk b1 #[v1] 23,.blk b2 #[v2] 25,.blk b11 #[.int .i64 (v:Int)] 3]/\(v:Int)<=max many 0
def CX1 (b1 b2 b11:Nat) (v1 v2:Value) (many:Int) (v:Nat) (k:Code) (lc:List Res):Prop:=k=.exit 0/\lc=[.blk b1 #[v1] 23,.blk b2 #[v2] 25,.blk b11 #[.int .i64 (v:Int)] 3]/\(v:Int)=max many 0
abbrev AG (b1 b2 b13:Nat) (v1 v2:Value) (q:Option Addr) (c:Nat) (xs:List zAV):List Res:=.blk b1 #[v1] 23::.blk b2 #[v2] 25::.blk b13 #[.slice q xs.length c] 47::.row (.slice q xs.length c) 55 1 xs.length (xs.map zAg)::xs.map zA5
theorem zHH (b1 b2 b13:Nat) (v1 v2:Value) (q:Option Addr) (c:Nat) (xs:List zAV):(AG b1 b2 b13 v1 v2 q c xs).all zAY=true:=by simp only[AG,List.all_cons,zBk];rfl
def C2 (rows:List zAP) (b1 b2 b13:Nat) (v1 v2:Value) (v:Nat) (lc:List Res):Prop:=∃ (xs:List zAV) (q:Option Addr) (c:Nat),lc=AG b1 b2 b13 v1 v2 q c xs/\xs.map (·.1)=rows.take v/\xs.length=v
theorem zFZ {rows:List zAP} {b1 b2 b13:Nat} {v1 v2:Value} {v:Nat} {lc:List Res} (h:C2 rows b1 b2 b13 v1 v2 v lc):lc.all zAY=true:=by
 obtain⟨xs,q,c,rfl,_⟩:=h;exact zHH ..
theorem zJR {a b r x y z u:Res} {I E:List Res}:(a::b::r::x::y::z::u::(I++E)).Perm ((x::y::z::u::(I++[r])++E)++[a,b]):=by
 refine(List.perm_append_comm (l₁:=[a,b]) (l₂:=r::x::y::z::u::(I++E))).trans (List.Perm.append_right _ ?_);have h:(r::x::y::z::u::(I++E)).Perm ((x::y::z::u::I)++([r]++E)):=(List.perm_middle (l₁:=x::y::z::u::I)).symm
 simpa using h
theorem zFe {b1 b2 b11:Nat} {v1 v2:Value} {many:Int} {v:Nat} {lc:List Res} (h:C1 b1 b2 b11 v1 v2 many v lc):lc.all zAY=true:=by rw[h.1];rfl
theorem zH4 {b1 b2 b11:Nat} {v1 v2:Value} {many:Int} {v:Nat} {k:Code} {lc:List Res} (h:CX1 b1 b2 b11 v1 v2 many v k lc):lc.all zAY=true:=by rw[h.2.1];rfl
theorem zEp (pp:Option Addr) (cp:Nat) (ps:List InstD) (psl:Option Addr) (csl:Nat) (S:Str) (many:Int) (Fp Fs:Nat->Prop) (w0:World) (hset:∀ x ∈ ps,zAb x.set) (hn:ps.length<=200) (hS:S.length<=100) (hFp:∀ b,Fp b->b<w0.heap.size) (hFs:∀ b,Fs b->b<w0.heap.size) (hp:InstsR Fp pp cp ps w0) (hs:BytesR Fs psl csl S w0) (hrd:Rd w0 w0.heap.size (.slice psl S.length csl) (u8s (zDV S))) :
  Calls Tryz.prog 7 #[.slice pp ps.length cp,.slice psl S.length csl,.int .i64 many] w0 (Rt (.bool true) w0):=by
 have hb1:=hp.bound;have hb2:=hs.bound;have H:=Hold.insts2 hFp hFs hp hs;clear hp hs;have d3:decide ((200:Int)<(ps.length:Int))=false:=decide_eq_false (by omega)
 have d4:decide ((100:Int)<(S.length:Int))=false:=decide_eq_false (by omega)
 have hm3:(zDV S).length<=4194304:=by rw[zLx];omega
 have hn2:ps.length<=5000:=by omega
 have hm2:S.length<=1000:=by omega
 have ht:=fun q c F w Q C G h1 h2 h3 h4=>zC8 q c ps Q C S many F G w hset hm2 h1 h2 h3 h4
 have hr:=fun q c F w Q C G h1 h2 h3 h4=>zGw q c ps Q C S (-1) F G w hset hm2 h1 h2 h3 h4
 have hli:=fun w h1 h2=>zG8 pp cp ps Fp w hn2 h1 h2
 have hki:=fun g cap w h1 h2 h3 h4=>zHS pp cp ps g cap Fp (·=g) w hn2 h1 h2 h3 h4
 refine callsIn_wide.1 (zDX (n:=9) Tryz.func7 rfl ?_);simp only[Tryz.ntmps7,List.size_toArray,List.length_cons,List.length_nil,Nat.reduceAdd,Nat.reduceSub,Array.replicate_succ,Array.replicate_zero,List.push_toArray,List.append_toArray,List.nil_append,List.cons_append];refine zA0 (zBC ?_)
 go_wp2_with (first|((with_reducible refine kg 5 ?_);(first|refine kA 5 H ?_|refine kS 5 H ?_|refine kB 5 H ?_);clear H;intro b5 w H;try simp only[nr]at H)|fail)
 refine zA0 (zBC ?_)
 go_wp2_with (first|fail)
 refine zA0 (zBC ?_)
 go_wp2_with (first|((with_reducible refine ch (zD6 _) H ?_);clear H;intro w H)|fail)
 refine zA0 (zBC ?_)
 go_wp2_with (first|(go_at_call 15;refine chLI (hli _ (H.knlt (i:=0) .zero) (H.kn (i:=0) .zero)) H ?_;clear H;intro g1 n1 w H;simp only[ca]at H)|(go_at_call 16;refine chLB (zHA _ (zDV S) _ hm3 (hrd.grown H.below)) H ?_;clear H;intro g2 n2 w HQ H;simp only[ca]at H))
 refine zA0 (zBC ?_)
 go_wp2_with (first|(go_at_call 11;refine chRw (hr pp cp Fp _ psl csl Fs (H.knlt (i:=0) .zero) (H.knlt (i:=1) i_1) (H.kn (i:=0) .zero) (H.kn (i:=1) i_1)) H ?_;clear H;intro qw nw xw Fw w hxw H;try simp only[ca]at H)|((with_reducible show @wpList _ _ _ ({dst:=_,op:=Op.alloc _,type:=_,pos:=_,after:=_,guard:=_}::_) _ _);refine zCa wtd_ _ rfl H (by kernel_rfl) ?_;clear H;intro b9 w H;try simp only[zLa,List.cons_append,List.nil_append]at H)|((with_reducible refine gT ?_);refine zAN wtd_ _ _ _ rfl rfl evd_ H (i:=6) i_6 rfl (show 0<1 from Nat.one_pos) (zAD oneR) ?_;clear H;intro w H;try simp only[nr]at H))
 refine zA0 (zBC ?_)
 go_wp2_with (first|(go_at_call 17;refine(zNG (some ⟨g1,0,none⟩) ps.length n1 (some ⟨g2,0,none⟩) S.length n2 _).mono ?_;rintro e w ⟨b1,b2,rfl,K⟩;have H2:=H.gainAll K (by simp);clear H K;have H:=H2;clear H2;simp only[ca]at H))
 refine zA0 (zBC ?_)
 go_wp2_with (first|((with_reducible refine kg 11 ?_);(first|refine kA 11 H ?_|refine kS 11 H ?_|refine kB 11 H ?_);clear H;intro b11 w H;try simp only[nr]at H)|((with_reducible refine gT ?_);(refine aO H ?_;clear H;intro w H;try simp only[nr]at H)))
 refine zA0 (zA0 (zBC ?_))
 go_wp2_with (first|fail)
 have hxw:xw.map (·.1)=zAX ps S:=hxw.out;obtain⟨M1,hM1⟩:∃ M1:Nat->Prop,M1=fun b=>b=b11\/b=b1\/b=b2:=⟨_,rfl⟩
 have hMe:∀ b,M1 b↔(b=b11\/b=b1\/b=b2):=fun b=>by rw[hM1]
 clear hM1
 have hI1:HoldG M1 w w [.blk b1 #[.slice (some ⟨g1,0,none⟩) ps.length n1] 23,.blk b2 #[.slice (some ⟨g2,0,none⟩) S.length n2] 25,.blk b11 #[.int .i64 ((0:Nat):Int)] 3]:=H.rebase [7,8,9] (by decide) rfl (fun r hr=>by
  rcases List.mem_cons.1 hr with rfl|hr
  ·exact⟨_,_,_,rfl,(hMe _).2 (.inr (.inl rfl))⟩
  rcases List.mem_cons.1 hr with rfl|hr
  ·exact⟨_,_,_,rfl,(hMe _).2 (.inr (.inr rfl))⟩
  rcases List.mem_cons.1 hr with rfl|hr
  ·exact⟨_,_,_,rfl,(hMe _).2 (.inl rfl)⟩
  ·cases hr)
 have hap:∀ i r,i<7->[Res.kn Fp (InstsR Fp pp cp ps),.kn Fs (BytesR Fs psl csl S),.blk b5 #[.int .i64 many] 3,.kn (fun x=>x=g1) (InstsR (fun x=>x=g1) (some ⟨g1,0,none⟩) n1 (ps++zBH 12)),.kn (fun x=>x=g2) (LentS g2 S),.kn Fw (RowsR Fw qw nw xw),.blk b9 #[.slice qw xw.length nw] 47,.blk b1 #[.slice (some ⟨g1,0,none⟩) ps.length n1] 23,.blk b2 #[.slice (some ⟨g2,0,none⟩) S.length n2] 25,.blk b11 #[.int .i64 0] 3][i]?=some r->∀ b,Res.foot r b->¬ M1 b:=fun i r hi hr b hf hb=>by
  rcases(hMe b).1 hb with rfl|rfl|rfl
  ·exact H.apart 9 i _ r (by omega) rfl hr _ rfl hf
  ·exact H.apart 7 i _ r (by omega) rfl hr _ rfl hf
  ·exact H.apart 8 i _ r (by omega) rfl hr _ rfl hf
 have gI:=InstsR.pre (H.kn (i:=3) i_3);have gB:=LentS.bytes (H.kn (i:=4) i_4) HQ.out.2.1 HQ.out.2.2;have lI:=H.knlt (i:=3) i_3;have lB:=H.knlt (i:=4) i_4;have lW:=H.knlt (i:=5) i_5;have kp:∀ W l,HoldG M1 w W l->∀ i r,i<7->[Res.kn Fp (InstsR Fp pp cp ps),.kn Fs (BytesR Fs psl csl S),.blk b5 #[.int .i64 many] 3,.kn (fun x=>x=g1) (InstsR (fun x=>x=g1) (some ⟨g1,0,none⟩) n1 (ps++zBH 12)),.kn (fun x=>x=g2) (LentS g2 S),.kn Fw (RowsR Fw qw nw xw),.blk b9 #[.slice qw xw.length nw] 47,.blk b1 #[.slice (some ⟨g1,0,none⟩) ps.length n1] 23,.blk b2 #[.slice (some ⟨g2,0,none⟩) S.length n2] 25,.blk b11 #[.int .i64 0] 3][i]?=some r->∀ b,Res.foot r b->W.heap[b]?=w.heap[b]?:=fun W l hW i r hi hr b hf=>hW.keep.old b ((H.all i r hr).ltf b hf) (hap i r hi hr b hf)
 have hc5:∀ W l,HoldG M1 w W l->W.cell? ⟨b5,0,none⟩=some (.int .i64 many):=fun W l hW=>by
  have h1:=kp W l hW 2 _ (by omega) rfl b5 rfl
  have h2:=H.cell (i:=2) i_2 0;unfold World.cell? at h2 ⊢;simp only at h2 ⊢;rw[h1];exact h2
 have hc9:∀ W l,HoldG M1 w W l->W.cell? ⟨b9,0,none⟩=some (.slice qw xw.length nw):=fun W l hW=>by
  have h1:=kp W l hW 6 _ (by omega) rfl b9 rfl
  have h2:=H.cell (i:=6) i_6 0;unfold World.cell? at h2 ⊢;simp only at h2 ⊢;rw[h1];exact h2
 have hRW:∀ W l,HoldG M1 w W l->RowsR Fw qw nw xw W:=fun W l hW=>(H.kn (i:=5) i_5).kept fun b hb=>kp W l hW 5 _ (by omega) rfl b hb
 have hLW:∀ W l,HoldG M1 w W l->∀ b,Fw b->b<W.heap.size:=fun W l hW b hb=>Nat.lt_of_lt_of_le (lW b hb) hW.keep.size
 have hC0:C1 b1 b2 b11 (.slice (some ⟨g1,0,none⟩) ps.length n1) (.slice (some ⟨g2,0,none⟩) S.length n2) many 0 [.blk b1 #[.slice (some ⟨g1,0,none⟩) ps.length n1] 23,.blk b2 #[.slice (some ⟨g2,0,none⟩) S.length n2] 25,.blk b11 #[.int .i64 ((0:Nat):Int)] 3]:=⟨rfl,by omega⟩
 have ha5:=Lib.hid (And.intro gI gB)
 refine zEc (zEo (σ:=Nat × List Res × List Res) (α:=zAP × Nat × Nat) (n:=8) (gf:=34) (lb:=#[.pointer (some ⟨b1,0,none⟩),.pointer (some ⟨b2,0,none⟩)]) rfl (enters_of Tryz.func34 (by kernel_rfl) rfl) (encs:=fun x=>#[.slice (some ⟨x.2.1,0,none⟩) x.1.length x.2.2]) (fun _=>rfl)
   (fun W=>HoldG M1 w W [.blk b1 #[.slice (some ⟨g1,0,none⟩) ps.length n1] 23,.blk b2 #[.slice (some ⟨g2,0,none⟩) S.length n2] 25,.blk b11 #[.int .i64 ((0:Nat):Int)] 3])
   (fun j W=>match j with|none=>∃ lc,C1 b1 b2 b11 (.slice (some ⟨g1,0,none⟩) ps.length n1) (.slice (some ⟨g2,0,none⟩) S.length n2) many (zAX ps S).length lc/\HoldG M1 w W lc|some k=>∃ v lc,v<(zAX ps S).length/\CX1 b1 b2 b11 (.slice (some ⟨g1,0,none⟩) ps.length n1) (.slice (some ⟨g2,0,none⟩) S.length n2) many v k lc/\HoldG M1 w W lc)
   (fun _ _=>False)
   (fun s x W=>((zAX ps S)[s.1]?=some x.1/\C1 b1 b2 b11 (.slice (some ⟨g1,0,none⟩) ps.length n1) (.slice (some ⟨g2,0,none⟩) S.length n2) many s.1 s.2.1/\s.2.2.all zAY=true)/\HoldG M1 w W (rowM x::s.2.1++s.2.2))
   (fun s x j W=>s.2.2.all zAY=true/\∃ lc',(match j with|none=>C1 b1 b2 b11 (.slice (some ⟨g1,0,none⟩) ps.length n1) (.slice (some ⟨g2,0,none⟩) S.length n2) many (s.1+1) lc'|some k=>CX1 b1 b2 b11 (.slice (some ⟨g1,0,none⟩) ps.length n1) (.slice (some ⟨g2,0,none⟩) S.length n2) many s.1 k lc')/\HoldG M1 w W (lc'++s.2.2))
   (fun _ _ _ _=>False)
   (fun s x a1 W=>a1={tmps:=List.toArray [.slice pp ps.length cp,.slice psl S.length csl,.int .i64 many,undef,undef,.pointer (some ⟨b5,0,none⟩),.bool false,.slice (some ⟨g1,0,none⟩) ps.length n1,.slice (some ⟨g2,0,none⟩) S.length n2,.pointer (some ⟨b9,0,none⟩),.func (.func 34) #[] #[.pointer (some ⟨b1,0,none⟩),.pointer (some ⟨b2,0,none⟩)],.pointer (some ⟨b11,0,none⟩),.slice (some ⟨x.2.1,0,none⟩) x.1.length x.2.2,undef,undef,undef,.slice pp ps.length cp,.int .i64 ps.length,.bool false,.bool false,.slice psl S.length csl,.int .i64 S.length,.bool false,.bool false,undef,.bool true,.bool false,.slice pp ps.length cp,.slice (some ⟨g1,0,none⟩) ps.length n1,.slice psl S.length csl,.slice (some ⟨g2,0,none⟩) S.length n2,.slice pp ps.length cp,.slice psl S.length csl,.slice qw xw.length nw,.slice (some ⟨g1,0,none⟩) ps.length n1,.slice (some ⟨g2,0,none⟩) S.length n2,.func (.func 34) #[] #[.pointer (some ⟨b1,0,none⟩),.pointer (some ⟨b2,0,none⟩)],.func (.func 34) #[] #[.pointer (some ⟨b1,0,none⟩),.pointer (some ⟨b2,0,none⟩)],.slice (some ⟨x.2.1,0,none⟩) x.1.length x.2.2,undef,undef,undef,undef,undef,undef,undef,undef,undef,undef,undef,undef,undef,undef,undef,undef,undef,undef,undef,undef,undef,undef,undef,undef,undef,undef,undef,undef,undef,undef,undef,undef,undef,undef,undef,undef,undef,undef,undef,undef,undef,undef,undef,undef,undef,undef,undef,undef,undef,undef,undef,undef,undef,undef,undef,undef,undef,undef,undef,undef,undef,undef,undef,undef,undef,undef,undef,undef,undef,undef,undef,undef,undef],defers:=[]}/\((zAX ps S)[s.1]?=some x.1/\C1 b1 b2 b11 (.slice (some ⟨g1,0,none⟩) ps.length n1) (.slice (some ⟨g2,0,none⟩) S.length n2) many s.1 s.2.1/\s.2.2.all zAY=true)/\HoldG M1 w W (rowM x::s.2.1++s.2.2))
   (fun W W' row hs hg hr=>hs.stayC (by simp[zAY]) (Nat.le_refl _) hg hr)
   (fun j W W' row hs hg hr=>(by
    cases j with
    | none=>obtain⟨lc,hc,hs⟩:=hs;exact⟨lc,hc,hs.stayC (zFe hc) (Nat.le_refl _) hg hr⟩
    | some k=>obtain⟨v,lc,hv,hc,hs⟩:=hs;exact⟨v,lc,hv,hc,hs.stayC (zH4 hc) (Nat.le_refl _) hg hr⟩))
   (fun s x j W W' row hs hg hr=>(by
    obtain⟨h1,lc',hc,hs⟩:=hs;refine⟨h1,lc',hc,hs.stayC ?_ (Nat.le_refl _) hg hr⟩
    cases j with
    | none=>rw[List.all_append,zFe hc,h1];rfl
    | some k=>rw[List.all_append,zH4 hc,h1];rfl))
   (fun s x a1 W W' row hs hg hr=>⟨hs.1,hs.2.1,hs.2.2.stayC (by simp[zAY,zFe hs.2.1.2.1,hs.2.1.2.2]) (Nat.le_refl _) hg hr⟩) ?iter hI1 ?assign ?body ?done ?pan)
 case iter =>
  intro l B K hBs hKs hBK hY W hI hBW;refine(zJF M1 w (some ⟨g1,0,none⟩) n1 ps (some ⟨g2,0,none⟩) n2 S _ _ hset hm2 lI lB gI gB (fun b hb=>⟨fun h=>hap 3 _ (by omega) rfl b h hb,fun h=>hap 4 _ (by omega) rfl b h hb⟩) b1 b2 (C1 b1 b2 b11 (.slice (some ⟨g1,0,none⟩) ps.length n1) (.slice (some ⟨g2,0,none⟩) S.length n2) many) (CX1 b1 b2 b11 (.slice (some ⟨g1,0,none⟩) ps.length n1) (.slice (some ⟨g2,0,none⟩) S.length n2) many) (fun _ _ h=>zFe h) l B w.heap.size hBs (fun v sl g c lc E W1 hv hc hE hW hB1=>?_) W _ hC0 0 1 .zero i_1 hI hBW).mono (fun e W' hh=>?_)
  ·refine(hY (v,lc,E) (sl,g,c) W1 ⟨⟨hv,hc,hE⟩,hW⟩ hB1).mono (fun e W' h=>?_)
   rcases h with ⟨j,rfl,⟨_,hq⟩,hb⟩|⟨ch,_,h,_⟩
   ·exact⟨_,rfl,j,rfl,hq,hb⟩
   ·exact h.elim
  ·obtain⟨v,j,rfl,hb,hh⟩:=hh;exact .inl ⟨v,j,rfl,hh,hb⟩
 case assign =>
  rintro l s x W hJ;simp only[List.zip_toArray,List.foldl_toArray,List.zip_cons_cons,List.zip_nil_right,List.zip_nil_left,List.foldl_cons,List.foldl_nil,List.setIfInBounds_toArray,List.set_cons_succ,List.set_cons_zero]
  gi_wp2
  refine⟨fun k o _ hk _=>hk,?_,hJ⟩
  first|trivial|rfl
 case body =>
  rintro l ⟨v,lc,E⟩ ⟨sl,g,c⟩ a1 W ⟨rfl,⟨h1,hC,h3⟩,Hr⟩;obtain⟨hlc,hvm⟩:=hC;have hlc:lc=[.blk b1 #[.slice (some ⟨g1,0,none⟩) ps.length n1] 23,.blk b2 #[.slice (some ⟨g2,0,none⟩) S.length n2] 25,.blk b11 #[.int .i64 (v:Int)] 3]:=hlc;have hvm:(v:Int)<=max many 0:=hvm;subst hlc;clear H hI1 hC0 ha5 gI gB lI lB hap kp;have H:=Hr;clear Hr;simp only[List.cons_append,List.nil_append]at h1 h3 H;have hv2:v<=102:=by
   have:=(List.getElem?_eq_some_iff.1 h1).1;have h2:=zCY (p:=ps) (s:=S) (n:=S.length+2) (a:=0) (e:=false);unfold zAX at this;omega
  obtain⟨⟨s2,py,cy⟩,hy,hys⟩:∃ y:zAV,xw[v]?=some y/\y.1=sl:=by
   have:=congrArg (fun l=>l[v]?) hxw
   simp only[List.getElem?_map,h1,Option.map_eq_some_iff]at this;obtain⟨y,e1,e2⟩:=this;exact⟨y,e1,e2⟩
  have hys:s2=sl:=hys;subst hys;have hvx:v<xw.length:=(List.getElem?_eq_some_iff.1 hy).1;obtain⟨gw,ow,rfl⟩:=(hRW _ _ H).at (by omega)
  have hcw:∀ W l,HoldG M1 w W l->W.cell? ⟨gw,ow+v,none⟩=some (.slice py s2.length cy):=fun W l h=>(hRW W l h).cell hy
  have hss:∀ W (h:HoldG M1 w W (.kn (zB3 W []) (zCO W [])::[])->True),True:=fun _ _=>trivial
  have hpl:(rowM (s2,g,c)::.blk b1 #[.slice (some ⟨g1,0,none⟩) ps.length n1] 23::.blk b2 #[.slice (some ⟨g2,0,none⟩) S.length n2] 25::.blk b11 #[.int .i64 (v:Int)] 3::E).all zAY=true:=by simpa [zAY] using h3
  have hKN:=Lib.hid fun V=>KeepsNC.of_plain (W':=V) w.heap.size H hpl
  have H1:=H.framed;obtain⟨rS,hrS⟩:∃ rS,zCO W (rowM (s2,g,c)::.blk b1 #[.slice (some ⟨g1,0,none⟩) ps.length n1] 23::.blk b2 #[.slice (some ⟨g2,0,none⟩) S.length n2] 25::.blk b11 #[.int .i64 (v:Int)] 3::E)=rS:=⟨_,rfl⟩;obtain⟨rF,hrF⟩:∃ rF,zB3 W (rowM (s2,g,c)::.blk b1 #[.slice (some ⟨g1,0,none⟩) ps.length n1] 23::.blk b2 #[.slice (some ⟨g2,0,none⟩) S.length n2] 25::.blk b11 #[.int .i64 (v:Int)] 3::E)=rF:=⟨_,rfl⟩
  rw[hrS]at H1 hKN;rw[hrF]at H1;clear hrS hrF H;have H:=H1.perms (show List.Perm _ (.kn rF rS::(rowM (s2,g,c)::.blk b1 #[.slice (some ⟨g1,0,none⟩) ps.length n1] 23::.blk b2 #[.slice (some ⟨g2,0,none⟩) S.length n2] 25::.blk b11 #[.int .i64 (v:Int)] 3::E)) from List.perm_append_comm (l₁:=(rowM (s2,g,c)::.blk b1 #[.slice (some ⟨g1,0,none⟩) ps.length n1] 23::.blk b2 #[.slice (some ⟨g2,0,none⟩) S.length n2] 25::.blk b11 #[.int .i64 (v:Int)] 3::E)) (l₂:=[_]))
  clear H1
  try simp only[ca]at H
  have hsame:∀ W,HoldG M1 w W (.kn rF rS::rowM (s2,g,c)::.blk b1 #[.slice (some ⟨g1,0,none⟩) ps.length n1] 23::.blk b2 #[.slice (some ⟨g2,0,none⟩) S.length n2] 25::.blk b11 #[.int .i64 (v:Int)] 3::E)->Calls Tryz.prog 18 #[.slice (some ⟨g,0,none⟩) s2.length c,.slice py s2.length cy] W fun e w'=>e=.returned (.bool true)/\Below W.heap.size W w':=fun W h=>by
   obtain⟨F,hF,hI⟩:=h.rowInts (i:=1) i_1;exact zIV (some ⟨g,0,none⟩) py c cy s2 F Fw W (fun b hb=>(hF b hb).2) (hLW _ _ h) hI ((hRW _ _ h).2 _ (List.mem_of_getElem? hy))
  have hfin:∀ V (u:Int),HoldG M1 w V (.kn rF rS::rowM (s2,g,c)::.blk b1 #[.slice (some ⟨g1,0,none⟩) ps.length n1] 23::.blk b2 #[.slice (some ⟨g2,0,none⟩) S.length n2] 25::.blk b11 #[.int .i64 u] 3::E)->HoldG M1 w V ([.blk b1 #[.slice (some ⟨g1,0,none⟩) ps.length n1] 23,.blk b2 #[.slice (some ⟨g2,0,none⟩) S.length n2] 25,.blk b11 #[.int .i64 u] 3]++E):=fun V u h=>HoldG.left (ext:=[.kn rF rS,rowM (s2,g,c)]) (h.perms (List.perm_append_comm (l₁:=[Res.kn rF rS,rowM (s2,g,c)]) (l₂:=_)))
  have H3:=Lib.hid h3;have HVM:=Lib.hid hvm;have HKEEP:=Lib.hid hfin;clear h1 h3 hpl hvm hfin hss hy hys
  by_cases hmv:many<=(v:Int)
  ·have dv:decide ((v:Int) ≥ many)=true:=decide_eq_true hmv;have dv2:decide (many<=(v:Int))=true:=decide_eq_true hmv;refine wpIn_block (wpIn_seq (wpIn_seq (wpIn_region_lit (zAs (by rintro⟨_,_,h⟩;exact h) _ _ _ rfl ?_))))
   go_wp2_with (first|((with_reducible refine gL ?_);refine zAE wtd_ _ _ rfl rfl H (i:=4) i_4 zAF rfl ?_)|((with_reducible refine gL ?_);refine zAK wtd_ _ _ rfl rfl zAF (hc5 _ _ H) ?_)|((with_reducible refine gL ?_);refine zAK wtd_ _ _ rfl rfl oneR (hc9 _ _ H) ?_)|((with_reducible refine gL ?_);refine zAK wtd_ _ _ rfl rfl zAv (hcw _ _ H) ?_))
   refine wpIn_cond_true rfl (wpIn_exit ?_);exact⟨hKN.out _ (H.kn (i:=0) .zero),(by simpa using H3.out),_,⟨rfl,rfl,by have:=HVM.out;omega⟩,HKEEP.out _ _ H⟩
  ·have dv:decide ((v:Int) ≥ many)=false:=decide_eq_false hmv;have dv2:decide (many<=(v:Int))=false:=decide_eq_false hmv;have dx:decide ((v:Int) ≥ (xw.length:Int))=false:=decide_eq_false (by omega)
   have dx2:decide ((xw.length:Int)<=(v:Int))=false:=decide_eq_false (by omega)
   have dx3:decide (xw.length<=v)=false:=decide_eq_false (by omega)
   refine wpIn_block (wpIn_seq (wpIn_seq (wpIn_region_lit (zAs (by rintro⟨_,_,h⟩;exact h) _ _ _ rfl ?_))))
   go_wp2_with (first|((with_reducible refine gL ?_);refine zAE wtd_ _ _ rfl rfl H (i:=4) i_4 zAF rfl ?_)|((with_reducible refine gL ?_);refine zAK wtd_ _ _ rfl rfl zAF (hc5 _ _ H) ?_)|((with_reducible refine gL ?_);refine zAK wtd_ _ _ rfl rfl oneR (hc9 _ _ H) ?_)|((with_reducible refine gL ?_);refine zAK wtd_ _ _ rfl rfl zAv (hcw _ _ H) ?_)|((with_reducible refine ch (hsame _ H) H ?_);clear H;intro w H))
   refine wpIn_cond_false rfl (wpIn_skip ?_);refine wpIn_region_lit (zAs (by rintro⟨_,_,h⟩;exact h) _ _ _ rfl ?_)
   go_wp2_with (first|((with_reducible refine gL ?_);refine zAE wtd_ _ _ rfl rfl H (i:=4) i_4 zAF rfl ?_)|((with_reducible refine gT ?_);refine zAN wtd_ _ _ _ rfl rfl evd_ H (i:=4) i_4 rfl (show 0<1 from Nat.one_pos) (zAD zAF) ?_;clear H;intro w H;try simp only[nr]at H))
   exact⟨hKN.out _ (H.kn (i:=0) .zero),(by simpa using H3.out),_,⟨rfl,by have:=HVM.out;omega⟩,HKEEP.out _ _ H⟩
 case done =>
  rintro D1 j W1 hD1 hS hKD1;clear hI1 hC0 ha5;have hgen:∃ v:Nat,(v:Int)=min (max many 0) ((zAX ps S).length:Int)/\HoldG M1 w W1 [.blk b1 #[.slice (some ⟨g1,0,none⟩) ps.length n1] 23,.blk b2 #[.slice (some ⟨g2,0,none⟩) S.length n2] 25,.blk b11 #[.int .i64 (v:Int)] 3]/\(j=none\/j=some (.exit 0)):=by
   cases j with
   | none =>
    obtain⟨lc,⟨rfl,hv⟩,hs⟩:=hS;exact⟨_,by omega,hs,.inl rfl⟩
   | some k =>
    obtain⟨v,lc,hv,⟨rfl,rfl,h⟩,hs⟩:=hS;exact⟨v,by omega,hs,.inr rfl⟩
  obtain⟨v,hv,K,hj⟩:=hgen;clear hS
  have HX:=HoldG.absorbAt 7 H K (fun b hb=>by
   rcases(hMe b).1 hb with rfl|rfl|rfl
   ·exact⟨_,.tail _ (.tail _ (.head _)),rfl⟩
   ·exact⟨_,.head _,rfl⟩
   ·exact⟨_,.tail _ (.head _),rfl⟩) rfl
  simp only[List.take_succ_cons,List.take_zero,List.cons_append,List.nil_append]at HX;have hszD:w0.heap.size<=D1:=Nat.le_trans H.keep.size hD1;clear H K hap gI gB lI lB kp hc5 hc9 hRW lW hLW hMe M1;have H:=HX.knowObj (by simp) hKD1 rfl
  clear HX hKD1;simp only[ca]at H;refine zF1 hj ?_
  clear hj;obtain⟨km,hkm⟩:∃ km,max many 0=km:=⟨_,rfl⟩;have HKM:=Lib.hid hkm;have HV:=Lib.hid (show min km (xw.length:Int)=(v:Int) by rw[← hkm,hv,← hxw,List.length_map])
  have dn:(!(((v:Int)) == (v:Int)))=false:=by simp
  clear hv hkm;refine zA0 (zBC ?_)
  go_wp2_with (first|((with_reducible show @wpList _ _ _ ({dst:=_,op:=Op.call {callee:=.builtin .max,args:=_,argTypes:=_},type:=_,pos:=_,after:=_,guard:=_}::_) _ _);refine zAh (v:=.int .i64 km) (by first|rfl|exact zAT rfl (zAM rfl rfl)) (zH1 HKM.out rfl evd_ evd_) ?_)|((with_reducible show @wpList _ _ _ ({dst:=_,op:=Op.call {callee:=.builtin .min,args:=_,argTypes:=_},type:=_,pos:=_,after:=_,guard:=_}::_) _ _);refine zAh (v:=.int .i64 (v:Int)) (by first|rfl|exact zAT rfl (zAM rfl rfl)) (zLi HV.out rfl evd_ evd_) ?_)|((with_reducible refine gL ?_);refine zAE wtd_ _ _ rfl rfl H (i:=9) i_9 zAF rfl ?_)|((with_reducible refine gL ?_);refine zAE wtd_ _ _ rfl rfl H (i:=2) i_2 zAF rfl ?_)|((with_reducible refine gL ?_);refine zAE wtd_ _ _ rfl rfl H (i:=6) i_6 oneR rfl ?_))
  refine zA0 (zBC ?_)
  go_wp2_with (first|((with_reducible show @wpList _ _ _ ({dst:=_,op:=Op.alloc _,type:=_,pos:=_,after:=_,guard:=_}::_) _ _);refine zCa wtd_ _ rfl H (by kernel_rfl) ?_;clear H;intro b13 w H;try simp only[zLa,List.cons_append,List.nil_append]at H))
  refine zA0 (zA0 (zBC ?_))
  go_wp2_with (first|fail)
  obtain⟨M2,hM2⟩:∃ M2:Nat->Prop,M2=fun b=>b=b13\/b=b1\/b=b2:=⟨_,rfl⟩
  have hMe:∀ b,M2 b↔(b=b13\/b=b1\/b=b2):=fun b=>by rw[hM2]
  clear hM2;obtain⟨ir,hir,hr0,hr1,hr2⟩:=info_parts zLV;have H1:=H.pick [0,1,2,3,4,5,6,9,10,7,8,11] [Res.kn Fp (InstsR Fp pp cp ps),.kn Fs (BytesR Fs psl csl S),.blk b5 #[.int .i64 many] 3,.kn (fun x=>x=g1) (InstsR (fun x=>x=g1) (some ⟨g1,0,none⟩) n1 (ps++zBH 12)),.kn (fun x=>x=g2) (LentS g2 S),.kn Fw (RowsR Fw qw nw xw),.blk b9 #[.slice qw xw.length nw] 47,.blk b11 #[.int .i64 (v:Int)] 3,.kn (fun x=>x=D1) (fun V=>V.heap[D1]?=some (.deferred (some []))),.blk b1 #[.slice (some ⟨g1,0,none⟩) ps.length n1] 23,.blk b2 #[.slice (some ⟨g2,0,none⟩) S.length n2] 25,.blk b13 #[.slice none 0 0] 47] (by decide) rfl
  clear H;have H:=H1;clear H1
  have hI1:HoldG M2 w w (AG b1 b2 b13 (.slice (some ⟨g1,0,none⟩) ps.length n1) (.slice (some ⟨g2,0,none⟩) S.length n2) none 0 []):=(show HoldG M2 w w [.blk b1 #[.slice (some ⟨g1,0,none⟩) ps.length n1] 23,.blk b2 #[.slice (some ⟨g2,0,none⟩) S.length n2] 25,.blk b13 #[.slice none 0 0] 47] from H.rebase [9,10,11] (by decide) rfl (fun r hr=>by
   rcases List.mem_cons.1 hr with rfl|hr
   ·exact⟨_,_,_,rfl,(hMe _).2 (.inr (.inl rfl))⟩
   rcases List.mem_cons.1 hr with rfl|hr
   ·exact⟨_,_,_,rfl,(hMe _).2 (.inr (.inr rfl))⟩
   rcases List.mem_cons.1 hr with rfl|hr
   ·exact⟨_,_,_,rfl,(hMe _).2 (.inl rfl)⟩
   ·cases hr)).addNil 55 1
  have hap:∀ i r,i<9->[Res.kn Fp (InstsR Fp pp cp ps),.kn Fs (BytesR Fs psl csl S),.blk b5 #[.int .i64 many] 3,.kn (fun x=>x=g1) (InstsR (fun x=>x=g1) (some ⟨g1,0,none⟩) n1 (ps++zBH 12)),.kn (fun x=>x=g2) (LentS g2 S),.kn Fw (RowsR Fw qw nw xw),.blk b9 #[.slice qw xw.length nw] 47,.blk b11 #[.int .i64 (v:Int)] 3,.kn (fun x=>x=D1) (fun V=>V.heap[D1]?=some (.deferred (some []))),.blk b1 #[.slice (some ⟨g1,0,none⟩) ps.length n1] 23,.blk b2 #[.slice (some ⟨g2,0,none⟩) S.length n2] 25,.blk b13 #[.slice none 0 0] 47][i]?=some r->∀ b,Res.foot r b->¬ M2 b:=fun i r hi hr b hf hb=>by
   rcases(hMe b).1 hb with rfl|rfl|rfl
   ·exact H.apart 11 i _ r (by omega) rfl hr _ rfl hf
   ·exact H.apart 9 i _ r (by omega) rfl hr _ rfl hf
   ·exact H.apart 10 i _ r (by omega) rfl hr _ rfl hf
  have gI:=InstsR.pre (H.kn (i:=3) i_3);have gB:=LentS.bytes (H.kn (i:=4) i_4) HQ.out.2.1 HQ.out.2.2;have lI:=H.knlt (i:=3) i_3;have lB:=H.knlt (i:=4) i_4;have hC0:C2 (zAX ps S) b1 b2 b13 (.slice (some ⟨g1,0,none⟩) ps.length n1) (.slice (some ⟨g2,0,none⟩) S.length n2) 0 (AG b1 b2 b13 (.slice (some ⟨g1,0,none⟩) ps.length n1) (.slice (some ⟨g2,0,none⟩) S.length n2) none 0 []):=⟨[],none,0,rfl,rfl,rfl⟩
  refine zEc (zEo (σ:=Nat × List Res × List Res) (α:=zAP × Nat × Nat) (n:=8) (gf:=34) (lb:=#[.pointer (some ⟨b1,0,none⟩),.pointer (some ⟨b2,0,none⟩)]) rfl (enters_of Tryz.func34 (by kernel_rfl) rfl) (encs:=fun x=>#[.slice (some ⟨x.2.1,0,none⟩) x.1.length x.2.2]) (fun _=>rfl)
   (fun W=>HoldG M2 w W (AG b1 b2 b13 (.slice (some ⟨g1,0,none⟩) ps.length n1) (.slice (some ⟨g2,0,none⟩) S.length n2) none 0 []))
   (fun j W=>j=none/\∃ lc,C2 (zAX ps S) b1 b2 b13 (.slice (some ⟨g1,0,none⟩) ps.length n1) (.slice (some ⟨g2,0,none⟩) S.length n2) (zAX ps S).length lc/\HoldG M2 w W lc)
   (fun _ _=>False)
   (fun s x W=>((zAX ps S)[s.1]?=some x.1/\C2 (zAX ps S) b1 b2 b13 (.slice (some ⟨g1,0,none⟩) ps.length n1) (.slice (some ⟨g2,0,none⟩) S.length n2) s.1 s.2.1/\s.2.2.all zAY=true)/\HoldG M2 w W (rowM x::s.2.1++s.2.2))
   (fun s x j W=>j=none/\s.2.2.all zAY=true/\∃ lc',C2 (zAX ps S) b1 b2 b13 (.slice (some ⟨g1,0,none⟩) ps.length n1) (.slice (some ⟨g2,0,none⟩) S.length n2) (s.1+1) lc'/\HoldG M2 w W (lc'++s.2.2))
   (fun _ _ _ _=>False)
   (fun s x a1 W=>a1={tmps:=List.toArray [.slice pp ps.length cp,.slice psl S.length csl,.int .i64 many,undef,undef,.pointer (some ⟨b5,0,none⟩),.bool false,.slice (some ⟨g1,0,none⟩) ps.length n1,.slice (some ⟨g2,0,none⟩) S.length n2,.pointer (some ⟨b9,0,none⟩),.func (.func 34) #[] #[.pointer (some ⟨b1,0,none⟩),.pointer (some ⟨b2,0,none⟩)],.pointer (some ⟨b11,0,none⟩),undef,.pointer (some ⟨b13,0,none⟩),.slice (some ⟨x.2.1,0,none⟩) x.1.length x.2.2,undef,.slice pp ps.length cp,.int .i64 ps.length,.bool false,.bool false,.slice psl S.length csl,.int .i64 S.length,.bool false,.bool false,undef,.bool true,.bool false,.slice pp ps.length cp,.slice (some ⟨g1,0,none⟩) ps.length n1,.slice psl S.length csl,.slice (some ⟨g2,0,none⟩) S.length n2,.slice pp ps.length cp,.slice psl S.length csl,.slice qw xw.length nw,.slice (some ⟨g1,0,none⟩) ps.length n1,.slice (some ⟨g2,0,none⟩) S.length n2,.func (.func 34) #[] #[.pointer (some ⟨b1,0,none⟩),.pointer (some ⟨b2,0,none⟩)],.func (.func 34) #[] #[.pointer (some ⟨b1,0,none⟩),.pointer (some ⟨b2,0,none⟩)],undef,undef,undef,undef,undef,undef,undef,undef,undef,undef,undef,undef,undef,undef,undef,undef,undef,undef,undef,undef,undef,.int .i64 (v:Int),.int .i64 many,.int .i64 km,.slice qw xw.length nw,.int .i64 xw.length,.int .i64 (v:Int),.bool false,.func (.func 34) #[] #[.pointer (some ⟨b1,0,none⟩),.pointer (some ⟨b2,0,none⟩)],.slice (some ⟨x.2.1,0,none⟩) x.1.length x.2.2,undef,undef,undef,undef,undef,undef,undef,undef,undef,undef,undef,undef,undef,undef,undef,undef,undef,undef,undef,undef,undef,undef,undef,undef,undef,undef,undef,undef,undef,undef,undef,undef,undef,undef,undef,undef,undef,undef,undef,undef,undef,undef,undef,undef],defers:=[]}/\((zAX ps S)[s.1]?=some x.1/\C2 (zAX ps S) b1 b2 b13 (.slice (some ⟨g1,0,none⟩) ps.length n1) (.slice (some ⟨g2,0,none⟩) S.length n2) s.1 s.2.1/\s.2.2.all zAY=true)/\HoldG M2 w W (rowM x::s.2.1++s.2.2))
   (fun W W' row hs hg hr=>hs.stayC (by simp[zAY]) (Nat.le_refl _) hg hr)
   (fun j W W' row hs hg hr=>(by
    obtain⟨h0,lc,hc,hs⟩:=hs
    exact⟨h0,lc,hc,hs.stayC (zFZ hc) (Nat.le_refl _) hg hr⟩))
   (fun s x j W W' row hs hg hr=>(by
    obtain⟨h0,h1,lc',hc,hs⟩:=hs
    exact⟨h0,h1,lc',hc,hs.stayC (by rw[List.all_append,zFZ hc,h1];rfl) (Nat.le_refl _) hg hr⟩))
   (fun s x a1 W W' row hs hg hr=>⟨hs.1,hs.2.1,hs.2.2.stayC (by simp[zAY,zFZ hs.2.1.2.1,hs.2.1.2.2]) (Nat.le_refl _) hg hr⟩) ?iter2 hI1 ?assign2 ?body2 ?done2 ?pan2)
  case iter2 =>
   intro l B K hBs hKs hBK hY W hI hBW;refine(zJF M2 w (some ⟨g1,0,none⟩) n1 ps (some ⟨g2,0,none⟩) n2 S _ _ hset hm2 lI lB gI gB (fun b hb=>⟨fun h=>hap 3 _ (by omega) rfl b h hb,fun h=>hap 4 _ (by omega) rfl b h hb⟩) b1 b2 (C2 (zAX ps S) b1 b2 b13 (.slice (some ⟨g1,0,none⟩) ps.length n1) (.slice (some ⟨g2,0,none⟩) S.length n2)) (fun _ _ _=>False) (fun _ _ h=>zFZ h) l B w.heap.size hBs (fun v sl g c lc E W1 hv hc hE hW hB1=>?_) W _ hC0 0 1 .zero i_1 hI hBW).mono (fun e W' hh=>?_)
   ·refine(hY (v,lc,E) (sl,g,c) W1 ⟨⟨hv,hc,hE⟩,hW⟩ hB1).mono (fun e W' h=>?_)
    rcases h with ⟨j,rfl,⟨rfl,_,hq⟩,hb⟩|⟨ch,_,h,_⟩
    ·exact⟨_,rfl,none,rfl,hq,hb⟩
    ·exact h.elim
   ·obtain⟨v,j,rfl,hb,hh⟩:=hh
    cases j with
    | none=>exact .inl ⟨v,none,rfl,⟨rfl,hh⟩,hb⟩
    | some k=>obtain⟨_,_,_,h,_⟩:=hh;exact h.elim
  case assign2 =>
   rintro l s x W hJ;simp only[List.zip_toArray,List.foldl_toArray,List.zip_cons_cons,List.zip_nil_right,List.zip_nil_left,List.foldl_cons,List.foldl_nil,List.setIfInBounds_toArray,List.set_cons_succ,List.set_cons_zero]
   gi_wp2
   refine⟨fun k o _ hk _=>hk,?_,hJ⟩
   first|trivial|rfl
  case body2 =>
   rintro l ⟨u,lc,E⟩ ⟨sl,g,c⟩ a1 W ⟨rfl,⟨h1,hC,h3⟩,Hr⟩;obtain⟨xs,q,cq,hlc,hx,hxl⟩:=hC;have hlc:lc=AG b1 b2 b13 (.slice (some ⟨g1,0,none⟩) ps.length n1) (.slice (some ⟨g2,0,none⟩) S.length n2) q cq xs:=hlc;subst hlc;clear H hI1 hC0 gI gB lI lB hap;have h1:(zAX ps S)[u]?=some sl:=h1;have h3:E.all zAY=true:=h3;have hx:xs.map (·.1)=(zAX ps S).take u:=hx;have hxl:xs.length=u:=hxl;have H:HoldG M2 w W (rowM (sl,g,c)::AG b1 b2 b13 (.slice (some ⟨g1,0,none⟩) ps.length n1) (.slice (some ⟨g2,0,none⟩) S.length n2) q cq xs++E):=Hr
   clear Hr;have hv2:u<=102:=by
    have:=(List.getElem?_eq_some_iff.1 h1).1;have h2:=zCY (p:=ps) (s:=S) (n:=S.length+2) (a:=0) (e:=false);unfold zAX at this;omega
   have hpl:(rowM (sl,g,c)::AG b1 b2 b13 (.slice (some ⟨g1,0,none⟩) ps.length n1) (.slice (some ⟨g2,0,none⟩) S.length n2) q cq xs++E).all zAY=true:=by rw[List.cons_append,List.all_cons,List.all_append,zHH,h3];rfl
   have hKN:=Lib.hid fun V=>KeepsNC.of_plain (W':=V) w.heap.size H hpl
   have H1:=H.framed;obtain⟨rS,hrS⟩:∃ rS,zCO W (rowM (sl,g,c)::AG b1 b2 b13 (.slice (some ⟨g1,0,none⟩) ps.length n1) (.slice (some ⟨g2,0,none⟩) S.length n2) q cq xs++E)=rS:=⟨_,rfl⟩;obtain⟨rF,hrF⟩:∃ rF,zB3 W (rowM (sl,g,c)::AG b1 b2 b13 (.slice (some ⟨g1,0,none⟩) ps.length n1) (.slice (some ⟨g2,0,none⟩) S.length n2) q cq xs++E)=rF:=⟨_,rfl⟩;rw[hrS]at H1 hKN;rw[hrF]at H1;clear hrS hrF H;have H:=H1.perms (show List.Perm _ (.kn rF rS::(rowM (sl,g,c)::AG b1 b2 b13 (.slice (some ⟨g1,0,none⟩) ps.length n1) (.slice (some ⟨g2,0,none⟩) S.length n2) q cq xs++E)) from List.perm_append_comm (l₁:=(rowM (sl,g,c)::AG b1 b2 b13 (.slice (some ⟨g1,0,none⟩) ps.length n1) (.slice (some ⟨g2,0,none⟩) S.length n2) q cq xs++E)) (l₂:=[_]))
   clear H1;simp only[AG,List.cons_append]at H;have hx2:(xs++[((sl,some (⟨g,0,none⟩:Addr),c):zAV)]).map (·.1)=(zAX ps S).take (u+1):=by
    rw[List.map_append,hx,List.take_add_one,h1];rfl
   have hl2:(xs++[((sl,some (⟨g,0,none⟩:Addr),c):zAV)]).length=u+1:=by rw[List.length_append,hxl];rfl
   have hend:∀ V q2 c2 bk,HoldG M2 w V (.blk bk #[.slice (some ⟨g,0,none⟩) sl.length c] 55::.kn rF rS::rowM (sl,g,c)::.blk b1 #[.slice (some ⟨g1,0,none⟩) ps.length n1] 23::.blk b2 #[.slice (some ⟨g2,0,none⟩) S.length n2] 25::.blk b13 #[.slice q2 (u+1) c2] 47::.row (.slice q2 (u+1) c2) 55 1 (u+1) (xs.map zAg++[.slice (some ⟨g,0,none⟩) sl.length c])::(xs.map zA5++E))->HoldG M2 w V (AG b1 b2 b13 (.slice (some ⟨g1,0,none⟩) ps.length n1) (.slice (some ⟨g2,0,none⟩) S.length n2) q2 c2 (xs++[((sl,some (⟨g,0,none⟩:Addr),c):zAV)])++E):=fun V q2 c2 bk H=>by
    have H2:=HoldG.left (H.perms zJR);simp only[AG,hl2,List.map_append,List.map_cons,List.map_nil];exact H2
   rw[hxl]at H;have HX:=Lib.hid (And.intro hx2 hl2);clear hx2 hl2;have HEND:=Lib.hid hend;clear hend;have H3:=Lib.hid h3;clear h3 hpl;clear h1 hx hxl;refine wpIn_block (wpIn_region_lit (zAs (by rintro⟨_,_,h⟩;exact h) _ _ _ rfl ?_))
   go_wp2_with (first|((with_reducible refine gL ?_);refine zAE wtd_ _ _ rfl rfl H (i:=4) i_4 oneR rfl ?_)|((with_reducible refine gBS ?_);refine zAQ wtd_ _ _ _ rfl H #[.slice (some ⟨g,0,none⟩) sl.length c] 55 (by intro W;simp only[ml];(try simp only[pe]);exact zEe _ _ _ W) ?_;clear H;intro bk w H;replace H:=H.perms List.perm_append_comm;simp only[ca]at H)|(at_builtin;refine zAx rfl _ _ 47 rfl H (i:=6) (j:=0) evd_ rfl i_6 .zero Tryz.underlying47 hir hr0 hr1 hr2 rfl (by decide) rfl rfl (by unfold maxLen;omega) (by omega) ?_;clear H;intro v2 w H;(try simp only[nr]at H);(obtain⟨q2,c2,rfl,_,_,_⟩:=H.rowShape (i:=6) i_6))|((with_reducible refine gT ?_);refine zAN wtd_ _ _ _ rfl rfl evd_ H (i:=5) i_5 rfl (show 0<1 from Nat.one_pos) (zAD oneR) ?_;clear H;intro w H;try simp only[nr]at H))
   exact⟨hKN.out _ (H.kn (i:=1) i_1),(by simp),_,⟨_,q2,c2,rfl,HX.out.1,HX.out.2⟩,HEND.out _ _ _ _ H⟩
  case done2 =>
   rintro D2 j2 W2 hD2 ⟨rfl,lc,⟨xs,q,cq,rfl,hx,hxl⟩,K⟩ hKD2;have hx:xs.map (·.1)=zAX ps S:=by rw[hx,List.take_of_length_le (Nat.le_refl _)]
   have HX2:=HoldG.absorbAt 9 H K (fun b hb=>by
    rcases(hMe b).1 hb with rfl|rfl|rfl
    ·exact⟨_,.tail _ (.tail _ (.head _)),rfl⟩
    ·exact⟨_,.head _,rfl⟩
    ·exact⟨_,.tail _ (.head _),rfl⟩) (zHH ..)
   have hsz2:w0.heap.size<=D2:=Nat.le_trans H.keep.size hD2;have hne:D1≠D2:=Nat.ne_of_lt (Nat.lt_of_lt_of_le (H.knlt (i:=8) i_8 D1 rfl) hD2);simp only[List.take_succ_cons,List.take_zero,AG,List.cons_append,List.nil_append]at HX2;clear H K hap gI gB lI lB hMe M2 hI1 hC0;have HX3:=HX2.knowObj (by intro r hr b es c h;subst h;simp[zA5]at hr) hKD2 rfl
   have H:=HX3.perms List.perm_append_comm;clear HX2 HX3 hKD2;simp only[ca]at H;refine zF1 (.inl rfl) ?_
   have HX:=Lib.hid hx;clear hx hxl;refine zA0 (zBC ?_)
   go_wp2_with (first|((with_reducible refine gL ?_);refine zAE wtd_ _ _ rfl rfl H (i:=3) i_3 zAF rfl ?_)|(go_at_call 13;refine(zJE (some ⟨g1,0,none⟩) n1 ps (some ⟨g2,0,none⟩) n2 S many (fun x=>x=g1) (fun x=>x=g2) _ hset hm2 (H.knlt (i:=4) i_4) (H.knlt (i:=5) i_5) (InstsR.pre (H.kn (i:=4) i_4)) (LentS.bytes (H.kn (i:=5) i_5) HQ.out.2.1 HQ.out.2.2)).mono ?_;rintro e w ⟨q2,c2,ys,rfl,hy,K⟩;have HY:=Lib.hid hy;have H2:=(H.gainAll K (by intro r hr F S h;subst h;simp[zA5]at hr)).ins 14;clear H K hy;have H:=H2;clear H2;simp only[List.take_succ_cons,List.take_zero,List.drop_succ_cons,List.drop_zero,List.cons_append,List.nil_append,← List.map_append]at H))
   have hsr:Calls Tryz.prog 12 #[.slice q xs.length cq,.slice qw xw.length nw] w (Rt (.bool true) w):=by
    have Hr:=HoldG.pickK 15 [13] [.row (.slice q xs.length cq) 55 1 xs.length (xs.map zAg)] H (by decide) rfl
    simp only[List.drop_succ_cons,List.drop_zero,List.map_append,List.cons_append,List.nil_append]at Hr;have Hr2:Hold w0 w (.row (.slice q xs.length cq) 55 1 xs.length (xs.map zAg)::xs.map zA5):=HoldG.left (ext:=ys.map zA5) Hr;obtain⟨⟨q',n',xs',F',e',hx',hr',hf'⟩,_⟩:=RowsW.out (w:=w0) (rows:=zAX ps S) (e:=.returned (.slice q xs.length cq)) ⟨q,cq,xs,rfl,HX.out,Hr2⟩;simp only[Ending.returned.injEq,Value.slice.injEq]at e'
    obtain⟨rfl,e2,rfl⟩:=e';rw[e2];exact zCk q qw cq nw xs' xw F' Fw w (by rw[hx',hxw]) (fun b hb=>(hf' b hb).1) (H.knlt (i:=6) i_6) hr' (H.kn (i:=6) i_6)
   refine zA0 (zBC ?_)
   go_wp2_with (first|((with_reducible refine gL ?_);refine zAE wtd_ _ _ rfl rfl H (i:=12) i_12 oneR rfl ?_)|((with_reducible refine gL ?_);refine zAE wtd_ _ _ rfl rfl H (i:=7) i_7 oneR rfl ?_)|((with_reducible refine gL ?_);refine zAE wtd_ _ _ rfl rfl H (i:=3) i_3 zAF rfl ?_)|(go_at_call 12;refine ch hsr H ?_;clear hsr H;intro w H)|(go_at_call 5;refine ch (ht (some ⟨g1,0,none⟩) n1 (fun x=>x=g1) _ (some ⟨g2,0,none⟩) n2 (fun x=>x=g2) (H.knlt (i:=4) i_4) (H.knlt (i:=5) i_5) (InstsR.pre (H.kn (i:=4) i_4)) (LentS.bytes (H.kn (i:=5) i_5) HQ.out.2.1 HQ.out.2.2)) H ?_;clear H;intro w H)|(go_at_call 19;refine ch (hki g1 n1 _ (H.knlt (i:=1) i_1) (H.knlt (i:=4) i_4) (H.kn (i:=1) i_1) (H.kn (i:=4) i_4)) H ?_;clear H;intro w H)|(go_at_call 20;refine ch (zHT (.slice (some ⟨g2,0,none⟩) S.length n2) (.slice psl S.length csl) (zDV S) w0.heap.size _ hm3 (LentS.lent (H.kn (i:=5) i_5) HQ.out.2.1 HQ.out.2.2 HQ.out.1 ((H.knlt (i:=5) i_5) _ rfl)) (hrd.grown H.below)) H ?_;clear H;intro w H))
   have hrl:(zAX ps S).length<=102:=by
    have h2:=zCY (p:=ps) (s:=S) (n:=S.length+2) (a:=0) (e:=false);unfold zAX;omega
   have hxl:xs.length<=400:=by
    have:=congrArg List.length HX.out;rw[List.length_map]at this;omega
   have hyl:ys.length<=400:=by
    have:=congrArg List.length HY.out;rw[List.length_map,List.length_take]at this;omega
   have hzl:∀ z ∈ xs++ys,z.1.length<=1000:=fun z hz=>by
    have hm:z.1 ∈ zAX ps S:=by
     rcases List.mem_append.1 hz with h|h
     ·rw[← HX.out];exact List.mem_map.2 ⟨z,h,rfl⟩
     ·exact List.mem_of_mem_take (by rw[← HY.out];exact List.mem_map.2 ⟨z,h,rfl⟩)
    exact Nat.le_trans (zGM _ _ _ _ hm) (by decide)
   have hapr:=fun gb w H0=>zHM gb q q2 cq c2 xs ys (zJp [.kn (fun x=>x=D2) (fun V=>V.heap[D2]?=some (.deferred (some []))),.kn Fp (InstsR Fp pp cp ps),.kn Fs (BytesR Fs psl csl S),.blk b5 #[.int .i64 many] 3,.kn (fun x=>x=D1) (fun V=>V.heap[D1]?=some (.deferred (some [])))]) (zMu [.kn (fun x=>x=D2) (fun V=>V.heap[D2]?=some (.deferred (some []))),.kn Fp (InstsR Fp pp cp ps),.kn Fs (BytesR Fs psl csl S),.blk b5 #[.int .i64 many] 3,.kn (fun x=>x=D1) (fun V=>V.heap[D1]?=some (.deferred (some [])))] w) w0 w hxl hyl hzl H0
   have HAP:=Lib.hid hapr;clear hapr hzl hxl hyl hrl HX HY;refine zBC ?_
   go_wp2_with (first|((with_reducible refine gL ?_);refine zAE wtd_ _ _ rfl rfl H (i:=12) i_12 oneR rfl ?_)|((with_reducible refine gBS ?_);refine zAQ wtd_ _ _ _ rfl H #[.slice q xs.length cq,.slice q2 ys.length c2] 47 (by intro W;simp only[ml];(try simp only[pe,zFg]);with_reducible exact zNA _ _ _ _ _ _ W) ?_;clear H;intro gb w H;replace H:=H.perms List.perm_append_comm;simp only[ca]at H)|(go_at_call 21;have HP:=HoldG.pickK 16 [1,2,3,4,10,0,14,15] ([.kn (fun x=>x=D2) (fun V=>V.heap[D2]?=some (.deferred (some []))),.kn Fp (InstsR Fp pp cp ps),.kn Fs (BytesR Fs psl csl S),.blk b5 #[.int .i64 many] 3,.kn (fun x=>x=D1) (fun V=>V.heap[D1]?=some (.deferred (some [])))]++[.blk gb #[.slice q xs.length cq,.slice q2 ys.length c2] 47,.row (.slice q xs.length cq) 55 1 xs.length (xs.map zAg),.row (.slice q2 ys.length c2) 55 1 ys.length (ys.map zAg)]) H (by decide) rfl;simp only[List.drop_succ_cons,List.drop_zero,List.append_assoc]at HP;have HA:Hold w0 w [.kn (fun x=>x=D2) (fun V=>V.heap[D2]?=some (.deferred (some []))),.kn Fp (InstsR Fp pp cp ps),.kn Fs (BytesR Fs psl csl S),.blk b5 #[.int .i64 many] 3,.kn (fun x=>x=D1) (fun V=>V.heap[D1]?=some (.deferred (some [])))]:=HoldG.left HP;have HB:=(HoldG.bundle [.kn (fun x=>x=D2) (fun V=>V.heap[D2]?=some (.deferred (some []))),.kn Fp (InstsR Fp pp cp ps),.kn Fs (BytesR Fs psl csl S),.blk b5 #[.int .i64 many] 3,.kn (fun x=>x=D1) (fun V=>V.heap[D1]?=some (.deferred (some [])))] HP).ins 3;simp only[List.take_succ_cons,List.take_zero,List.drop_succ_cons,List.drop_zero,List.cons_append,List.nil_append,List.append_nil]at HB;refine(HAP.out gb _ HB).mono ?_;clear H HP HB;rintro e w' ⟨rfl,hbw,hSw⟩;have H:=HA.unbundle hbw hSw;clear HA hbw hSw)|((with_reducible refine gL ?_);refine zAE wtd_ _ _ rfl rfl H (i:=3) i_3 zAF rfl ?_)|(go_at_call 5;refine ch (ht pp cp Fp _ psl csl Fs (H.knlt (i:=1) i_1) (H.knlt (i:=2) i_2) (H.kn (i:=1) i_1) (H.kn (i:=2) i_2)) H ?_;clear H;intro w H)|((with_reducible refine ch (zD6 _) H ?_);clear H;intro w H))
   have m1:=H.kn (i:=4) i_4;have m2:=H.kn (i:=0) .zero;refine zDQ (B:=w0.heap.size) (I:=fun W=>Hold w0 W []) (Stay.plain rfl (Nat.le_refl _)) [D2,D1] _ (H.take 0) (by simp;omega) (fun D hD=>?_) (fun D hD=>?_) (fun W' hI=>⟨.bool true,zKq Tryz.results7 rfl,rfl,hI.below⟩)
   ·rcases List.mem_cons.1 hD with rfl|hD
    ·exact hsz2
    ·rcases List.mem_cons.1 hD with rfl|hD
     ·exact hszD
     ·cases hD
   ·rcases List.mem_cons.1 hD with rfl|hD
    ·exact m2
    ·rcases List.mem_cons.1 hD with rfl|hD
     ·exact m1
     ·cases hD
  case pan2=>exact fun D ch W _ h _=>h.elim
 case pan=>exact fun D ch W _ h _=>h.elim
def IW (v:Value) (_:World):Prop:=∃ d:InstD,v=zA8 d/\zAb d.set
def SW (base:Nat) (v:Value) (W:World):Prop:=∃ (q:Option Addr) (c:Nat) (ps:List InstD),v=.slice q ps.length c/\ps.length<=5/\(∀ x ∈ ps,zAb x.set)/\InstsR (fun b=>base<=b/\b<W.heap.size) q c ps W
def GW (base:Nat) (v:Value) (W:World):Prop:=∃ (g:Nat) (cs:Array Value),v=.slice (some ⟨g,0,none⟩) 9 9/\base<=g/\W.heap[g]?=some (.cells cs 23 (0,0))/\∀ k,k<9->∃ u,cs[k]?=some u/\SW base u W
theorem zMU:zC0 IW:=fun _ _ _ h _=>h
theorem SW.below {base:Nat} {v:Value} {w w':World} (h:SW base v w) (hb:Below w.heap.size w w'):SW base v w':=by
 obtain⟨q,c,ps,rfl,h5,hs,hi⟩:=h;exact⟨q,c,ps,rfl,h5,hs,RdN.mono (hi.kept fun b hF=>hb.block b hF.2) fun b hF=>⟨hF.1,Nat.lt_of_lt_of_le hF.2 hb.size⟩⟩
theorem zNL (base:Nat):zC0 (SW base):=fun _ _ _ h hb=>h.below hb
theorem zNP (base:Nat):zC0 (GW base):=fun _ _ _ ⟨g,cs,e,h1,h2,h3⟩ hb=>⟨g,cs,e,h1,(hb.block g (Array.getElem?_eq_some_iff.1 h2).1).trans h2,fun k hk=>by
 obtain⟨u,hu,hs⟩:=h3 k hk
 exact⟨u,hu,hs.below hb⟩⟩
theorem zET {V:World} {b:Nat} {cs:Array Value} {T:TypeId} {f:Nat × Nat} (h:V.heap[b]?=some (.cells cs T f)):∀ j,j<9->V.cell? ⟨b,0+j,none⟩=cs[j]?:=fun j _=>by
 rw[Nat.zero_add,cell_of_row V b _ cs T f h]
theorem zHy {V:World} {g:Nat} {cs:Array Value} {T:TypeId} {f:Nat × Nat} {ds:List InstD} (h:V.heap[g]?=some (.cells cs T f)) (hc:cs=(zAW (ds.map zAf)).toArray) (hn:ds.length<=1000):InstsR (·=g) (some ⟨g,0,none⟩) ds.length ds V:=by
 refine⟨_,ds.length,by rw[List.length_map],by simp,?_,(fun h=>by cases h),fun j r hr=>⟨g,0,rfl,rfl,zDE ds r (List.mem_of_getElem? hr),fun k hk=>?_⟩⟩
 ·unfold maxLen;omega
 ·rw[Nat.zero_add,cell_of_row V g _ cs T f h,hc,List.getElem?_toArray];exact zDP (zDE ds) hr hk
section
variable {ops:Array Oper} {o:Oper} {a:Act} {w:World} {base:Nat} {D:Prop}
theorem zCP {f:FuncId} {t:Tmp} {xs:Array Operand} {ts:Array TypeId} {vs:Array Value} {d:InstD} (hg:Region.wanted o (yielded ops a.tmps)=true)
  (hop:o.op=Op.call {callee:=Callee.value (Operand.tmp t),args:=xs,argTypes:=ts}) (hf:∀ args w,(callFunc f args).run Tryz.prog w=.ok (.enter f args) w) (ht:a.eval (.tmp t)=.func (.func f) #[] #[]) (hx:xs.map a.eval=vs)
  (hc:Calls Tryz.prog f vs w (Rt (zA8 d) w)) (hs:zAb d.set) (hD:¬ D:=by decide):zA4 Tryz.prog ops o a w (fun v w'=>IW v w'/\(D->w.heap.size<=blk v)):=by
 refine zJc hg (f:=f) (args:=vs) ?_ (hc.mono fun _ _ ⟨he,hb⟩=>⟨_,he,hb,⟨d,rfl,hs⟩,fun h=>(hD h).elim⟩)
 simp only[execOp,hop];simp[resolve,ht,hx,Deferred.ofValue,invoke,hf]
theorem zCQ {x:Operand} {b:Nat} {d:InstD} (hg:Region.wanted o (yielded ops a.tmps)=true) (hop:o.op=.load 33 x) (hx:a.eval x=.pointer (some ⟨b,0,none⟩)) (hv:∀ j,j<9->w.cell? ⟨b,0+j,none⟩=(zAf d)[j]?) (hs:zAb d.set) (hD:¬ D:=by decide) :
  zA4 Tryz.prog ops o a w (fun v w'=>IW v w'/\(D->w.heap.size<=blk v)) :=
 zBo hg (v:=zA8 d) (w':=w) (zAk hop hx zAp rfl hv) (Below.refl _ w) ⟨⟨d,rfl,hs⟩,fun h=>(hD h).elim⟩
theorem zMn (hg:Region.wanted o (yielded ops a.tmps)=true) (hop:o.op=.build 33 #[]) (hD:¬ D:=by decide):zA4 Tryz.prog ops o a w (fun v w'=>IW v w'/\(D->w.heap.size<=blk v)):=by
 refine zBo hg (v:=zA8 {kind:=0}) (w':=w) ?_ (Below.refl _ w) ⟨⟨_,rfl,zAj⟩,fun h=>(hD h).elim⟩
 simp only[execOp,hop,List.map_toArray,List.map_nil,Sem.run_bind,zPw];rfl
theorem zDd {n:Nat} {parts:Array (Nat × Operand)} {ds:List InstD} (hg:Region.wanted o (yielded ops a.tmps)=true) (hop:o.op=.buildSlice 23 n parts)
  (hr:∀ W:World,(Instr.buildSlice 23 n (parts.map fun (i,x)=>(i,a.eval x))).run Tryz.prog W=.ok (.slice (some ⟨W.heap.size,0,none⟩) ds.length ds.length) (W.alloc (.cells (zAW (ds.map zAf)).toArray 33))) (h5:ds.length<=5) (hs:∀ d ∈ ds,zAb d.set) (hb:base<=w.heap.size) (hD:¬ D) :
  zA4 Tryz.prog ops o a w (fun v w'=>SW base v w'/\(D->w.heap.size<=blk v)):=by
 refine zBo hg (v:=.slice (some ⟨w.heap.size,0,none⟩) ds.length ds.length) (w':=w.alloc (.cells (zAW (ds.map zAf)).toArray 33)) ?_ ((Below.refl _ w).alloc (Nat.le_refl _) _) ⟨⟨_,_,ds,rfl,h5,hs,RdN.mono (zHy (World.alloc_heap_new w _) rfl (by omega)) fun b e=>?_⟩,fun h=>(hD h).elim⟩
 ·unfold execOp;simp only[hop,Sem.run_bind,hr,Result.andThen_ok];rfl
 ·subst e;exact⟨hb,(Array.getElem?_eq_some_iff.1 (World.alloc_heap_new w _)).1⟩
theorem zLB (W:World):(Instr.buildSlice 23 0 #[]).run Tryz.prog W=.ok (.slice (some ⟨W.heap.size,0,none⟩) 0 0) (W.alloc (.cells (zAW (([]:List InstD).map zAf)).toArray 33)):=by kernel_rfl
theorem zM7 (hg:Region.wanted o (yielded ops a.tmps)=true) (hop:o.op=.buildSlice 23 0 #[]) (hb:base<=w.heap.size)  (hD:¬ D:=by decide):zA4 Tryz.prog ops o a w (fun v w'=>SW base v w'/\(D->w.heap.size<=blk v)):=by
 refine zDd (ds:=[]) hg hop (fun W=>by simp only[ml];exact zLB  W) (by simp) ?_ hb hD
 intro d hd;cases hd
theorem zKm (d0:InstD) (W:World):(Instr.buildSlice 23 1 #[(0,zA8 d0)]).run Tryz.prog W=.ok (.slice (some ⟨W.heap.size,0,none⟩) 1 1) (W.alloc (.cells (zAW ([d0].map zAf)).toArray 33)):=by kernel_rfl
theorem zGL {x0:Operand} (hg:Region.wanted o (yielded ops a.tmps)=true) (hop:o.op=.buildSlice 23 1 #[(0,x0)]) (hb:base<=w.heap.size) (h0:IW (a.eval x0) w) (hD:¬ D:=by decide):zA4 Tryz.prog ops o a w (fun v w'=>SW base v w'/\(D->w.heap.size<=blk v)):=by
 obtain⟨d0,e0,s0⟩:=h0;refine zDd (ds:=[d0]) hg hop (fun W=>by simp only[List.map_toArray,List.map_cons,List.map_nil,e0];exact zKm d0 W) (by simp) ?_ hb hD
 intro d hd;simp only[List.mem_cons,List.not_mem_nil,or_false]at hd;subst hd;exact s0
theorem zK0 (d0 d1:InstD) (W:World):(Instr.buildSlice 23 2 #[(0,zA8 d0),(1,zA8 d1)]).run Tryz.prog W=.ok (.slice (some ⟨W.heap.size,0,none⟩) 2 2) (W.alloc (.cells (zAW ([d0,d1].map zAf)).toArray 33)):=by kernel_rfl
theorem zIl {x0 x1:Operand} (hg:Region.wanted o (yielded ops a.tmps)=true) (hop:o.op=.buildSlice 23 2 #[(0,x0),(1,x1)]) (hb:base<=w.heap.size) (h0:IW (a.eval x0) w) (h1:IW (a.eval x1) w) (hD:¬ D:=by decide):zA4 Tryz.prog ops o a w (fun v w'=>SW base v w'/\(D->w.heap.size<=blk v)):=by
 obtain⟨d0,e0,s0⟩:=h0;obtain⟨d1,e1,s1⟩:=h1;refine zDd (ds:=[d0,d1]) hg hop (fun W=>by simp only[List.map_toArray,List.map_cons,List.map_nil,e0,e1];exact zK0 d0 d1 W) (by simp) ?_ hb hD
 intro d hd;simp only[List.mem_cons,List.not_mem_nil,or_false]at hd;rcases hd with rfl|rfl<;>assumption
theorem zKz (d0 d1 d2 d3:InstD) (W:World):(Instr.buildSlice 23 4 #[(0,zA8 d0),(1,zA8 d1),(2,zA8 d2),(3,zA8 d3)]).run Tryz.prog W=.ok (.slice (some ⟨W.heap.size,0,none⟩) 4 4) (W.alloc (.cells (zAW ([d0,d1,d2,d3].map zAf)).toArray 33)):=by kernel_rfl
theorem zIF {x0 x1 x2 x3:Operand} (hg:Region.wanted o (yielded ops a.tmps)=true) (hop:o.op=.buildSlice 23 4 #[(0,x0),(1,x1),(2,x2),(3,x3)]) (hb:base<=w.heap.size) (h0:IW (a.eval x0) w) (h1:IW (a.eval x1) w) (h2:IW (a.eval x2) w) (h3:IW (a.eval x3) w) (hD:¬ D:=by decide):zA4 Tryz.prog ops o a w (fun v w'=>SW base v w'/\(D->w.heap.size<=blk v)):=by
 obtain⟨d0,e0,s0⟩:=h0;obtain⟨d1,e1,s1⟩:=h1;obtain⟨d2,e2,s2⟩:=h2;obtain⟨d3,e3,s3⟩:=h3;refine zDd (ds:=[d0,d1,d2,d3]) hg hop (fun W=>by simp only[List.map_toArray,List.map_cons,List.map_nil,e0,e1,e2,e3];exact zKz d0 d1 d2 d3 W) (by simp) ?_ hb hD
 intro d hd;simp only[List.mem_cons,List.not_mem_nil,or_false]at hd;rcases hd with rfl|rfl|rfl|rfl<;>assumption
theorem zKh (d0 d1 d2 d3 d4:InstD) (W:World):(Instr.buildSlice 23 5 #[(0,zA8 d0),(1,zA8 d1),(2,zA8 d2),(3,zA8 d3),(4,zA8 d4)]).run Tryz.prog W=.ok (.slice (some ⟨W.heap.size,0,none⟩) 5 5) (W.alloc (.cells (zAW ([d0,d1,d2,d3,d4].map zAf)).toArray 33)):=by kernel_rfl
theorem zLP {x0 x1 x2 x3 x4:Operand} (hg:Region.wanted o (yielded ops a.tmps)=true) (hop:o.op=.buildSlice 23 5 #[(0,x0),(1,x1),(2,x2),(3,x3),(4,x4)]) (hb:base<=w.heap.size) (h0:IW (a.eval x0) w) (h1:IW (a.eval x1) w) (h2:IW (a.eval x2) w) (h3:IW (a.eval x3) w) (h4:IW (a.eval x4) w) (hD:¬ D:=by decide):zA4 Tryz.prog ops o a w (fun v w'=>SW base v w'/\(D->w.heap.size<=blk v)):=by
 obtain⟨d0,e0,s0⟩:=h0;obtain⟨d1,e1,s1⟩:=h1;obtain⟨d2,e2,s2⟩:=h2;obtain⟨d3,e3,s3⟩:=h3;obtain⟨d4,e4,s4⟩:=h4;refine zDd (ds:=[d0,d1,d2,d3,d4]) hg hop (fun W=>by simp only[List.map_toArray,List.map_cons,List.map_nil,e0,e1,e2,e3,e4];exact zKh d0 d1 d2 d3 d4 W) (by simp) ?_ hb hD
 intro d hd;simp only[List.mem_cons,List.not_mem_nil,or_false]at hd;rcases hd with rfl|rfl|rfl|rfl|rfl<;>assumption
theorem zJX (u0 u1 u2 u3 u4 u5 u6 u7 u8:Value) (W:World) (h:∀ u ∈ [u0,u1,u2,u3,u4,u5,u6,u7,u8],∃ q n c,u=.slice q n c):(Instr.buildSlice 35 9 #[(0,u0),(1,u1),(2,u2),(3,u3),(4,u4),(5,u5),(6,u6),(7,u7),(8,u8)]).run Tryz.prog W=.ok (.slice (some ⟨W.heap.size,0,none⟩) 9 9) (W.alloc (.cells #[u0,u1,u2,u3,u4,u5,u6,u7,u8] 23)):=by
 obtain⟨q0,n0,c0,rfl⟩:=h u0 (by simp)
 obtain⟨q1,n1,c1,rfl⟩:=h u1 (by simp)
 obtain⟨q2,n2,c2,rfl⟩:=h u2 (by simp)
 obtain⟨q3,n3,c3,rfl⟩:=h u3 (by simp)
 obtain⟨q4,n4,c4,rfl⟩:=h u4 (by simp)
 obtain⟨q5,n5,c5,rfl⟩:=h u5 (by simp)
 obtain⟨q6,n6,c6,rfl⟩:=h u6 (by simp)
 obtain⟨q7,n7,c7,rfl⟩:=h u7 (by simp)
 obtain⟨q8,n8,c8,rfl⟩:=h u8 (by simp)
 kernel_rfl
theorem zOb {x0 x1 x2 x3 x4 x5 x6 x7 x8:Operand} (hg:Region.wanted o (yielded ops a.tmps)=true) (hop:o.op=.buildSlice 35 9 #[(0,x0),(1,x1),(2,x2),(3,x3),(4,x4),(5,x5),(6,x6),(7,x7),(8,x8)]) (hb:base<=w.heap.size) (h0:SW base (a.eval x0) w) (h1:SW base (a.eval x1) w) (h2:SW base (a.eval x2) w) (h3:SW base (a.eval x3) w) (h4:SW base (a.eval x4) w) (h5:SW base (a.eval x5) w) (h6:SW base (a.eval x6) w) (h7:SW base (a.eval x7) w) (h8:SW base (a.eval x8) w) (hD:¬ D:=by decide):zA4 Tryz.prog ops o a w (fun v w'=>GW base v w'/\(D->w.heap.size<=blk v)):=by
 have hw:Below w.heap.size w (w.alloc (.cells #[a.eval x0,a.eval x1,a.eval x2,a.eval x3,a.eval x4,a.eval x5,a.eval x6,a.eval x7,a.eval x8] 23)):=(Below.refl _ w).alloc (Nat.le_refl _) _;refine zBo hg (v:=.slice (some ⟨w.heap.size,0,none⟩) 9 9) (w':=w.alloc (.cells #[a.eval x0,a.eval x1,a.eval x2,a.eval x3,a.eval x4,a.eval x5,a.eval x6,a.eval x7,a.eval x8] 23)) ?_ hw ⟨⟨_,_,rfl,hb,World.alloc_heap_new w _,fun k hk=>?_⟩,fun h=>(hD h).elim⟩
 ·unfold execOp;simp only[hop,List.map_toArray,List.map_cons,List.map_nil,Sem.run_bind];rw[zJX _ _ _ _ _ _ _ _ _ w (fun u hu=>?_)]
  ·rfl
  ·simp only[List.mem_cons,List.not_mem_nil,or_false]at hu;have key:SW base u w:=by rcases hu with rfl|rfl|rfl|rfl|rfl|rfl|rfl|rfl|rfl<;>assumption
   obtain⟨q,c,ps,e,_⟩:=key;exact⟨q,_,c,e⟩
 ·match k,hk with
  | 0,_=>exact⟨_,rfl,h0.below hw⟩
  | 1,_=>exact⟨_,rfl,h1.below hw⟩
  | 2,_=>exact⟨_,rfl,h2.below hw⟩
  | 3,_=>exact⟨_,rfl,h3.below hw⟩
  | 4,_=>exact⟨_,rfl,h4.below hw⟩
  | 5,_=>exact⟨_,rfl,h5.below hw⟩
  | 6,_=>exact⟨_,rfl,h6.below hw⟩
  | 7,_=>exact⟨_,rfl,h7.below hw⟩
  | 8,_=>exact⟨_,rfl,h8.below hw⟩
end
def zKH (g:Nat) (F:Nat->Prop) (V:World):Prop:=∀ k,k<9->∃ (q:Option Addr) (c:Nat) (ps:List InstD),V.cell? ⟨g,k,none⟩=some (.slice q ps.length c)/\ps.length<=5/\(∀ x ∈ ps,zAb x.set)/\InstsR F q c ps V
theorem GW.progs {base:Nat} {v:Value} {W:World} (h:GW base v W):∃ g,v=.slice (some ⟨g,0,none⟩) 9 9/\∀ V:World,(∀ b,base<=b/\b<W.heap.size->V.heap[b]?=W.heap[b]?)->zKH g (fun b=>base<=b/\b<W.heap.size) V:=by
 obtain⟨g,cs,rfl,hb,hc,hk⟩:=h;refine⟨g,rfl,fun V hV k hk'=>?_⟩
 obtain⟨u,hu,q,c,ps,rfl,h5,hs,hi⟩:=hk k hk';refine⟨q,c,ps,?_,h5,hs,hi.kept hV⟩;rw[cell_of_row V g k cs _ _ ((hV g ⟨hb,(Array.getElem?_eq_some_iff.1 hc).1⟩).trans hc)];exact hu
theorem BytesR.rdN {F:Nat->Prop} {q:Option Addr} {c:Nat} {L:Str} {V:World} (h:BytesR F q c L V) (hF:∀ b,F b->b<V.heap.size) (h0:0<L.length):Rd V V.heap.size (.slice q L.length c) (u8s (zDV L)):=by
 rw[zKU];obtain⟨p,cap,e,h1,h2,_,h3⟩:=h;simp only[Value.slice.injEq]at e;obtain⟨rfl,_,rfl⟩:=e;obtain⟨b,off,rfl,hb,_⟩:=h3 0 #[.int .u8 L[0].toNat] (by rw[List.getElem?_map,List.getElem?_eq_getElem h0];rfl)
 refine .inr ⟨b,off,c,by simp,hF b hb,by simpa using h1,h2,fun j hj=>?_⟩
 simp only[List.length_map]at hj;obtain⟨b',off',e',_,_,h4⟩:=h3 j #[.int .u8 L[j].toNat] (by rw[List.getElem?_map,List.getElem?_eq_getElem hj];rfl)
 simp only[Option.some.injEq,Addr.mk.injEq]at e';obtain⟨rfl,rfl,_⟩:=e';have:=h4 0 (by decide)
 rw[Nat.mul_one,Nat.add_zero]at this;rw[this];simp
end
end Go.Proofs.YtphjgfjbiimkjaaGreat
