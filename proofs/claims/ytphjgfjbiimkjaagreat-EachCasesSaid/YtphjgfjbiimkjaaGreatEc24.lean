/-
  Laws of walks, and walks.
-/
import Derived.Test.YtphjgfjbiimkjaaGreatEc23
import Derived.Test.YtphjgfjbiimkjaaGreatEc3
import Derived.Test.YtphjgfjbiimkjaaGreatEc6
import Derived.Test.YtphjgfjbiimkjaaGreatEc16
import Derived.Test.YtphjgfjbiimkjaaGreatEc19
set_option linter.unusedVariables false
set_option linter.unusedSimpArgs false
set_option linter.unusedSectionVars false
set_option maxRecDepth 100000
set_option maxHeartbeats 16000000
namespace Go.Proofs.YtphjgfjbiimkjaaGreat
section
open Go.RowKit
section
variable {P:Program} {G:Nat} {Oc:Orc} {rec:Ev} {ops:Array Oper} {S:Seq P G Oc rec ops.toList.toArray}
variable [OrcOk P G Oc]
structure Inv (G:Nat) (S:Seq P G Oc rec ops.toList.toArray) (m0:NM) (w0:World) (ds:List Deferred) (D:Nat->Prop) (m:NM) (w:World) (a:Act):Prop where
 hd:∃ hd:AH,(∀ x,hd.t.get x=Cn S D ops.size x)/\hd.next=(S.H ops.size).next/\hd.floor=(S.H 0).floor/\hd.hid=(S.H 0).hid/\MT G m hd w/\EX m0 (S.H 0) w0 m hd w
 fr:∀ k,k<ops.size->¬ D k->FreeN m (S.H k).next (S.H (k+1)).next
 tl:LR m (TD S D ops.size) a.tmps.toList
 df:a.defers=ds
theorem Inv.skip (O:SOk P G Oc rec ops S) {m0:NM} {w0:World} {ds:List Deferred} {D:Nat->Prop} {m:NM} {w:World} {a:Act} (I:Inv G S m0 w0 ds D m w a) {i:Nat} {o:Oper} (hi:i<ops.size) (ho:ops[i]?=some o) (hn:¬ D i) (hk:S.K i=none) (hv:S.V i=undef) :
  Inv G S m0 w0 ds (Add D i) m w (a.put o.dst undef):=by
 have hT:∀ x,¬ Tch S i x:=fun x h=>by
  rcases h with (h|⟨h,_⟩)|⟨h1,h2⟩
  ·rw[hk]at h;cases h
  ·rw[hk]at h;cases h
  ·have:=(O.keep hi).2.2.2.2 hk;omega
 obtain⟨hd,h1,h2,h3,h4,h5,h6⟩:=I.hd;refine⟨⟨hd,fun x=>by rw[h1,zF2 (hT x)],h2,h3,h4,h5,h6⟩,fun k hk' hD=>I.fr k hk' (fun h=>hD (.inl h)),?_,?_⟩
 ·rw[O.tempsAdd hn hi,hv,show dstO ops i=o.dst from by simp[dstO,ho]]
  exact zFN I.tl .undef o.dst
 ·rw[← I.df];cases o.dst<;>rfl
theorem Inv.add (O:SOk P G Oc rec ops S) (fl0:(S.H 0).floor<=(S.H 0).next) {m0:NM} {w0:World} {ds:List Deferred} {D:Nat->Prop} {m:NM} {w:World} {a:Act} (I:Inv G S m0 w0 ds D m w a) (M0:MT G m0 (S.H 0) w0) (F0:FreeN m0 (S.H 0).next (S.H ops.size).next)
  {i:Nat} {o:Oper} {k:Kd} {h1:AH} (hi:i<ops.size) (ho:ops[i]?=some o) (hd0:∀ i<ops.size,D i->∀ j,Anc ops i j->D j) (ha:∀ j,Anc ops i j->D j) (hn:¬ D i) (hk:S.K i=some k) (hH:S.H (i+1)={h1 with hid:=(S.H i).hid,floor:=(S.H i).floor}) :
  MT G m {S.H i with hid:=hidK k (nthN (befL ops.toList) i) (S.X i) (S.H i).next++(S.H i).hid,floor:=zDz k (S.H i)} w /\
  ∀ {m':NM} {w':World} {v':Value},EX m {S.H i with hid:=hidK k (nthN (befL ops.toList) i) (S.X i) (S.H i).next++(S.H i).hid,floor:=zDz k (S.H i)} w m' h1 w'->MT G m' h1 w'->VR m' (S.V i) v'->Inv G S m0 w0 ds (Add D i) m' w' (a.put o.dst v'):=by
 obtain⟨hd,g1,g2,g3,g4,M,E⟩:=I.hd;have hLh:∀ {x:Nat} {ob:AObj},({S.H i with hid:=hidK k (nthN (befL ops.toList) i) (S.X i) (S.H i).next++(S.H i).hid,floor:=zDz k (S.H i)}:AH).get x=some ob->(Lh S k i).get x=some ob:=fun h=>h
 obtain⟨L,hL⟩:∃ L:AH,({S.H i with hid:=hidK k (nthN (befL ops.toList) i) (S.X i) (S.H i).next++(S.H i).hid,floor:=zDz k (S.H i)}:AH)=L:=⟨_,rfl⟩
 have Lt:L.t=(S.H i).t:=by rw[← hL]
 have Ln:L.next=(S.H i).next:=by rw[← hL]
 have Lf:L.floor=zDz k (S.H i):=by rw[← hL]
 have Lh:L.hid=hidK k (nthN (befL ops.toList) i) (S.X i) (S.H i).next++(S.H i).hid:=by rw[← hL]
 have hfix:=O.fix (i:=i) (by omega)
 have hN0:=O.mono (i:=0) (j:=i) (Nat.zero_le _) (by omega)
 have hNn:=O.mono (i:=i) (j:=ops.size) (by omega) (Nat.le_refl _)
 have hN1:=O.mono (i:=i+1) (j:=ops.size) hi (Nat.le_refl _);have hN1':=(O.keep hi).1;have t1:∀ x,(S.H (i+1)).t.get x=h1.t.get x:=fun x=>by rw[hH]
 have n1:(S.H (i+1)).next=h1.next:=by rw[hH]
 have vis:∀ {x:Nat} {ob:AObj},L.get x=some ob->hd.get x=some ob:=by
  intro x ob hx;rw[← hL]at hx;obtain⟨hr,_,_⟩:=O.rel hi hk (hLh hx);obtain⟨p1,p2,p3⟩:=AH.get_parts hx;have p1:x<(S.H i).next:=p1;have p2:inR (hidK k (nthN (befL ops.toList) i) (S.X i) (S.H i).next++(S.H i).hid) x=false:=p2;rw[zB9,Bool.or_eq_false_iff]at p2;rw[AH.get_of (h:=hd) (by omega) (by rw[g4,← hfix.1];exact p2.2),g1,O.content hd0 ha hn hi hr]
  exact p3
 have one:∀ {x:Nat} {ob:AObj},L.get x=some ob->L.floor<=x->Wr S i x:=by
  intro x ob hx hf;have hx':=hx;rw[← hL]at hx;obtain⟨_,h2,_⟩:=O.rel hi hk (hLh hx);have hlt:=(AH.get_parts hx').1;rw[Lf]at hf
  cases k with
  | write b=>rw[h2 b (.inr rfl)];exact .inl hk
  | wcall=>exact .inr ⟨hk,hf,ob,hLh hx⟩
  | _=>exact absurd hf (by show ¬ (S.H i).next<=x;omega)
 have ML:MT G m L w:=by
  refine⟨M.lt,fun n1 n2 o1 o2 b r1 r2 e1 e2 e3 e4=>M.inj n1 n2 o1 o2 b r1 r2 (vis e1) (vis e2) e3 e4,fun n ob e=>M.obj n ob (vis e),M.glob,fun n ob e=>(AH.get_parts e).1,?_⟩
  rw[Lf,Ln]
  cases k with
  | write b=>show (S.H i).floor<=_;have:=fl0;omega
  | wcall=>show (S.H i).floor<=_;have:=fl0;omega
  | _=>exact Nat.le_refl _
 rw[hL];refine⟨ML,fun {m' w' v'} E' M' V'=>?_⟩
 have wvis:∀ {x:Nat},Wr S i x->∃ ob,L.get x=some ob:=by
  intro x hw;have hw':=hw;rcases hw with hw|⟨hw,_,ob,hob⟩
  rotate_left
  ·rw[hk]at hw;cases hw
   exact⟨ob,by rw[← hL];exact hob⟩
  rw[hk]at hw;cases hw
  obtain⟨⟨ob,hob⟩,_⟩:=O.wr hi hw';obtain⟨p1,p2,p3⟩:=AH.get_parts hob;refine⟨ob,?_⟩
  rw[AH.get_of (by rw[Ln];exact p1) (by
   rw[Lh,zB9,p2];simp only[hidK,inR,Bool.or_false];have q1:Nat.blt x x=false:=by rw[Bool.eq_false_iff];intro h;rw[Nat.blt_eq]at h;omega
   have q2:Nat.ble (x+1) x=false:=by rw[Bool.eq_false_iff];intro h;rw[Nat.ble_eq]at h;omega
   rw[q1,q2];simp),Lt]
  exact p3
 have tvis:∀ {x:Nat} {ob:AObj},Tch S i x->h1.t.get x=some ob->inR (S.H 0).hid x=false->h1.get x=some ob:=by
  intro x ob hT hg hh;have hx1:x<h1.next:=by
   rcases hT with hT|⟨_,h⟩
   ·obtain⟨ob',hob'⟩:=wvis hT;have:=(AH.get_parts hob').1;rw[Ln]at this;omega
   ·omega
  rw[AH.get_of hx1 (by
   rw[E'.hid,Lh,zB9,hfix.1,hh,Bool.or_false];rcases hT with hT|⟨h2,h3⟩
   ·obtain⟨ob',hob'⟩:=wvis hT;have:=AH.get_hid hob';rw[Lh,zB9,Bool.or_eq_false_iff]at this;exact this.1
   ·rw[Bool.eq_false_iff];intro hc
    cases k with
    | free=>simp only[hidK,inR,Bool.or_false,Bool.and_eq_true,Nat.blt_eq]at hc;omega
    | read b =>
     have hb:b<(S.H i).next:=by
      obtain⟨oi,_,_,_,h⟩:=O.oper hi;rcases h with ⟨hk',_⟩|⟨k',h1',hk',_,hok,_⟩
      ·rw[hk']at hk;cases hk
      ·rw[hk']at hk;cases hk
       simp only[okK,Bool.and_eq_true]at hok;obtain⟨ob',hob'⟩:=Option.isSome_iff_exists.1 hok.1.2;exact(AH.get_parts hob').1
     simp only[hidK,inR,Bool.or_false,Bool.or_eq_true,Bool.and_eq_true,Nat.blt_eq]at hc;omega
    | write b =>
     obtain⟨⟨ob',hob'⟩,_⟩:=O.wr hi (.inl hk);have hb:=(AH.get_parts hob').1;simp only[hidK,inR,Bool.or_false,Bool.or_eq_true,Bool.and_eq_true,Nat.blt_eq]at hc;omega
    | wcall =>
     obtain⟨f1,f2,f3,f4,f5,f6,f7,f8⟩:=O.fx (i:=i) (by omega)
     simp only[hidK]at hc;rw[zB9,zB9,Bool.or_eq_true,Bool.or_eq_true]at hc;rcases hc with hc|hc|hc
     ·obtain⟨p,q1,_,q3,q4⟩:=zCy.1 hc;obtain⟨q5,q6,q7⟩:=f2 p q1;have:=O.mono (i:=p.1+1) (j:=i) q5 (by omega)
      omega
     ·obtain⟨p,q1,_,q3⟩:=zDO.1 hc;have:=f7 p q1;omega
     ·obtain⟨p,q1,_,q3⟩:=zDO.1 hc;have:=f8 p q1;omega
    | call =>
     obtain⟨p,q1,_,q3,q4⟩:=zCy.1 hc;obtain⟨f1,f2,_⟩:=O.fx (i:=i) (by omega)
     obtain⟨q5,q6,q7⟩:=f2 p q1;have:=O.mono (i:=p.1+1) (j:=i) q5 (by omega)
     omega)]
  exact hg
 obtain⟨T',hT'⟩:=zPC O (Add D i) ops.size (Nat.le_refl _);have vis':∀ {x:Nat} {ob:AObj},(⟨T',(S.H ops.size).next,(S.H 0).floor,(S.H 0).hid⟩:AH).get x=some ob->(Tch S i x/\h1.get x=some ob)\/(¬ Tch S i x/\hd.get x=some ob):=by
  intro x ob hx;obtain⟨p1,p2,p3⟩:=AH.get_parts hx;have p3:T'.get x=some ob:=p3;rw[hT']at p3
  by_cases hT:Tch S i x
  ·rw[O.touchAdd hd0 hn hi hT,t1]at p3;exact .inl ⟨hT,tvis hT p3 p2⟩
  ·rw[zF2 hT]at p3;refine .inr ⟨hT,?_⟩
   rw[AH.get_of (h:=hd) (by rw[g2];exact p1) (by rw[g4];exact p2),g1]
   exact p3
 have keepB:∀ {x:Nat} {ob:AObj} {b:Nat} {r:Option (Nat × Nat)},¬ Tch S i x->hd.get x=some ob->m x=some (b,r)->w'.heap[b]?=w.heap[b]?:=by
  intro x ob b r hT hg hm;refine E'.old b (M.lt x b r hm) (fun n1 o1 r1 hf hg1 hm1=>?_)
  have hw:=one hg1 hf;have:=M.inj x n1 ob o1 b r r1 hg (vis hg1) hm hm1;subst this;exact hT (.inl hw)
 have newX:∀ {x b:Nat} {r:Option (Nat × Nat)},m x=none->m' x=some (b,r)->w.heap.size<=b\/∃ n0 o0 r0,Wr S i n0/\L.get n0=some o0/\m n0=some (b,r0):=by
  intro x b r e1 e2;rcases E'.newb x b r e1 e2 with h|⟨n0,o0,r0,hf,hg,hm⟩
  ·exact .inl h
  ·exact .inr ⟨n0,o0,r0,one hg hf,hg,hm⟩
 have old0:∀ {n0 b:Nat} {o0:AObj} {r0:Option (Nat × Nat)},Wr S i n0->L.get n0=some o0->m n0=some (b,r0)->w0.heap.size<=b\/∃ n2 o2 r2,(S.H 0).floor<=n2/\(S.H 0).get n2=some o2/\m0 n2=some (b,r2):=by
  intro n0 b o0 r0 hw hg hm
  cases h0:m0 n0 with
  | none=>exact E.newb n0 b r0 h0 hm
  | some y =>
   have:=E.mono n0 y h0;rw[hm]at this;cases this
   have hlt:n0<(S.H 0).next:=by
    rcases Nat.lt_or_ge n0 (S.H 0).next with h|h
    ·exact h
    ·have hx:=(AH.get_parts hg).1;rw[Ln]at hx;rw[F0 n0 h (by omega)]at h0;cases h0
   obtain⟨o2,ho2⟩:=E.live n0 o0 hlt (vis hg);have:=(O.wr hi hw).2;rw[hfix.2]at this;exact .inr ⟨n0,o2,r0,this,ho2,h0⟩
 have sameM:∀ {x:Nat} {ob:AObj},hd.get x=some ob->∃ b r,m x=some (b,r)/\m' x=some (b,r):=by
  intro x ob hg;obtain⟨b,r,_,h,_,_⟩:=M.obj x ob hg;exact⟨b,r,h,E'.mono _ _ h⟩
 have cross:∀ {x1 x2:Nat} {o1 o2:AObj} {b:Nat} {r1 r2:Option (Nat × Nat)},Tch S i x1->h1.get x1=some o1->¬ Tch S i x2->hd.get x2=some o2->m' x1=some (b,r1)->m' x2=some (b,r2)->False:=by
  intro x1 x2 o1 o2 b r1 r2 hT1 hg1 hT2 hg2 e1 e2;obtain⟨b',r',k1,k2⟩:=sameM hg2;rw[e2]at k2;cases k2
  have hb:=M.lt x2 b r2 k1;rcases hT1 with hw|⟨h2,h3⟩
  ·obtain⟨ob,hob⟩:=wvis hw;obtain⟨b',r',k3,k4⟩:=sameM (vis hob);rw[e1]at k4;cases k4
   have:=M.inj x1 x2 ob o2 b r1 r2 (vis hob) hg2 k3 k1;subst this;exact hT2 (.inl hw)
  ·rcases newX (I.fr i hi hn x1 h2 h3) e1 with h|⟨n0,o0,r0,hw,hg,hm⟩
   ·omega
   ·have:=M.inj n0 x2 o0 o2 b r0 r2 (vis hg) hg2 hm k1;subst this;exact hT2 (.inl hw)
 refine⟨⟨⟨T',(S.H ops.size).next,(S.H 0).floor,(S.H 0).hid⟩,hT',rfl,rfl,rfl,⟨M'.lt,?_,?_,M'.glob,fun n ob e=>(AH.get_parts e).1,by show (S.H 0).floor<=(S.H ops.size).next;have:=fl0;omega⟩,⟨fun n x e=>E'.mono _ _ (E.mono _ _ e),?_,?_,by show (S.H 0).next<=(S.H ops.size).next;omega,rfl,rfl,?_,?_,?_,E'.os.trans E.os,E'.tape.trans E.tape,E'.output.trans E.output,Nat.le_trans E.size E'.size,?_⟩⟩,?_,?_,?_⟩
 ·intro n1 n2 o1 o2 b r1 r2 e1 e2 e3 e4;rcases vis' e1 with ⟨a1,a2⟩|⟨a1,a2⟩<;>rcases vis' e2 with ⟨c1,c2⟩|⟨c1,c2⟩
  ·exact M'.inj n1 n2 o1 o2 b r1 r2 a2 c2 e3 e4
  ·exact(cross a1 a2 c1 c2 e3 e4).elim
  ·exact(cross c1 c2 a1 a2 e4 e3).elim
  ·obtain⟨b',r',k1,k2⟩:=sameM a2;rw[e3]at k2;cases k2
   obtain⟨b',r',k3,k4⟩:=sameM c2;rw[e4]at k4;cases k4
   exact M.inj n1 n2 o1 o2 b r1 r2 a2 c2 k1 k3
 ·intro n ob e;rcases vis' e with ⟨a1,a2⟩|⟨a1,a2⟩
  ·exact M'.obj n ob a2
  ·obtain⟨b,r,o',k1,k2,k3⟩:=M.obj n ob a2;exact⟨b,r,o',E'.mono _ _ k1,(keepB a1 a2 k1).trans k2,k3.mono E'.mono⟩
 ·intro n hnn;have hnn:¬ ((S.H 0).next<=n/\n<(S.H ops.size).next):=hnn;rw[E'.same n (by rw[Ln,← n1];omega),E.same n (by rw[g2];exact hnn)]
 ·intro n b r e1 e2
  cases h0:m n with
  | some y =>
   have:=E'.mono n y h0;rw[e2]at this;cases this
   exact E.newb n b r e1 h0
  | none =>
   rcases newX h0 e2 with h|⟨n0,o0,r0,hw,hg,hm⟩
   ·exact .inl (Nat.le_trans E.size h)
   ·exact old0 hw hg hm
 ·intro n ob hlt e;obtain⟨p1,p2,p3⟩:=AH.get_parts e;have p3:T'.get n=some ob:=p3;rw[hT']at p3;obtain⟨o0,h0⟩:=O.cnLive hlt (Nat.le_refl _) p3;exact⟨o0,by rw[AH.get_of hlt p2];exact h0⟩
 ·intro n hlt
  show T'.get n=_
  rw[hT'];exact O.cnSame (by have:=fl0;omega) (.inl hlt) (Nat.le_refl _)
 ·intro n hlt hh
  show T'.get n=_
  rw[hT'];exact O.cnSame hlt (.inr hh) (Nat.le_refl _)
 ·intro b hb hno;rw[E'.old b (Nat.lt_of_lt_of_le hb E.size) (fun n0 o0 r0 hf hg hm=>?_),E.old b hb hno]
  rcases old0 (one hg hf) hg hm with h|⟨n2,o2,r2,h2,h3,h4⟩
  ·omega
  ·exact hno n2 o2 r2 h2 h3 h4
 ·intro j hj hD x h2 h3;have hji:j≠i:=fun e=>hD (.inr e)
  rw[E'.same x (fun h=>?_)]
  ·exact I.fr j hj (fun h=>hD (.inl h)) x h2 h3
  ·rw[Ln,← n1]at h;exact hji (O.uniq hj hi h2 h3 h.1 h.2)
 ·rw[O.tempsAdd hn hi,show dstO ops i=o.dst from by simp[dstO,ho]]
  exact zFN (I.tl.mono E'.mono) V' o.dst
 ·rw[← I.df];cases o.dst<;>rfl
theorem zL1:∀ {l:List Bool} {i:Nat},l[i]?=some false->(l.set i true).count false+1=l.count false
 | [],i,h=>by simp at h
 | b::l,0,h=>by simp at h;subst h;simp
 | b::l,i+1,h=>by
  have:=zL1 (l:=l) (i:=i) (by simpa using h)
  simp only[List.set_cons_succ,List.count_cons];omega
theorem zPe (O:SOk P G Oc rec ops S) (fl0:(S.H 0).floor<=(S.H 0).next) {rr:Option Nat} {m0:NM} {w0:World} {ds:List Deferred} (M0:MT G m0 (S.H 0) w0) (F0:FreeN m0 (S.H 0).next (S.H ops.size).next) {Q:Exit->Act->World->Prop}
  (k:∀ m' w' a',EX m0 (S.H 0) w0 m' (S.H ops.size) w'->MT G m' (S.H ops.size) w'->LR m' (S.T ops.size) a'.tmps.toList->a'.defers=ds->Q .normal a' w') :
  ∀ (fuel:Nat) (L:Array Bool) (m:NM) (w:World) (a:Act),L.size=ops.size->L.toList.count false=fuel->(∀ i<ops.size,L.getD i false=true->∀ j,Anc ops i j->L.getD j false=true)->Inv G S m0 w0 ds (fun i=>L.getD i false=true) m w a->wpAnyIn (FenW rr) 0 P .any ops Q fuel L a w:=by
 have fin:∀ (L:Array Bool) (m:NM) (w:World) (a:Act),(∀ i<ops.size,L.getD i false=true)->Inv G S m0 w0 ds (fun i=>L.getD i false=true) m w a->Q .normal a w:=by
  intro L m w a hall I;obtain⟨hd,g1,g2,g3,g4,M,E⟩:=I.hd;have hfix:=O.fix (i:=ops.size) (Nat.le_refl _);have hget:∀ x,hd.get x=(S.H ops.size).get x:=by
   intro x
   by_cases hx:x<(S.H ops.size).next
   ·cases hh:inR (S.H 0).hid x with
    | true=>rw[AH.get_none (.inr (by rw[g4];exact hh)),AH.get_none (h:=S.H ops.size) (.inr (by rw[hfix.1];exact hh))]
    | false =>
     rw[AH.get_of (h:=hd) (by rw[g2];exact hx) (by rw[g4];exact hh),AH.get_of (h:=S.H ops.size) hx (by rw[hfix.1];exact hh),g1]
     exact O.cnAll hall (Nat.le_refl _) hx
   ·rw[AH.get_none (h:=hd) (.inl (by rw[g2];omega)),AH.get_none (h:=S.H ops.size) (.inl (by omega))]
  have hN0:=O.mono (i:=0) (j:=ops.size) (Nat.zero_le _) (Nat.le_refl _);refine k m w a ⟨E.mono,?_,E.newb,hN0,hfix.2,hfix.1,?_,?_,?_,E.os,E.tape,E.output,E.size,E.old⟩ ⟨M.lt,?_,?_,M.glob,fun n ob e=>(AH.get_parts e).1,?_⟩ ?_ I.df
  ·intro n hn;exact E.same n (by rw[g2];exact hn)
  ·intro n ob hlt e;exact E.live n ob hlt (by rw[hget];exact e)
  ·intro n hlt;have h0:=fl0;rw[← O.cnAll (D:=fun i=>L.getD i false=true) hall (Nat.le_refl _) (by omega),O.cnSame (by omega) (.inl hlt) (Nat.le_refl _)]
  ·intro n hlt hh;rw[← O.cnAll (D:=fun i=>L.getD i false=true) hall (Nat.le_refl _) (by omega),O.cnSame hlt (.inr hh) (Nat.le_refl _)]
  ·intro n1 n2 o1 o2 b r1 r2 e1 e2;exact M.inj n1 n2 o1 o2 b r1 r2 (by rw[hget];exact e1) (by rw[hget];exact e2)
  ·intro n ob e;exact M.obj n ob (by rw[hget];exact e)
  ·rw[hfix.2];have:=fl0;omega
  ·have:=I.tl;rw[O.tempsAll hall (Nat.le_refl _)]at this;exact this
 intro fuel
 induction fuel with
 | zero =>
  intro L m w a hs hc hd I;have hall:∀ i<ops.size,L.getD i false=true:=by
   intro i hi;have hne:false ∉ L.toList:=List.count_eq_zero.1 hc;have h1:L[i]?=some L[i]:=Array.getElem?_eq_getElem (by omega)
   have h2:L[i] ∈ L.toList:=by simp
   simp only[Array.getD_eq_getD_getElem?,h1,Option.getD_some]
   cases h3:L[i] with
   | true=>rfl
   | false=>rw[h3]at h2;exact absurd h2 hne
  refine⟨?_,fin L m w a hall I⟩;apply List.eq_nil_iff_forall_not_mem.2;intro i hi;obtain⟨h1,h2,_⟩:=zIP O.edg hd hi;have h3:=hall i h1;have h4:L[i]?=some L[i]:=Array.getElem?_eq_getElem (by omega)
  simp only[Array.getD_eq_getD_getElem?,h4,Option.getD_some]at h2 h3;rw[h2]at h3;cases h3
 | succ fuel ih =>
  intro L m w a hs hc hd I;refine⟨fun hr=>fin L m w a (zNF O.edg hs hr) I,fun i hir=>?_⟩
  obtain⟨hi,hLi,hanc⟩:=zIP O.edg hd hir;have h4:L[i]?=some L[i]:=Array.getElem?_eq_getElem (by omega)
  have hLf:L[i]?=some false:=by
   simp only[Array.getD_eq_getD_getElem?,h4,Option.getD_some]at hLi;rw[h4,hLi]
  have hn:¬ (L.getD i false=true):=by
   simp only[Array.getD_eq_getD_getElem?,hLf,Option.getD_some];simp
  have hset:∀ j,(L.setIfInBounds i true).getD j false=true↔(L.getD j false=true\/j=i):=by
   intro j;simp only[Array.getD_eq_getD_getElem?,Array.getElem?_setIfInBounds]
   by_cases e:i=j
   ·subst e;rw[if_pos rfl,if_pos (by omega)]
    simp
   ·rw[if_neg e];constructor
    ·exact .inl
    ·rintro(h|h)
     ·exact h
     ·exact absurd h.symm e
  have hset':(fun j=>(L.setIfInBounds i true).getD j false=true)=Add (fun j=>L.getD j false=true) i:=by
   funext j;exact propext (hset j)
  have go:∀ m' w' a',Inv G S m0 w0 ds (Add (fun j=>L.getD j false=true) i) m' w' a'->wpAnyIn (FenW rr) 0 P .any ops Q fuel (L.setIfInBounds i true) a' w':=by
   intro m' w' a' I';refine ih _ m' w' a' (by simpa using hs) ?_ ?_ (by rw[hset'];exact I')
   ·have:=zL1 (l:=L.toList) (i:=i) (by rw[Array.getElem?_toList];exact hLf)
    rw[Array.toList_setIfInBounds];omega
   ·intro j hj hLj q hq;rw[hset]at hLj ⊢;rcases hLj with h|rfl
    ·exact .inl (hd j hj h q hq)
    ·exact .inl (hanc q hq)
  obtain⟨o,ho,hol,hstep,hcase⟩:=O.oper hi;have htm:∀ x ∈ zD3 o++zFI ops.toList o,nth (TD S (fun j=>L.getD j false=true) ops.size) x=nth (S.T i) x:=fun x hx=>O.temps hd hanc hn ho hx
  unfold wpOpIn;rw[ho];simp only;rw[zCf (o:=o) I.tl,zHn (fun x hx=>htm x (List.mem_append_right _ hx))]
  rcases hcase with ⟨hk,hw,hv,hH,hX⟩|⟨kd,h1,hk,hw,hok,he,hH,hX⟩
  ·rw[hw];simp only[Bool.false_eq_true,if_false];exact⟨fun _ _=>trivial,go m w _ (I.skip O hi ho hn hk hv)⟩
  ·rw[hw];simp only[if_true];obtain⟨ML,hadd⟩:=I.add O fl0 M0 F0 hi ho hd hanc hn hk hH;rw[zJD (t':=TD S (fun j=>L.getD j false=true) ops.size) (fun x hx=>(htm x (List.mem_append_left _ hx)).symm)]at he
   have n1:(S.H (i+1)).next=h1.next:=by rw[hH]
   exact(zHt O.R0 he).2 rr m w a ML (by show FreeN m (S.H i).next h1.next;rw[← n1];exact I.fr i hi hn) I.tl _ Q (fun m' v' w' E' M' V'=>go m' w' _ (hadd E' M' V'))
end
theorem zPH {P:Program} {G:Nat} {Oc:Orc} [OrcOk P G Oc] (hm:P.follows .mixedOrders=true) (rec:Ev) (R0:zGO P G Oc rec):zLl P G Oc rec:=by
 intro ops t t' h h' hT e;rw[Bool.and_eq_true]at hT;obtain⟨S,s1,s2,s3,s4,s5,s6⟩:=zHB e;simp only[Nat.zero_add,Array.length_toList]at s4 s5 s6;have O:SOk P G Oc rec ops S:=⟨R0,s6,s3,hT.1,hT.2⟩;subst s1 s2 s4 s5;have hfix:=O.fix (i:=ops.size) (Nat.le_refl _);refine⟨⟨O.mono (Nat.zero_le _) (Nat.le_refl _),hfix.2,hfix.1,fun n hn hk=>?_,fun n hn hd=>?_⟩,fun rr m w a id M F T Q k=>wpIn_region_any hm ?_⟩
 ·have:∀ k,k<=ops.size->(S.H k).t.get n=(S.H 0).t.get n:=by
   intro k
   induction k with
   | zero=>intro _;rfl
   | succ k ih =>
    intro hk';have hNk:=O.mono (i:=0) (j:=k) (Nat.zero_le _) (by omega)
    rw[(O.keep (i:=k) (by omega)).2.2.2.1 n (by omega) (fun hw=>?_),ih (by omega)]
    have hf:=O.fix (i:=k) (by omega)
    obtain⟨⟨ob,hob⟩,hfl⟩:=O.wr (by omega) hw
    rcases hk with h|h
    ·rw[hf.2]at hfl;omega
    ·have:=AH.get_hid hob;rw[hf.1,h]at this;cases this
  exact this _ (Nat.le_refl _)
 ·cases h:(S.H ops.size).t.get n with
  | none=>rfl
  | some ob =>
   obtain⟨o0,h0⟩:=O.seqLive hn (Nat.le_refl _) h;rw[hd]at h0;cases h0
 ·have M1:MT G m (S.H 0) {w with drawn:=w.drawn+1}:=⟨M.lt,M.inj,M.obj,M.glob,M.dom,M.fl⟩
  have E1:EX m (S.H 0) w m (S.H 0) {w with drawn:=w.drawn+1}:=by
   have:=EX.refl m (S.H 0) w;exact⟨this.mono,this.same,this.newb,this.next,this.floor,this.hid,this.live,this.low,this.hidt,rfl,rfl,rfl,Nat.le_refl _,fun _ _ _=>rfl⟩
  have hno:∀ i,i<ops.size->¬ ((Array.replicate ops.size false).getD i false=true):=by
   intro i hi;simp[Array.getD_eq_getD_getElem?,hi]
  have hcn:∀ x k,k<=ops.size->Cn S (fun i=>(Array.replicate ops.size false).getD i false=true) k x=if x<(S.H 0).next then (S.H 0).t.get x else none:=by
   intro x k
   induction k with
   | zero=>intro _;rfl
   | succ k ih=>intro hk;rw[zHb (fun h=>hno k (by omega) h.1),ih (by omega)]
  have htd:∀ k,k<=ops.size->TD S (fun i=>(Array.replicate ops.size false).getD i false=true) k=S.T 0:=by
   intro k
   induction k with
   | zero=>intro _;rfl
   | succ k ih=>intro hk;rw[zHe (hno k (by omega)),ih (by omega)]
  have hN:=O.mono (i:=0) (j:=ops.size) (Nat.zero_le _) (Nat.le_refl _);obtain⟨T0,hT0⟩:=zPC O (fun i=>(Array.replicate ops.size false).getD i false=true) ops.size (Nat.le_refl _)
  have hT0':∀ x,T0.get x=if x<(S.H 0).next then (S.H 0).t.get x else none:=fun x=>(hT0 x).trans (hcn x _ (Nat.le_refl _))
  have hget:∀ x,(⟨T0,(S.H ops.size).next,(S.H 0).floor,(S.H 0).hid⟩:AH).get x=(S.H 0).get x:=by
   intro x
   by_cases hx:x<(S.H 0).next
   ·cases hh:inR (S.H 0).hid x with
    | true =>
     rw[AH.get_none (h:=S.H 0) (.inr hh)];exact AH.get_none (.inr hh)
    | false =>
     rw[AH.get_of (h:=⟨T0,(S.H ops.size).next,(S.H 0).floor,(S.H 0).hid⟩) (Nat.lt_of_lt_of_le hx hN) hh,AH.get_of (h:=S.H 0) hx hh]
     show T0.get x=_
     rw[hT0',if_pos hx]
   ·rw[AH.get_none (h:=S.H 0) (.inl (by omega))]
    cases hg:(⟨T0,(S.H ops.size).next,(S.H 0).floor,(S.H 0).hid⟩:AH).get x with
    | none=>rfl
    | some ob =>
     have:=(AH.get_parts hg).2.2;have this:T0.get x=some ob:=this;rw[hT0',if_neg hx]at this;cases this
  have hfl:=M.fl;refine zPe O M.fl (m0:=m) (w0:=w) (ds:=a.defers) M F k ops.size (Array.replicate ops.size false) m _ a (by simp) (by simp[List.count_replicate]) (fun i hi h=>absurd h (hno i hi)) ⟨⟨⟨T0,(S.H ops.size).next,(S.H 0).floor,(S.H 0).hid⟩,hT0,rfl,rfl,rfl,⟨M1.lt,?_,?_,M1.glob,fun n ob e=>(AH.get_parts e).1,Nat.le_trans hfl hN⟩,⟨fun _ _ h=>h,fun _ _=>rfl,fun n b r e1 e2=>(by rw[e1]at e2;cases e2),hN,rfl,rfl,?_,?_,?_,rfl,rfl,rfl,Nat.le_refl _,fun _ _ _=>rfl⟩⟩,?_,?_,rfl⟩
  ·intro n1 n2 o1 o2 b r1 r2 e1 e2;rw[hget]at e1 e2;exact M1.inj n1 n2 o1 o2 b r1 r2 e1 e2
  ·intro n ob e1;rw[hget]at e1;exact M1.obj n ob e1
  ·intro n ob _ e1;rw[hget]at e1;exact⟨ob,e1⟩
  ·intro n hn
   show T0.get n=_
   rw[hT0',if_pos (by omega)]
  ·intro n hn _
   show T0.get n=_
   rw[hT0',if_pos hn]
  ·intro j hj _;exact F.le (O.mono (Nat.zero_le _) (by omega)) (O.mono hj (Nat.le_refl _))
  ·rw[htd _ (Nat.le_refl _)];exact T
theorem zMm {P:Program} {G:Nat} {Oc:Orc} [OrcOk P G Oc] {n:Nat} {tr:Tr} {f:FuncId} {args:List Value} {args':Array Value} {v:Value} {h':AH} (hm:P.follows .mixedOrders=true) (e:zCA P G Oc n tr f args=some (v,h')) {w:World} (m:NM)
  (M:MT G m ⟨tr,G,G,[]⟩ w) (F:∀ x,G<=x->m x=none) (A:LR m args args'.toList) {R:Ending->World->Prop} (k:∀ m' v' w',EX m ⟨tr,G,G,[]⟩ w m' h' w'->MT G m' h' w'->VR m' v v'->R (.returned v') w'):Calls P f args' w R :=
 callsIn_wide.1 ((zGH (zQE (zPH hm) n).1 e).2.2 m w args' M (fun x h _=>F x h) A R k)
def gm (G:Nat):NM:=fun n=>if n<G then some (n,none) else none
def decS (n:Int):Bool:=decide (0<=n)&&decide (n<18446744073709551616)
def decI:Nat->List Value->Option (List InstD)
 | 0,[]=>some []
 | n+1,.int .i64 k::.int .u64 a::.int .u64 b::.int .u64 c::.int .u64 d::.int .i64 x::.int .i64 y::.int .i64 z::.int .i64 u::r =>
  cond (decS a&&decS b&&decS c&&decS d)
   (match decI n r with
    | some l=>some ({kind:=k,set:=fun i=>match i with|0=>a.toNat|1=>b.toNat|2=>c.toNat|_=>d.toNat,next:=x,other:=y,slot:=z,spot:=u}::l)
    | none=>none) none
 | _,_=>none
theorem zPX:∀ {n:Nat} {cs:List Value} {l:List InstD},decI n cs=some l->l.length=n/\cs=zAW (l.map zAf)/\∀ x ∈ l,zAb x.set:=by
 intro n
 induction n with
 | zero =>
  intro cs l h
  cases cs with
  | nil=>cases h;exact⟨rfl,rfl,fun x hx=>by cases hx⟩
  | cons=>cases h
 | succ n ih =>
  intro cs l h;unfold decI at h;split at h
  ·omega
  ·rename_i n' k a b c d x y z u r h1
   cases h1
   cases hc:(decS a&&decS b&&decS c&&decS d) with
   | false=>rw[hc]at h;cases h
   | true =>
    rw[hc,cond_true]at h
    cases hr:decI n r with
    | none=>rw[hr]at h;cases h
    | some l' =>
     rw[hr]at h
     cases h
     obtain⟨h1,h2,h3⟩:=ih hr;simp only[decS,Bool.and_eq_true,decide_eq_true_eq]at hc;obtain⟨⟨⟨⟨a1,a2⟩,b1,b2⟩,c1,c2⟩,d1,d2⟩:=hc;refine⟨by simp[h1],?_,fun q hq=>?_⟩
     ·have ea:=Int.toNat_of_nonneg a1;have eb:=Int.toNat_of_nonneg b1;have ec:=Int.toNat_of_nonneg c1;have ed:=Int.toNat_of_nonneg d1;rw[h2];simp[zAW,zAf,ea,eb,ec,ed]
     ·rcases List.mem_cons.1 hq with rfl|hq
      ·intro i hi
       match i,hi with
       | 0,_=>show a.toNat<2 ^ 64;omega
       | 1,_=>show b.toNat<2 ^ 64;omega
       | 2,_=>show c.toNat<2 ^ 64;omega
       | 3,_=>show d.toNat<2 ^ 64;omega
      ·exact h3 q hq
  ·cases h
def okQ (Q:List InstD->Bool):Option (Value × AH)->Bool
 | some (.slice (some ⟨n,0,none⟩) len _,h)=>match h.get n with
  | some (.row cs _ sz)=>Nat.beq sz 9&&(match decI len cs with|some l=>Q l|none=>false)
  | _=>false
 | _=>false
def okI:Option (Value × AH)->Bool:=okQ fun _=>true
def zLm (Q:List InstD->Bool) (w:World) (e:Ending) (w':World):Prop:=∃ (p:Option Addr) (c:Nat) (ps:List InstD) (F:Nat->Prop),Q ps=true/\e=.returned (.slice p ps.length c)/\(∀ x ∈ ps,zAb x.set)/\InstsR F p c ps w'/\(∀ b,F b->w.heap.size<=b/\b<w'.heap.size)/\Below w.heap.size w w'
abbrev zQM:=zLm fun _=>true
theorem LR.plain {m:NM}:∀ {l l':List Value},LR m l l'->(∀ v ∈ l,zBR v=true)->l'=l
 | _,_,.nil,_=>rfl
 | _,_,.cons h t,hp=>by rw[zDb (hp _ (List.mem_cons_self ..)) h,LR.plain t (fun v hv=>hp v (List.mem_cons_of_mem _ hv))]
theorem zG2 (Q:List InstD->Bool) {P:Program} {O:Orc} [OrcOk P 0 O] {n:Nat} {f:FuncId} {q:ByteArray} (hm:P.follows .mixedOrders=true) (e:okQ Q (zCA P 0 O n Tr.lf f [.string q])=true) (w:World):Calls P f #[.string q] w (zLm Q w):=by
 cases hr:zCA P 0 O n Tr.lf f [.string q] with
 | none=>rw[hr]at e;cases e
 | some r =>
  obtain⟨v,h'⟩:=r;rw[hr]at e;unfold okQ at e;split at e
  ·rename_i k len c h e0
   cases e0
   split at e
   ·rename_i cs T sz hg;simp only[Bool.and_eq_true]at e;obtain⟨e1,e2⟩:=e;obtain rfl:=Nat.eq_of_beq_eq_true e1;obtain⟨ps,hps⟩:∃ ps,decI len cs=some ps:=by
     cases hd:decI len cs with
     | none=>rw[hd]at e2;cases e2
     | some l=>exact⟨l,rfl⟩
    rw[hps]at e2;simp only at e2;obtain⟨q1,q2,q3⟩:=zPX hps;subst q1 q2;have hnone:∀ x:Nat,(⟨Tr.lf,0,0,[]⟩:AH).get x=none:=fun x=>by
     simp[AH.get,Tr.get]
    refine zMm hm hr (gm 0) ⟨fun n b r h=>?_,fun n1 n2 o1 o2 b r1 r2 h1 _=>?_,fun n o h=>?_,fun g hg=>by omega,fun n o h=>?_,Nat.le_refl _⟩ (fun x hx=>by unfold gm;rw[if_neg (by omega)]) (.cons (.string _) .nil) (fun m' v' w' E M V=>?_)
    ·unfold gm at h;rw[if_neg (by omega)]at h;cases h
    ·rw[hnone]at h1;cases h1
    ·rw[hnone]at h;cases h
    ·rw[hnone]at h;cases h
    ·obtain⟨b,r,o',h1,h2,h3⟩:=M.obj _ _ hg;have hb:Below w.heap.size w w':=⟨E.os,E.tape,E.output,E.size,fun k hk=>E.old k hk (fun n o r hf hg _=>by rw[hnone]at hg;cases hg)⟩
     have hgm:gm 0 k=none:=by unfold gm;rw[if_neg (by omega)]
     have hnew:w.heap.size<=b:=by
      rcases E.newb _ _ _ hgm h1 with h|⟨n0,o0,r0,_,h,_⟩
      ·exact h
      ·rw[hnone]at h;cases h
     cases h3 with
     | @row _ cur U _ K hs hl hR h0 hK =>
      have hV:∃ c',v'=.slice (some ⟨b,0,none⟩) ps.length c'/\c' * 9=K * 9:=by
       cases V with
       | slice h=>rw[h1]at h;cases h
       | row h hc _=>rw[h1]at h;cases h;exact⟨_,rfl,by omega⟩
      obtain⟨c',rfl,hc⟩:=hV;have hpl:∀ v ∈ zAW (ps.map zAf),zBR v=true:=by
       intro v hv;simp only[zAW,List.map_map,List.mem_flatten,List.mem_map]at hv;obtain⟨l,⟨x,_,rfl⟩,hu⟩:=hv;have:(zAf x).toList.all zBR=true:=rfl;exact List.all_eq_true.1 this v hu
      have hcur:=hR.plain hpl;have hfl:(zAW (ps.map zAf)).length=ps.length * 9:=by rw[zDh (sz:=9) (fun r hr=>by obtain⟨x,_,rfl⟩:=List.mem_map.1 hr;rfl),List.length_map]
      refine⟨some ⟨b,0,none⟩,c',ps,(·=b),e2,rfl,q3,⟨_,c',by rw[List.length_map],by rw[List.length_map];omega,by omega,(fun h=>by cases h),fun j r hj=>⟨b,0,rfl,rfl,?_,fun k' hk'=>?_⟩⟩,fun b' hb'=>by subst hb';exact⟨hnew,(Array.getElem?_eq_some_iff.1 h2).1⟩,hb⟩
      ·rw[List.getElem?_map]at hj;obtain⟨x,_,rfl⟩:=Option.map_eq_some_iff.1 hj;rfl
      ·have hjl:j<ps.length:=by
        have:=(List.getElem?_eq_some_iff.1 hj).1
        simpa using this
       have hlt:j * 9+k'<(zAW (ps.map zAf)).length:=by rw[hfl];omega
       have hx:(zAW (ps.map zAf))[j * 9+k']?=r[k']?:=zDP (fun r hr=>by obtain⟨x,_,rfl⟩:=List.mem_map.1 hr;rfl) hj hk'
       have h5:(cur.toList.take (zAW (ps.map zAf)).length)[j * 9+k']?=cur[j * 9+k']?:=by rw[List.getElem?_take,if_pos hlt];simp
       rw[hcur]at h5;rw[← hx,h5];unfold World.cell?;rw[show (0+j * 9+k')=j * 9+k' by omega]
       simp[h2]
   ·cases e
  ·cases e
theorem zBE {P:Program} {O:Orc} [OrcOk P 0 O] {n:Nat} {f:FuncId} {q:ByteArray} (hm:P.follows .mixedOrders=true) (e:okI (zCA P 0 O n Tr.lf f [.string q])=true) (w:World):Calls P f #[.string q] w (zQM w):=zG2 _ hm e w
end
section
open Go.RowKit Go.Shelf
attribute [local go_sem] Oper.semAt_some
theorem zLA (w0:World):Calls Tryz.prog 140 #[.string ⟨#[119,111,114,100]⟩] w0 (Rt (.tuple #[setV zHq,.bool true]) w0):=zIh [119,111,114,100] w0
theorem zOZ {c:Nat} (h:((c:Int) == 100)=true):zFz c=some zBb:=by obtain rfl:c=100:=(by have:=beq_iff_eq.1 h;omega);rfl
theorem zNh {c:Nat} (h:((c:Int) == 119)=true):zFz c=some zHq:=by obtain rfl:c=119:=(by have:=beq_iff_eq.1 h;omega);rfl
theorem zNl {c:Nat} (h:((c:Int) == 115)=true):zFz c=some (ofS [9,10,12,13,32]):=by obtain rfl:c=115:=(by have:=beq_iff_eq.1 h;omega);rfl
theorem zPv {c:Nat} (h:((c:Int) == 68)=true):zFz c=some (notS zBb):=by obtain rfl:c=68:=(by have:=beq_iff_eq.1 h;omega);rfl
theorem zPW {c:Nat} (h:((c:Int) == 87)=true):zFz c=some (notS zHq):=by obtain rfl:c=87:=(by have:=beq_iff_eq.1 h;omega);rfl
theorem zPo {c:Nat} (h:((c:Int) == 83)=true):zFz c=some (notS (ofS [9,10,12,13,32])):=by obtain rfl:c=83:=(by have:=beq_iff_eq.1 h;omega);rfl
theorem nei {c:Nat} {n:Nat} (h:((c:Int) == (n:Int))=false):(c == n)=false:=by
 rw[beq_eq_false_iff_ne]at h ⊢;omega
theorem zPt {c:Nat} (h1:((c:Int) == 100)=false) (h2:((c:Int) == 119)=false) (h3:((c:Int) == 115)=false) (h4:((c:Int) == 68)=false) (h5:((c:Int) == 87)=false) (h6:((c:Int) == 83)=false):zFz c=none:=by
 simp[zFz,sortsL,List.find?_cons,nei (n:=100) h1,nei (n:=119) h2,nei (n:=115) h3,nei (n:=68) h4,nei (n:=87) h5,nei (n:=83) h6]
theorem zOF (c:Nat) (hc:c<256) (w0:World):Calls Tryz.prog 99 #[.int .u8 c] w0 (Rt (setO (zFz c)) w0):=by
 have H:=Hold.start w0
 go_enter Tryz.func99,Tryz.ntmps99
 go_wp2_with (first|(first|((with_reducible refine gT ?_);(refine aS H ?_;clear H;intro w H;try simp only[nr]at H))|((with_reducible refine gL ?_);refine aL H ?_)|((with_reducible refine gA ?_);(refine bA H ?_;clear H;intro b w H;try simp only[nr]at H))|((with_reducible refine gZ ?_);refine aZ ?_))|((with_reducible refine ch (zLA _) H ?_);clear H;intro w H)|((with_reducible refine gBS ?_);refine zAQ wtd_ _ _ _ rfl H (#[.int .u8 9,.int .u8 10,.int .u8 12,.int .u8 13,.int .u8 32]) 5 (by intro W;simp only[ml];(try simp only[pe]);(try unfold setV);simp[go_sem]<;>rfl) ?_;clear H;intro b w H;try simp only[nr]at H)|((with_reducible first|refine ch (zMh _ [9,10,12,13,32] (by simp) _ (H.rdn (cs:=[.int .u8 9,.int .u8 10,.int .u8 12,.int .u8 13,.int .u8 32]) atd_ (by simp) (by simp[maxLen]))) H ?_|refine ch (zGq _) H ?_|refine ch (zGC zBb zEg _) H ?_|refine ch (zGC zHq zNb _) H ?_|refine ch (zGC (ofS [9,10,12,13,32]) (zCt _) _) H ?_);clear H;intro w H))
 all_goals
  (refine xctS Tryz.results99 H ?_)
  first|exact⟨congrArg _ (zEd (zPt (by assumption) (by assumption) (by assumption) (by assumption) (by assumption) (by assumption))),H.below⟩|exact⟨congrArg _ (zB0 (zOZ (by assumption))),H.below⟩|exact⟨congrArg _ (zB0 (zNh (by assumption))),H.below⟩|exact⟨congrArg _ (zB0 (zNl (by assumption))),H.below⟩|exact⟨congrArg _ (zB0 (zPv (by assumption))),H.below⟩|exact⟨congrArg _ (zB0 (zPW (by assumption))),H.below⟩|exact⟨congrArg _ (zB0 (zPo (by assumption))),H.below⟩
end
section
open Go.RowKit
def orcS:Orc:=fun f args _=>match args with
 | [.int .u8 n]=>cond (Nat.beq f 99&&(decide (0<=n)&&decide (n<256))) (some (setO (zFz n.toNat))) none
 | [.string q]=>cond (Nat.beq f 140) (some (setO (zEj q.data.toList))) none
 | _=>none
theorem zLj (o:Option (Nat->Nat)) (m:NM):VR m (setO o) (setO o) :=
 VR.tupL (a:=[setV (o.getD zAG),.bool o.isSome]) (a':=[setV (o.getD zAG),.bool o.isSome]) (.cons (VR.aggL (a:=[_,_,_,_]) (a':=[_,_,_,_]) (.cons (.int ..) (.cons (.int ..) (.cons (.int ..) (.cons (.int ..) .nil))))) (.cons (.bool _) .nil))
theorem zEy {f:FuncId} {args:List Value} {h:AH} {v:Value} (e:orcS f args h=some v):(∃ n:Nat,n<256/\f=99/\args=[.int .u8 (n:Int)]/\v=setO (zFz n))\/(∃ L:Str,f=140/\args=[.string ⟨L.toArray⟩]/\v=setO (zEj L)):=by
 unfold orcS at e;split at e
 ·rename_i n
  cases hc:(Nat.beq f 99&&(decide (0<=n)&&decide (n<256))) with
  | false=>rw[hc]at e;cases e
  | true =>
   rw[hc,cond_true]at e;simp only[Bool.and_eq_true,decide_eq_true_eq]at hc
   cases e
   exact .inl ⟨n.toNat,by omega,Nat.eq_of_beq_eq_true hc.1,by rw[Int.toNat_of_nonneg hc.2.1],rfl⟩
 ·rename_i q
  cases hc:Nat.beq f 140 with
  | false=>rw[hc]at e;cases e
  | true =>
   rw[hc,cond_true]at e
   cases e
   exact .inr ⟨q.data.toList,Nat.eq_of_beq_eq_true hc,by simp,rfl⟩
 ·cases e
theorem LR.one_inv {m:NM} {v:Value} {a:Array Value} (h:LR m [v] a.toList) (hp:zBR v=true):a=#[v]:=by
 have:=h.plain (fun u hu=>by rw[List.mem_singleton.1 hu];exact hp)
 exact Array.toList_inj.1 this
theorem zKZ (xs:Array Value) (w:World):(callFunc 99 xs).run Tryz.prog w=.ok (.enter 99 xs) w:=by kernel_rfl
theorem zI9 (xs:Array Value) (w:World):(callFunc 140 xs).run Tryz.prog w=.ok (.enter 140 xs) w:=by kernel_rfl
instance:OrcOk Tryz.prog 0 orcS where
 enter:=fun e xs w=>by
  obtain⟨n,_,rfl,_⟩|⟨L,rfl,_⟩:=zEy e
  ·exact zKZ xs w
  ·exact zI9 xs w
 val:=fun e m=>by
  obtain⟨n,_,_,_,rfl⟩|⟨L,_,_,rfl⟩:=zEy e<;>exact zLj _ m
 ok:=by
  intro f args h v e m w args' M LL;obtain⟨n,hn,rfl,rfl,rfl⟩|⟨L,rfl,rfl,rfl⟩:=zEy e
  ·rw[LR.one_inv LL rfl];exact zOF n hn _
  ·rw[LR.one_inv LL rfl];exact zIh L _
theorem mr0:okI (zCA Tryz.prog 0 orcS 1000 Tr.lf 4 [.string ⟨#[]⟩])=true:=by kernel_rfl
theorem mr1:okI (zCA Tryz.prog 0 orcS 1000 Tr.lf 4 [.string ⟨#[97]⟩])=true:=by kernel_rfl
theorem mr2:okI (zCA Tryz.prog 0 orcS 1000 Tr.lf 4 [.string ⟨#[97,42]⟩])=true:=by kernel_rfl
theorem mr3:okI (zCA Tryz.prog 0 orcS 1000 Tr.lf 4 [.string ⟨#[97,42,63]⟩])=true:=by kernel_rfl
theorem mr4:okI (zCA Tryz.prog 0 orcS 1000 Tr.lf 4 [.string ⟨#[124,97]⟩])=true:=by kernel_rfl
theorem mr5:okI (zCA Tryz.prog 0 orcS 1000 Tr.lf 4 [.string ⟨#[97,124]⟩])=true:=by kernel_rfl
theorem mr6:okI (zCA Tryz.prog 0 orcS 1000 Tr.lf 4 [.string ⟨#[98,124,40,63,58,124,97,41]⟩])=true:=by kernel_rfl
theorem mr7:okI (zCA Tryz.prog 0 orcS 1000 Tr.lf 4 [.string ⟨#[40,63,58,97,124,98,41,42,63,98]⟩])=true:=by kernel_rfl
theorem mr8:okI (zCA Tryz.prog 0 orcS 1000 Tr.lf 4 [.string ⟨#[40,97,41,124,98]⟩])=true:=by kernel_rfl
theorem mr9:okI (zCA Tryz.prog 0 orcS 1000 Tr.lf 4 [.string ⟨#[97,123,50,125]⟩])=true:=by kernel_rfl
theorem mr10:okI (zCA Tryz.prog 0 orcS 1000 Tr.lf 4 [.string ⟨#[94]⟩])=true:=by kernel_rfl
theorem mr11:okI (zCA Tryz.prog 0 orcS 1000 Tr.lf 4 [.string ⟨#[36]⟩])=true:=by kernel_rfl
theorem mr12:okI (zCA Tryz.prog 0 orcS 1000 Tr.lf 4 [.string ⟨#[40,63,109,41,94]⟩])=true:=by kernel_rfl
theorem mr13:okI (zCA Tryz.prog 0 orcS 1000 Tr.lf 4 [.string ⟨#[40,63,109,41,36]⟩])=true:=by kernel_rfl
theorem mr14:okI (zCA Tryz.prog 0 orcS 1000 Tr.lf 4 [.string ⟨#[92,98]⟩])=true:=by kernel_rfl
theorem mr15:okI (zCA Tryz.prog 0 orcS 1000 Tr.lf 4 [.string ⟨#[92,66]⟩])=true:=by kernel_rfl
theorem mr16:okI (zCA Tryz.prog 0 orcS 1000 Tr.lf 4 [.string ⟨#[40,63,109,41,94,97,42,36]⟩])=true:=by kernel_rfl
theorem mr17:okI (zCA Tryz.prog 0 orcS 1000 Tr.lf 4 [.string ⟨#[40,97,42,41,98,63]⟩])=true:=by kernel_rfl
theorem mr18:okI (zCA Tryz.prog 0 orcS 1000 Tr.lf 4 [.string ⟨#[40,63,58,97,98,124,98,97,41]⟩])=true:=by kernel_rfl
theorem mr19:okI (zCA Tryz.prog 0 orcS 1000 Tr.lf 4 [.string ⟨#[97,43,124,92,98]⟩])=true:=by kernel_rfl
theorem mr20:okI (zCA Tryz.prog 0 orcS 1000 Tr.lf 4 [.string ⟨#[92,110,42]⟩])=true:=by kernel_rfl
def textsQ:List ByteArray:=[⟨#[]⟩,⟨#[97]⟩,⟨#[97,42]⟩,⟨#[97,42,63]⟩,⟨#[124,97]⟩,⟨#[97,124]⟩,⟨#[98,124,40,63,58,124,97,41]⟩,⟨#[40,63,58,97,124,98,41,42,63,98]⟩,⟨#[40,97,41,124,98]⟩,⟨#[97,123,50,125]⟩,⟨#[94]⟩,⟨#[36]⟩,⟨#[40,63,109,41,94]⟩,⟨#[40,63,109,41,36]⟩,⟨#[92,98]⟩,⟨#[92,66]⟩,⟨#[40,63,109,41,94,97,42,36]⟩,⟨#[40,97,42,41,98,63]⟩,⟨#[40,63,58,97,98,124,98,97,41]⟩,⟨#[97,43,124,92,98]⟩,⟨#[92,110,42]⟩]
theorem zNc (i:Nat) (q:ByteArray) (h:textsQ[i]?=some q) (w:World):Calls Tryz.prog 4 #[.string q] w (zQM w):=by
 match i,h with
 | 0,h=>cases h;exact zBE (by kernel_rfl) mr0 w
 | 1,h=>cases h;exact zBE (by kernel_rfl) mr1 w
 | 2,h=>cases h;exact zBE (by kernel_rfl) mr2 w
 | 3,h=>cases h;exact zBE (by kernel_rfl) mr3 w
 | 4,h=>cases h;exact zBE (by kernel_rfl) mr4 w
 | 5,h=>cases h;exact zBE (by kernel_rfl) mr5 w
 | 6,h=>cases h;exact zBE (by kernel_rfl) mr6 w
 | 7,h=>cases h;exact zBE (by kernel_rfl) mr7 w
 | 8,h=>cases h;exact zBE (by kernel_rfl) mr8 w
 | 9,h=>cases h;exact zBE (by kernel_rfl) mr9 w
 | 10,h=>cases h;exact zBE (by kernel_rfl) mr10 w
 | 11,h=>cases h;exact zBE (by kernel_rfl) mr11 w
 | 12,h=>cases h;exact zBE (by kernel_rfl) mr12 w
 | 13,h=>cases h;exact zBE (by kernel_rfl) mr13 w
 | 14,h=>cases h;exact zBE (by kernel_rfl) mr14 w
 | 15,h=>cases h;exact zBE (by kernel_rfl) mr15 w
 | 16,h=>cases h;exact zBE (by kernel_rfl) mr16 w
 | 17,h=>cases h;exact zBE (by kernel_rfl) mr17 w
 | 18,h=>cases h;exact zBE (by kernel_rfl) mr18 w
 | 19,h=>cases h;exact zBE (by kernel_rfl) mr19 w
 | 20,h=>cases h;exact zBE (by kernel_rfl) mr20 w
 | n+21,h=>cases h
def qAw (ps:List InstD):Bool:=(zAX ps [98,97,97,99]).take 9 == [[0,0],[1,3],[4,4]]
def qA (ps:List InstD):Bool:=decide (1<ps.length)
theorem mrA:okQ qA (zCA Tryz.prog 0 orcS 1000 Tr.lf 4 [.string ⟨#[97]⟩])=true:=by kernel_rfl
theorem mrW:okQ qAw (zCA Tryz.prog 0 orcS 1000 Tr.lf 4 [.string ⟨#[97,42]⟩])=true:=by kernel_rfl
theorem zOr (w:World):Calls Tryz.prog 4 #[.string ⟨#[97]⟩] w (zLm qA w):=zG2 _ (by kernel_rfl) mrA w
theorem zPf (w:World):Calls Tryz.prog 4 #[.string ⟨#[97,42]⟩] w (zLm qAw w):=zG2 _ (by kernel_rfl) mrW w
end
section
open Go.RowKit Go.Shelf
attribute [local go_sem] Oper.semAt_some
theorem zIe (w:World) (b n:Nat):w.grownBy (w.freeze ⟨b,n,none⟩ 1) (some b):=by
 unfold World.freeze;rw[if_neg (by decide)]
 exact⟨rfl,rfl,rfl,by simp,fun j hj hne=>by
  show (w.heap.modify b _)[j]?=_
  rw[Array.getElem?_modify,if_neg (fun e=>hne (by rw[e]))]⟩
theorem zIB {w:World} {b n:Nat} {cs:Array Value} {T:TypeId} (h:w.heap[b]?=some (.cells cs T (0,0))):∃ f,(w.freeze ⟨b,n,none⟩ 1).heap[b]?=some (.cells cs T f):=by
 unfold World.freeze;rw[if_neg (by decide)]
 show ∃ f',(w.heap.modify b _)[b]?=_
 rw[Array.getElem?_modify,if_pos rfl,h];exact⟨_,rfl⟩
theorem zJa {V:World} {b:Nat} {L:Str} {cs:Array Value} {T:TypeId} {f:Nat × Nat} (h:V.heap[b]?=some (.cells cs T f)) (hc:cs=(L.map fun x=>Value.int .u8 x.toNat).toArray) (hl:L.length<=1000):BytesR (·=b) (some ⟨b,0,none⟩) L.length L V:=by
 refine⟨_,L.length,by rw[List.length_map],by simp,?_,(fun h=>by cases h),fun j r hr=>⟨b,0,rfl,rfl,?_,fun k hk=>?_⟩⟩
 ·unfold maxLen;omega
 ·rw[List.getElem?_map]at hr;obtain⟨x,_,rfl⟩:=Option.map_eq_some_iff.1 hr;rfl
 ·rw[List.getElem?_map]at hr;obtain⟨x,hx,rfl⟩:=Option.map_eq_some_iff.1 hr;obtain rfl:k=0:=by omega
  rw[cell_of_row V b _ cs T f h,hc];simp[hx]
section
variable {P:Program} {ops:Array Oper} {rest:List Oper} {o:Oper} {a:Act} {w w0:World} {Q:Exit->Act->World->Prop} {l:List Res} {M:Nat->Prop}
theorem zES (hg:Region.wanted o (yielded ops a.tmps)=true) {TS T:TypeId} {x:Operand} (ho:o.op=Op.convert TS TS x) (ht:P.underlying TS=some (.slice T)) (he:P.underlying T=some (.int .u8)) (H:HoldG M w0 w l) {i b:Nat} {L:Str} {cs:Array Value} (hx:a.eval x=.slice (some ⟨b,0,none⟩) L.length L.length) (hi:At l i (.blk b cs T))
  (hc:cs=(L.map fun x=>Value.int .u8 x.toNat).toArray) (hl:L.length<=1000)
  (h:∀ w',HoldG M w0 w' (l.set i (.kn (·=b) (BytesR (·=b) (some ⟨b,0,none⟩) L.length L)))->wpList P ops Q rest (a.put o.dst (.slice (some ⟨b,0,none⟩) L.length L.length)) w'):wpList P ops Q (o::rest) a w :=
 zAu hg fun _ hK=>by
  have hb:=(H.blk hi).2;have hsz:cs.size=L.length:=by rw[hc];simp
  have hsh:w.shape? b=some (T,L.length):=by unfold World.shape?;rw[hb];simp[hsz]
  have hr:(convert TS TS (.slice (some ⟨b,0,none⟩) L.length L.length)).run P w=.ok (.slice (some ⟨b,0,none⟩) L.length L.length) (w.freeze ⟨b,L.length,none⟩ 1):=by
   simp[convert,run_underlying ht,run_underlying he,markStringish,hsh]
  unfold Oper.wp;have:(execOp a.eval o).run P w=.ok (.value (.slice (some ⟨b,0,none⟩) L.length L.length)) (w.freeze ⟨b,L.length,none⟩ 1):=by
   simp only[execOp,ho,hx];simp[hr]
  rw[this];obtain⟨f,hf⟩:=zIB (n:=L.length) hb;refine hK _ _ (h _ (H.upd hi.get (zIe w b L.length) ⟨fun b' e=>by subst e;exact(Array.getElem?_eq_some_iff.1 hf).1,fun V hV=>zJa ((hV b rfl).trans hf) hc hl⟩ (fun b' e=>.inl (by subst e;rfl))))
theorem HoldG.blkInts (H:HoldG M w0 w l) {i b:Nat} {xs:List Int} {T:TypeId} {cs:Array Value} (hi:At l i (.blk b cs T)) (hc:cs=(xs.map (Value.int .i64)).toArray) (hn:xs.length<=1000):IntsR (·=b) (some ⟨b,0,none⟩) xs.length xs w:=by
 refine⟨_,xs.length,by rw[List.length_map],by simp,?_,(fun h=>by cases h),fun j r hr=>⟨b,0,rfl,rfl,?_,fun k hk=>?_⟩⟩
 ·unfold maxLen;omega
 ·rw[List.getElem?_map]at hr;obtain⟨x,_,rfl⟩:=Option.map_eq_some_iff.1 hr;rfl
 ·rw[List.getElem?_map]at hr;obtain⟨x,hx,rfl⟩:=Option.map_eq_some_iff.1 hr;obtain rfl:k=0:=by omega
  rw[H.cell hi,hc];simp[hx]
end
section
variable {M:Nat->Prop} {P:Program} {f:FuncId} {args:Array Value} {w w0:World} {l:List Res} {R:Ending->World->Prop}
theorem chMQ {Qq:List InstD->Bool} (c:Calls P f args w (zLm Qq w)) (H:HoldG M w0 w l)
  (k:∀ p c ps F w',Hid (Qq ps=true)->Hid (∀ x ∈ ps,zAb x.set)->HoldG M w0 w' (l++[.kn F (InstsR F p c ps)])->R (.returned (.slice p ps.length c)) w'):Calls P f args w R:=c.mono fun _ w' h=>by
 obtain⟨p,c,ps,F,hq,rfl,hs,hp,hF,hb⟩:=h;exact k p c ps F w' (Lib.hid hq) (Lib.hid hs) (H.learn hb Still.none (fun b h=>⟨(hF b h).2,.inl (hF b h).1⟩) (fun V hV=>hp.kept hV))
theorem HoldG.blkRows (H:HoldG M w0 w l) {i b:Nat} {xs:List zAV} {T:TypeId} {cs:Array Value} {G:Nat->Prop} (hi:At l i (.blk b cs T)) (hc:cs=(xs.map zAg).toArray) (hk:∀ x ∈ xs,IntsR G x.2.1 x.2.2 x.1 w) (hG:G b) (hn:xs.length<=1000):RowsR G (some ⟨b,0,none⟩) xs.length xs w:=by
 refine⟨⟨_,xs.length,by rw[List.length_map],by simp,?_,(fun h=>by cases h),fun j r hr=>⟨b,0,rfl,hG,?_,fun k hk=>?_⟩⟩,hk⟩
 ·unfold maxLen;omega
 ·rw[List.getElem?_map]at hr;obtain⟨x,_,rfl⟩:=Option.map_eq_some_iff.1 hr;rfl
 ·rw[List.getElem?_map]at hr;obtain⟨x,hx,rfl⟩:=Option.map_eq_some_iff.1 hr;obtain rfl:k=0:=by omega
  rw[H.cell hi,hc];simp[hx]
end
theorem zG6 (x y:Int) (W:World):(Instr.buildSlice 55 2 #[(0,.int .i64 x),(1,.int .i64 y)]).run Tryz.prog W=.ok (.slice (some ⟨W.heap.size,0,none⟩) 2 2) (W.alloc (.cells #[.int .i64 x,.int .i64 y] 3)):=by kernel_rfl
theorem zNs (p q r:Option Addr) (n m k c d e:Nat) (W:World):(Instr.buildSlice 47 3 #[(0,.slice p n c),(1,.slice q m d),(2,.slice r k e)]).run Tryz.prog W=.ok (.slice (some ⟨W.heap.size,0,none⟩) 3 3) (W.alloc (.cells #[.slice p n c,.slice q m d,.slice r k e] 55)):=by kernel_rfl
theorem zNp (a b c d:Int) (W:World):(Instr.buildSlice 25 4 #[(0,.int .u8 a),(1,.int .u8 b),(2,.int .u8 c),(3,.int .u8 d)]).run Tryz.prog W=.ok (.slice (some ⟨W.heap.size,0,none⟩) 4 4) (W.alloc (.cells #[.int .u8 a,.int .u8 b,.int .u8 c,.int .u8 d] 5)):=by kernel_rfl
def awText:Str:=[98,97,97,99]
theorem zD6 (w0:World):Calls Tryz.prog 8 #[] w0 (Rt (.bool true) w0):=by
 have H:=Hold.start w0;have hm:=zPf;have hrw:=fun pp cp (ps:List InstD) psl csl Fp Fs w h0 h1 h2 h3 h4=>(zJE pp cp ps psl csl awText 9 Fp Fs w h0 (by decide) h1 h2 h3 h4).mono fun _ _ h=>h.out
 go_enter Tryz.func8,Tryz.ntmps8
 go_upto_region 2 with (first|(go_at_call 4;refine chMQ (hm _) H ?_;clear H;intro pp cp ps F w hq hs H;simp only[ca]at H)|((with_reducible refine gCV ?_);refine zES wtd_ rfl Tryz.underlying25 Tryz.underlying5 H (L:=awText) rfl i_1 rfl (by decide) ?_;clear H;intro w H;simp only[sc]at H)|((with_reducible refine gBS ?_);refine zAQ wtd_ _ _ _ rfl H (#[.int .u8 98,.int .u8 97,.int .u8 97,.int .u8 99]) 5 (by intro W;simp only[ml];exact zNp _ _ _ _ W) ?_;clear H;intro bk w H;try simp only[nr]at H)|(go_at_call 13;refine chRw (hrw pp cp ps (some ⟨bk,0,none⟩) awText.length F (fun x=>x=bk) _ hs.out (H.knlt (i:=0) .zero) (H.knlt (i:=1) i_1) (H.kn (i:=0) .zero) (H.kn (i:=1) i_1)) H ?_;clear H;intro q1 n1 xs1 F1 w hx1 H;try simp only[ca]at H))
 have hrow:xs1.map (·.1)=[[0,0],[1,3],[4,4]]:=by
  rw[hx1.out];have:=hq.out;unfold qAw at this;exact eq_of_beq this
 have HR:=Lib.hid hrow;clear hrow hm hrw
 go_wp2_with (first|((with_reducible show @wpList _ _ _ ({dst:=_,op:=Op.buildSlice 55 _ _,type:=_,pos:=_,after:=_,guard:=_}::_) _ _);(first|refine zAQ wtd_ _ _ _ rfl H (#[.int .i64 0,.int .i64 0]) 3 (by intro W;simp only[ml];(try simp only[pe,zFg]);with_reducible exact zG6 0 0 W) ?_;clear H;intro bi0 w H|refine zAQ wtd_ _ _ _ rfl H (#[.int .i64 1,.int .i64 3]) 3 (by intro W;simp only[ml];(try simp only[pe,zFg]);with_reducible exact zG6 1 3 W) ?_;clear H;intro bi1 w H|refine zAQ wtd_ _ _ _ rfl H (#[.int .i64 4,.int .i64 4]) 3 (by intro W;simp only[ml];(try simp only[pe,zFg]);with_reducible exact zG6 4 4 W) ?_;clear H;intro bi2 w H);try simp only[nr]at H)|((with_reducible show @wpList _ _ _ ({dst:=_,op:=Op.buildSlice 47 _ _,type:=_,pos:=_,after:=_,guard:=_}::_) _ _);refine zAQ wtd_ _ _ _ rfl H (#[.slice (some ⟨bi0,0,none⟩) 2 2,.slice (some ⟨bi1,0,none⟩) 2 2,.slice (some ⟨bi2,0,none⟩) 2 2]) 55 (by intro W;simp only[ml];(try simp only[pe]);exact zNs _ _ _ _ _ _ _ _ _ W) ?_;clear H;intro bo w H;try simp only[nr]at H))
 have g3:=(Array.getElem?_eq_some_iff.1 (H.blk (i:=3) i_3).2).1;have g4:=(Array.getElem?_eq_some_iff.1 (H.blk (i:=4) i_4).2).1;have g5:=(Array.getElem?_eq_some_iff.1 (H.blk (i:=5) i_5).2).1;have g6:=(Array.getElem?_eq_some_iff.1 (H.blk (i:=6) i_6).2).1
 have hy:RowsR (fun b=>b=bo\/b=bi0\/b=bi1\/b=bi2) (some ⟨bo,0,none⟩) 3 [([0,0],some ⟨bi0,0,none⟩,2),([1,3],some ⟨bi1,0,none⟩,2),([4,4],some ⟨bi2,0,none⟩,2)] w:=H.blkRows (i:=6) i_6 rfl (fun x hx=>by
  rcases List.mem_cons.1 hx with rfl|hx
  ·exact IntsR.mono (H.blkInts (i:=3) i_3 (xs:=[0,0]) rfl (by decide)) (fun b hb=>.inr (.inl hb))
  rcases List.mem_cons.1 hx with rfl|hx
  ·exact IntsR.mono (H.blkInts (i:=4) i_4 (xs:=[1,3]) rfl (by decide)) (fun b hb=>.inr (.inr (.inl hb)))
  rcases List.mem_cons.1 hx with rfl|hx
  ·exact IntsR.mono (H.blkInts (i:=5) i_5 (xs:=[4,4]) rfl (by decide)) (fun b hb=>.inr (.inr (.inr hb)))
  ·cases hx) (.inl rfl) (by simp)
 have hc:=zCk q1 (some ⟨bo,0,none⟩) n1 3 xs1 [([0,0],some ⟨bi0,0,none⟩,2),([1,3],some ⟨bi1,0,none⟩,2),([4,4],some ⟨bi2,0,none⟩,2)] F1 (fun b=>b=bo\/b=bi0\/b=bi1\/b=bi2) w HR.out (H.knlt (i:=2) i_2) (fun b hb=>by rcases hb with rfl|rfl|rfl|rfl<;>assumption) (H.kn (i:=2) i_2) hy
 clear hy g3 g4 g5 g6;refine hc.mono ?_
 rintro e w' ⟨rfl,hb⟩;have hb0:=(H.call hb).below;clear H hc hb
 go_wp2_with fail
 go_ret;exact⟨rfl,hb0⟩
end
end Go.Proofs.YtphjgfjbiimkjaaGreat
