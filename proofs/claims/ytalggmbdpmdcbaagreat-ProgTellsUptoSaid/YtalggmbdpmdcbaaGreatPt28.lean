/-
  Laws of walks, and walks.
-/
import Derived.Test.YtalggmbdpmdcbaaGreatPt27
set_option linter.unusedVariables false
set_option linter.unusedSimpArgs false
set_option maxRecDepth 100000
set_option maxHeartbeats 16000000
namespace Go.Proofs.YtalggmbdpmdcbaaGreat
section
open Go.RowKit Go.Shelf
attribute [local go_sem] Oper.semAt_some
theorem Hold.afterApart {w0 w w':World} {v1 v2:Value} {e:TypeId} {sz n1 n2:Nat} {xs1 xs2:List Value} {l:List Res} (H:Hold w0 w (.row v1 e sz n1 xs1::.row v2 e sz n2 xs2::l)) (hk:KeepBut (fun b=>v1.ownBlock=some b\/v2.ownBlock=some b) w.heap.size w w'):Hold w0 w' l:=by
 have ho1:w.ownsRow w0.heap.size e sz v1 n1 xs1:=H.all 0 _ rfl;have ho2:w.ownsRow w0.heap.size e sz v2 n2 xs2:=H.all 1 _ rfl;refine⟨⟨hk.os.trans H.keep.os,hk.tape.trans H.keep.tape,hk.output.trans H.keep.output,Nat.le_trans H.keep.size hk.size,fun k hk1 _=>?_⟩,fun i r hi=>?_,fun i j r s hij hr hs=>?_⟩
 ·have hn:¬ (v1.ownBlock=some k\/v2.ownBlock=some k):=by
   rintro(h|h)
   ·have:=(World.ownsRow.lt ho1 k h).1;omega
   ·have:=(World.ownsRow.lt ho2 k h).1;omega
  exact(hk.old k (Nat.lt_of_lt_of_le hk1 H.keep.size) hn).trans (H.keep.old k hk1 (fun h=>h))
 ·have hr:=H.all (i+2) r (by simpa using hi)
  have hlt:=fun b hb=>hr.ltf b hb
  refine hr.keptF (fun b hb=>hk.old b (hlt b hb) ?_) (fun b hb=>Nat.lt_of_lt_of_le (hlt b hb) hk.size)
  rintro(h|h)
  ·exact H.apart 0 (i+2) _ r (by omega) rfl (by simpa using hi) b h hb
  ·exact H.apart 1 (i+2) _ r (by omega) rfl (by simpa using hi) b h hb
 ·exact H.apart (i+2) (j+2) r s (by omega) (by simpa using hr) (by simpa using hs)
theorem zOl {R:Ending->World->Prop} {w0 w:World} {l:List Res} {v1 v2:Value} {n1 n2 G:Nat} {xs1 xs2:List Value} {T:TypeId} (H:Hold w0 w (.row v1 47 9 n1 xs1::.row v2 47 9 n2 xs2::.blk G #[v1,v2] T::l)) (h1:n1<=4194304) (h2:n2<=4194304)
  (k:∀ w',Hold w0 w' (.blk G #[v1,v2] T::l)->R (.returned (.bool true)) w'):Calls Tryz.prog 12 #[.slice (some ⟨G,0,none⟩) 2 2] w R:=by
 have ho1:w.ownsRow w0.heap.size 47 9 v1 n1 xs1:=H.all 0 _ rfl;have ho2:w.ownsRow w0.heap.size 47 9 v2 n2 xs2:=H.all 1 _ rfl;have key:∀ j,j<2->w.ownsRow w0.heap.size 47 9 ((fun j=>if j=0 then v1 else v2) j) ((fun j=>if j=0 then n1 else n2) j) ((fun j=>if j=0 then xs1 else xs2) j):=by
  intro j hj;rcases(show j=0\/j=1 by omega) with rfl|rfl
  ·exact ho1
  ·exact ho2
 have sep:∀ g,v1.ownBlock=some g->v2.ownBlock=some g->False:=fun g a b=>H.apart 0 1 _ _ (by decide) rfl rfl g a b
 refine(zHk G 2 2 w0.heap.size (fun j=>if j=0 then v1 else v2) (fun j=>if j=0 then n1 else n2) (fun j=>if j=0 then xs1 else xs2) w (by decide) (by decide) (fun j _=>?_) (Array.getElem?_eq_some_iff.1 (H.blk (i:=2) i_2).2).1 (fun j hj=>?_) H.keep.size ⟨key,key,fun j _ g n c m d a b=>?_,fun i j hi hj hij g a b=>?_⟩).mono ?_
 ·show (if j=0 then n1 else n2)<=_
  split<;>assumption
 ·rw[H.cell (i:=2) i_2 j];rcases(show j=0\/j=1 by omega) with rfl|rfl<;>rfl
 ·rw[a]at b;cases b;exact⟨Nat.le_refl _,rfl⟩
 ·have a':=a.elim id id;have b':=b.elim id id;rcases(show i=0\/i=1 by omega) with rfl|rfl<;>rcases(show j=0\/j=1 by omega) with rfl|rfl
  ·exact hij rfl
  ·exact sep g a' b'
  ·exact sep g b' a'
  ·exact hij rfl
 ·rintro e w' ⟨rfl,hk,_⟩;refine k w' (H.afterApart (hk.mono (Nat.le_refl _) fun b _ hb=>?_))
  obtain⟨j,hj,hb⟩:=hb;rcases(show j=0\/j=1 by omega) with rfl|rfl
  ·exact .inl hb
  ·exact .inr hb
theorem zHs (q1 q2:Option Addr) (n1 n2 c1 c2:Nat) (W:World):(Instr.buildSlice 39 2 #[(0,.slice q1 n1 c1),(1,.slice q2 n2 c2)]).run Tryz.prog W=.ok (.slice (some ⟨W.heap.size,0,none⟩) 2 2) (W.alloc (.cells #[.slice q1 n1 c1,.slice q2 n2 c2] 32)):=by kernel_rfl
theorem zNV {t:Tree} {ps:List InstD} (h:zDM t=.ok ps):ps.length<=4000:=by
 unfold zDM at h;split at h
 ·cases h
 ·split at h
  ·cases h
  ·cases h
   rw[zEn];omega
theorem zIk (t:Tree) (p:Option Addr) (n c:Nat) (F:Nat->Prop) (w0:World) (hm:zAC t<=100000000) (hF:∀ b,F b->b<w0.heap.size) (h:ForestR w0 F p c t.kids) (hn:n=t.kids.length) :
  Calls Tryz.prog 3 #[zAQ t.d (.slice p n c)] w0 (Rt (.bool true) w0):=by
 subst hn;have H:=(Hold.start w0).know F (fun V=>ForestR V F p c t.kids) hF (fun i r h=>by simp at h) (fun V hV=>h.kept hV)
 clear h;simp only[List.nil_append]at H;have hno:=fun w (h1:∀ b,F b->b<w.heap.size) (h2:ForestR w F p c t.kids)=>zGy (zAC t) t p _ c F w 4200 (Nat.le_refl _) (by omega) (by omega) h1 h2 rfl
 by_cases hbig:4200<zAC t
 ·go_enter Tryz.func3,Tryz.ntmps3
  go_wp2_with (first|(go_at_call 6;refine(hno _ (H.knlt .zero) (H.kn .zero)).mono (fun e w' hc=>?_);obtain⟨⟨r,rfl,hr⟩,hb⟩:=hc;replace H:=H.call hb;clear hb;have dr:decide ((4200:Int)<(r:Int))=true:=decide_eq_true (by have:=hr.2.1 hbig;omega))|((with_reducible refine ch (zFE _) H ?_);clear H;intro w H)|((with_reducible refine kg 1 ?_);(first|refine kA 1 H ?_|refine kS 1 H ?_|refine kB 1 H ?_);clear H;intro b1 w H;try simp only[nr]at H)|((with_reducible refine gL ?_);refine aD H ?_))
  go_ret;exact⟨rfl,H.below⟩
 have hle:zAC t<=4200:=by omega
 have hln:=fun w (h1:∀ b,F b->b<w.heap.size) (h2:ForestR w F p c t.kids)=>zGU (zAC t) t p _ c F w (by omega) (Nat.le_refl _) h1 h2 rfl
 have hmk:=fun q m F1 w (h1:∀ b,F1 b->b<w.heap.size) (h2:LentR w F1 q m t.kids)=>zK4 t q _ m F1 w (by omega) h1 h2.forest rfl
 have hte:=fun {q m F1} w (h1:∀ b,F1 b->b<w.heap.size) (h2:LentR w F1 q m t.kids)=>zKz t q _ m F1 w (by omega) h1 h2.forest rfl
 have hke:=fun {q m F1} w (h1:∀ b,F1 b->b<w.heap.size) (h3:∀ b,F b->b<w.heap.size) (h2:LentR w F1 q m t.kids) (h4:ForestR w F p c t.kids)=>zGF (zAC t) t q p _ m c F1 F w (by omega) (Nat.le_refl _) h1 h3 h2 h4 rfl
 cases hs:zDM t with
 | error x =>
  rw[hs]at hmk;have HNB:=Lib.hid (show (0:Nat)<=4194304 by omega)
  clear hs
  go_enter Tryz.func3,Tryz.ntmps3
  go_upto_region 6 with (first|(go_at_call 6;refine(hno _ (H.knlt .zero) (H.kn .zero)).mono (fun e w' hc=>?_);obtain⟨⟨r,rfl,hr⟩,hb⟩:=hc;replace H:=H.call hb;clear hb;have dr:decide ((4200:Int)<(r:Int))=false:=decide_eq_false (by have:=hr.1 hle;omega))|(go_at_call 8;refine chLN (hln _ (H.knlt .zero) (H.kn .zero)) H ?_;clear H;intro q1 m1 F1 w hF1 H;simp only[ca]at H)|(go_at_call 9;refine zP4 (hmk _ _ _ _ (H.knlt (i:=2) i_2) (H.kn (i:=2) i_2)) H ?_;clear H;intro w H)|((with_reducible refine kg 1 ?_);(first|refine kA 1 H ?_|refine kS 1 H ?_|refine kB 1 H ?_);clear H;intro b1 w H;try simp only[nr]at H)|((with_reducible refine kg 3 ?_);(first|refine kA 3 H ?_|refine kS 3 H ?_|refine kB 3 H ?_);clear H;intro b3 w H;try simp only[nr]at H)|(first|((with_reducible refine gT ?_);(refine aT H ?_;clear H;intro w H;try simp only[nr]at H))|((with_reducible refine gL ?_);refine aD H ?_)))
  have H2:=(H.addNil 47 9).addNil 47 9;simp only[ca]at H2;clear H;have H:=H2;clear H2
  go_wp2_with (first|((with_reducible first|refine ch (hte _ (H.knlt (i:=2) i_2) (H.kn (i:=2) i_2)) H ?_|refine ch (hke _ (H.knlt (i:=2) i_2) (H.knlt (i:=0) .zero) (H.kn (i:=2) i_2) (H.kn (i:=0) .zero)) H ?_);clear H;intro w H)|(go_at_call 12;have H3:Hold w0 _ [.row (.slice none 0 0) 47 9 0 ([]),.row (.slice none 0 0) 47 9 0 ([]),.blk bk #[.slice none 0 0,.slice none 0 0] 32,.kn F (fun V=>ForestR V F p c t.kids),.blk b1 (zAO t.d (.slice p t.kids.length c)) 28,.kn F1 (fun V=>LentR V F1 q1 m1 t.kids),.blk b3 (zAO t.d (.slice q1 t.kids.length m1)) 28]:=H.pick [4,5,6,0,1,2,3] _ (by decide) rfl;refine zOl H3 HNB.out HNB.out ?_;clear H H3;intro w H2;have H:Hold w0 _ [.kn F (fun V=>ForestR V F p c t.kids),.blk b1 (zAO t.d (.slice p t.kids.length c)) 28,.kn F1 (fun V=>LentR V F1 q1 m1 t.kids),.blk b3 (zAO t.d (.slice q1 t.kids.length m1)) 28]:=H2.pick [1,2,3,4] _ (by decide) rfl;clear H2)|((with_reducible refine ch (zFE _) H ?_);clear H;intro w H)|((with_reducible refine gBS ?_);refine zAY wtd_ _ _ _ rfl H #[.slice none 0 0,.slice none 0 0] 32 (by intro W;simp only[ml];(try simp only[pe]);exact zHs _ _ _ _ _ _ W) ?_;clear H;intro bk w H;simp only[ca]at H)|((with_reducible refine kg 1 ?_);(first|refine kA 1 H ?_|refine kS 1 H ?_|refine kB 1 H ?_);clear H;intro b1 w H;try simp only[nr]at H)|((with_reducible refine kg 3 ?_);(first|refine kA 3 H ?_|refine kS 3 H ?_|refine kB 3 H ?_);clear H;intro b3 w H;try simp only[nr]at H)|((with_reducible refine gL ?_);refine aD H ?_))
  go_ret;exact⟨rfl,H.below⟩
 | ok ps =>
  rw[hs]at hmk;have HNB:=Lib.hid (show ps.length<=4194304 by have:=zNV hs;omega)
  clear hs
  go_enter Tryz.func3,Tryz.ntmps3
  go_upto_region 5 with (first|(go_at_call 6;refine(hno _ (H.knlt .zero) (H.kn .zero)).mono (fun e w' hc=>?_);obtain⟨⟨r,rfl,hr⟩,hb⟩:=hc;replace H:=H.call hb;clear hb;have dr:decide ((4200:Int)<(r:Int))=false:=decide_eq_false (by have:=hr.1 hle;omega))|(go_at_call 8;refine chLN (hln _ (H.knlt .zero) (H.kn .zero)) H ?_;clear H;intro q1 m1 F1 w hF1 H;simp only[ca]at H)|(go_at_call 9;refine zPN (hmk _ _ _ _ (H.knlt (i:=2) i_2) (H.kn (i:=2) i_2)) H ?_;clear H;intro q4 m4 w H;simp only[ca]at H)|((with_reducible refine kg 1 ?_);(first|refine kA 1 H ?_|refine kS 1 H ?_|refine kB 1 H ?_);clear H;intro b1 w H;try simp only[nr]at H)|((with_reducible refine kg 3 ?_);(first|refine kA 3 H ?_|refine kS 3 H ?_|refine kB 3 H ?_);clear H;intro b3 w H;try simp only[nr]at H)|(first|((with_reducible refine gT ?_);(refine aT H ?_;clear H;intro w H;try simp only[nr]at H))|((with_reducible refine gL ?_);refine aD H ?_)))
  go_upto_region 6 with (first|(go_at_call 9;refine zPN (hmk _ _ _ _ (H.knlt (i:=2) i_2) (H.kn (i:=2) i_2)) H ?_;clear H;intro q6 m6 w H;simp only[ca]at H)|((with_reducible refine kg 1 ?_);(first|refine kA 1 H ?_|refine kS 1 H ?_|refine kB 1 H ?_);clear H;intro b1 w H;try simp only[nr]at H)|((with_reducible refine kg 3 ?_);(first|refine kA 3 H ?_|refine kS 3 H ?_|refine kB 3 H ?_);clear H;intro b3 w H;try simp only[nr]at H)|((with_reducible refine gL ?_);refine aD H ?_))
  go_wp2_with (first|((with_reducible first|refine ch (hte _ (H.knlt (i:=2) i_2) (H.kn (i:=2) i_2)) H ?_|refine ch (hke _ (H.knlt (i:=2) i_2) (H.knlt (i:=0) .zero) (H.kn (i:=2) i_2) (H.kn (i:=0) .zero)) H ?_);clear H;intro w H)|(go_at_call 12;have H3:Hold w0 _ [.row (.slice q4 ps.length m4) 47 9 ps.length (zAE (ps.map zAL)),.row (.slice q6 ps.length m6) 47 9 ps.length (zAE (ps.map zAL)),.blk bk #[.slice q4 ps.length m4,.slice q6 ps.length m6] 32,.kn F (fun V=>ForestR V F p c t.kids),.blk b1 (zAO t.d (.slice p t.kids.length c)) 28,.kn F1 (fun V=>LentR V F1 q1 m1 t.kids),.blk b3 (zAO t.d (.slice q1 t.kids.length m1)) 28]:=H.pick [4,5,6,0,1,2,3] _ (by decide) rfl;refine zOl H3 HNB.out HNB.out ?_;clear H H3;intro w H2;have H:Hold w0 _ [.kn F (fun V=>ForestR V F p c t.kids),.blk b1 (zAO t.d (.slice p t.kids.length c)) 28,.kn F1 (fun V=>LentR V F1 q1 m1 t.kids),.blk b3 (zAO t.d (.slice q1 t.kids.length m1)) 28]:=H2.pick [1,2,3,4] _ (by decide) rfl;clear H2)|((with_reducible refine ch (zFE _) H ?_);clear H;intro w H)|((with_reducible refine gBS ?_);refine zAY wtd_ _ _ _ rfl H #[.slice q4 ps.length m4,.slice q6 ps.length m6] 32 (by intro W;simp only[ml];(try simp only[pe]);exact zHs _ _ _ _ _ _ W) ?_;clear H;intro bk w H;simp only[ca]at H)|((with_reducible refine kg 1 ?_);(first|refine kA 1 H ?_|refine kS 1 H ?_|refine kB 1 H ?_);clear H;intro b1 w H;try simp only[nr]at H)|((with_reducible refine kg 3 ?_);(first|refine kA 3 H ?_|refine kS 3 H ?_|refine kB 3 H ?_);clear H;intro b3 w H;try simp only[nr]at H)|((with_reducible refine gL ?_);refine aD H ?_))
  go_ret;exact⟨rfl,H.below⟩
end
end Go.Proofs.YtalggmbdpmdcbaaGreat
