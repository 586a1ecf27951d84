/-
  Laws of walks, and walks.
-/
import Derived.Test.YtdoflhjhaciepaaVa8
import Derived.Test.YtdoflhjhaciepaaVa1
set_option linter.unusedVariables false
set_option linter.unusedSimpArgs false
set_option maxRecDepth 100000
set_option maxHeartbeats 16000000
namespace Go.Proofs.Ytdoflhjhaciepaa
open Go.RowKit Go.Shelf
attribute [local go_sem] Oper.semAt_some
theorem begin_int (k:Nat):((k:Int) == 0)=(k == 0):=by cases k<;>rfl
theorem begin_tests (k:Nat) (x:InstD):((((x.kind == 3&&x.slot == 0) != ((k:Int) == 0)) || ((x.kind != 5&&x.kind != 6)&&x.next == 0)) || (x.kind == 2&&x.other == 0))=!beginI k x:=by
 rw[begin_int,beginI,Bool.not_not]
theorem begins_all {ps:List InstD}:(beginsP ps=true)↔((∀ j,j<ps.length→beginI j (atI ps j)=true)∧0<ps.length):=by
 simp[beginsP]
theorem atI_of {ps:List InstD} {j:Nat} {x:InstD} (h:ps[j]?=some x):atI ps j=x:=by
 unfold atI;rw[List.getD_eq_getElem?_getD,h];rfl
theorem law_begins (p:Option Addr) (c:Nat) (xs:List InstD) (F:Nat→Prop) (w0:World) (hF:∀ b,F b→b<w0.heap.size) (h:InstsR F p c xs w0) :
  Calls Try.prog 10 #[.slice p xs.length c] w0 fun e w'=>e=.returned (.bool (beginsP xs))∧Below w0.heap.size w0 w':=by
 have hbd:=h.bound
 have hp:=h.at
 have H:=Hold.insts hF h
 clear h
 obtain⟨n,hn⟩:∃ n,xs.length=n:=⟨_,rfl⟩
 have HN:=Lib.hid hn
 rw[hn]at hp hbd ⊢
 clear hn
 go_enter Try.func10,Try.ntmps10
 go_wp2_with (first|fail)
 go_loopw [3] (fun ix wr=>∃ (j:Nat),j≤n∧ix=.int .i64 j∧Hid (∀ k,k<j→beginI k (atI xs k)=true)∧Hold w0 wr [.kn F (InstsR F p c xs)]) (fun ix _=>n+1 - (intOf ix).toNat)
 case atStart=>exact⟨0,by omega,rfl,Lib.hid (fun k h=>by omega),H⟩
 case round =>
  clear H
  obtain⟨j,hj,rfl,EA,H⟩:=hrel
  by_cases hlt:j<n
  ·have dj:decide ((j:Int)<(n:Int))=true:=by simp;omega
   have dj2:decide (j<n)=true:=decide_eq_true hlt
   obtain⟨x,hx⟩:∃ x,xs[j]?=some x:=⟨_,List.getElem?_eq_getElem (by rw[HN.out];exact hlt)⟩
   obtain⟨b,off,rfl⟩:=hp (by omega)
   have hcell:∀ V,InstsR F (some ⟨b,off,none⟩) c xs V→∀ k,k<9→V.cell? ⟨b,off+j * 9+k,none⟩=(instC x)[k]?:=fun V h=>h.cells hx rfl
   obtain⟨q5,h5⟩:∃ q,((((x.kind == 3&&x.slot == 0) != ((j:Int) == 0)) || ((x.kind != 5&&x.kind != 6)&&x.next == 0)) || (x.kind == 2&&x.other == 0))=q:=⟨_,rfl⟩
   have hq:=begin_tests j x
   rw[h5]at hq
   have EN:q5=true→Hid (beginsP xs=false):=fun h=>Lib.hid (by
    rw[← Bool.not_eq_true,begins_all]
    intro hh
    have:=hh.1 j (by rw[HN.out];exact hlt)
    rw[atI_of hx]at this
    rw[h,this]at hq;cases hq)
   have EY:q5=false→Hid (∀ k,k<j+1→beginI k (atI xs k)=true):=fun h=>Lib.hid (fun k hk=>by
    by_cases e:k=j
    ·subst e;rw[atI_of hx];rw[h]at hq;simpa using hq.symm
    ·exact EA.out k (by omega))
   clear hx hp EA hq
   have h5:=Lib.hid h5
   go_upto_region 5 with (first|((with_reducible refine gL ?_);refine own_loadK wtd_ _ _ rfl rfl row_Inst rfl (hcell _ (H.kn (i:=0) .zero)) ?_)|((first|((with_reducible refine kgA 4 ?_);refine kA 4 H ?_)|((with_reducible refine kgX 4 ?_);(first|refine kS 4 H ?_|refine kB 4 H ?_)));clear H;intro b4 w H;try simp only[nrm,nrl,Value.cells]at H)|((with_reducible refine gTi ?_);refine aTi H ?_;clear H;intro w H;try simp only[nrm,nrl,Value.cells]at H))
   refine wp_region_seq 36 [fun v _=>v=Value.pointer (some ⟨b4,0,none⟩),fun v _=>v=Value.int .i64 (x.kind),fun v _=>v=Value.bool ((x.kind) == (3)),fun v _=>v=Value.bool ((x.kind) == (3)),fun v _=>v=(bif (true)&&(((x.kind) == (3)) == true) then Value.pointer (some ⟨b4,7,none⟩) else undef),fun v _=>v=(bif (true)&&(((x.kind) == (3)) == true) then Value.int .i64 (x.slot) else undef),fun v _=>v=(bif (true)&&(((x.kind) == (3)) == true) then Value.bool ((x.slot) == (0)) else undef),fun v _=>v=Value.bool (((x.kind) == (3))&&((x.slot) == (0))),fun v _=>v=Value.int .i64 ((j:Int)),fun v _=>v=Value.bool (((j:Int)) == (0)),fun v _=>v=Value.bool ((((x.kind) == (3))&&((x.slot) == (0))) != (((j:Int)) == (0))),fun v _=>v=Value.bool ((((x.kind) == (3))&&((x.slot) == (0))) != (((j:Int)) == (0))),fun v _=>v=(bif (true)&&(((((x.kind) == (3))&&((x.slot) == (0))) != (((j:Int)) == (0))) == false) then Value.pointer (some ⟨b4,0,none⟩) else undef),fun v _=>v=(bif (true)&&(((((x.kind) == (3))&&((x.slot) == (0))) != (((j:Int)) == (0))) == false) then Value.int .i64 (x.kind) else undef),fun v _=>v=(bif (true)&&(((((x.kind) == (3))&&((x.slot) == (0))) != (((j:Int)) == (0))) == false) then Value.bool ((x.kind) != (5)) else undef),fun v _=>v=(bif (true)&&(((((x.kind) == (3))&&((x.slot) == (0))) != (((j:Int)) == (0))) == false) then Value.bool ((x.kind) != (5)) else undef),fun v _=>v=(bif ((true)&&(((((x.kind) == (3))&&((x.slot) == (0))) != (((j:Int)) == (0))) == false))&&(((x.kind) != (5)) == true) then Value.pointer (some ⟨b4,0,none⟩) else undef),fun v _=>v=(bif ((true)&&(((((x.kind) == (3))&&((x.slot) == (0))) != (((j:Int)) == (0))) == false))&&(((x.kind) != (5)) == true) then Value.int .i64 (x.kind) else undef),fun v _=>v=(bif ((true)&&(((((x.kind) == (3))&&((x.slot) == (0))) != (((j:Int)) == (0))) == false))&&(((x.kind) != (5)) == true) then Value.bool ((x.kind) != (6)) else undef),fun v _=>v=(bif (true)&&(((((x.kind) == (3))&&((x.slot) == (0))) != (((j:Int)) == (0))) == false) then Value.bool (((x.kind) != (5))&&((x.kind) != (6))) else undef),fun v _=>v=(bif (true)&&(((((x.kind) == (3))&&((x.slot) == (0))) != (((j:Int)) == (0))) == false) then Value.bool (((x.kind) != (5))&&((x.kind) != (6))) else undef),fun v _=>v=(bif ((true)&&(((((x.kind) == (3))&&((x.slot) == (0))) != (((j:Int)) == (0))) == false))&&((((x.kind) != (5))&&((x.kind) != (6))) == true) then Value.pointer (some ⟨b4,5,none⟩) else undef),fun v _=>v=(bif ((true)&&(((((x.kind) == (3))&&((x.slot) == (0))) != (((j:Int)) == (0))) == false))&&((((x.kind) != (5))&&((x.kind) != (6))) == true) then Value.int .i64 (x.next) else undef),fun v _=>v=(bif ((true)&&(((((x.kind) == (3))&&((x.slot) == (0))) != (((j:Int)) == (0))) == false))&&((((x.kind) != (5))&&((x.kind) != (6))) == true) then Value.bool ((x.next) == (0)) else undef),fun v _=>v=(bif (true)&&(((((x.kind) == (3))&&((x.slot) == (0))) != (((j:Int)) == (0))) == false) then Value.bool ((((x.kind) != (5))&&((x.kind) != (6)))&&((x.next) == (0))) else undef),fun v _=>v=Value.bool (((((x.kind) == (3))&&((x.slot) == (0))) != (((j:Int)) == (0))) || ((((x.kind) != (5))&&((x.kind) != (6)))&&((x.next) == (0)))),fun v _=>v=Value.bool (((((x.kind) == (3))&&((x.slot) == (0))) != (((j:Int)) == (0))) || ((((x.kind) != (5))&&((x.kind) != (6)))&&((x.next) == (0)))),fun v _=>v=(bif (true)&&((((((x.kind) == (3))&&((x.slot) == (0))) != (((j:Int)) == (0))) || ((((x.kind) != (5))&&((x.kind) != (6)))&&((x.next) == (0)))) == false) then Value.pointer (some ⟨b4,0,none⟩) else undef),fun v _=>v=(bif (true)&&((((((x.kind) == (3))&&((x.slot) == (0))) != (((j:Int)) == (0))) || ((((x.kind) != (5))&&((x.kind) != (6)))&&((x.next) == (0)))) == false) then Value.int .i64 (x.kind) else undef),fun v _=>v=(bif (true)&&((((((x.kind) == (3))&&((x.slot) == (0))) != (((j:Int)) == (0))) || ((((x.kind) != (5))&&((x.kind) != (6)))&&((x.next) == (0)))) == false) then Value.bool ((x.kind) == (2)) else undef),fun v _=>v=(bif (true)&&((((((x.kind) == (3))&&((x.slot) == (0))) != (((j:Int)) == (0))) || ((((x.kind) != (5))&&((x.kind) != (6)))&&((x.next) == (0)))) == false) then Value.bool ((x.kind) == (2)) else undef),fun v _=>v=(bif ((true)&&((((((x.kind) == (3))&&((x.slot) == (0))) != (((j:Int)) == (0))) || ((((x.kind) != (5))&&((x.kind) != (6)))&&((x.next) == (0)))) == false))&&(((x.kind) == (2)) == true) then Value.pointer (some ⟨b4,6,none⟩) else undef),fun v _=>v=(bif ((true)&&((((((x.kind) == (3))&&((x.slot) == (0))) != (((j:Int)) == (0))) || ((((x.kind) != (5))&&((x.kind) != (6)))&&((x.next) == (0)))) == false))&&(((x.kind) == (2)) == true) then Value.int .i64 (x.other) else undef),fun v _=>v=(bif ((true)&&((((((x.kind) == (3))&&((x.slot) == (0))) != (((j:Int)) == (0))) || ((((x.kind) != (5))&&((x.kind) != (6)))&&((x.next) == (0)))) == false))&&(((x.kind) == (2)) == true) then Value.bool ((x.other) == (0)) else undef),fun v _=>v=(bif (true)&&((((((x.kind) == (3))&&((x.slot) == (0))) != (((j:Int)) == (0))) || ((((x.kind) != (5))&&((x.kind) != (6)))&&((x.next) == (0)))) == false) then Value.bool (((x.kind) == (2))&&((x.other) == (0))) else undef),fun v _=>v=Value.bool ((((((x.kind) == (3))&&((x.slot) == (0))) != (((j:Int)) == (0))) || ((((x.kind) != (5))&&((x.kind) != (6)))&&((x.next) == (0)))) || (((x.kind) == (2))&&((x.other) == (0))))] (fun _=>false) (by kernel_rfl) (by kernel_rfl) (by repeat (first|exact trivial|refine⟨stable_eq _,?_⟩)) (fun _ _ h=>by cases h) ?ob ?en
   case ob =>
    refine⟨?_,?_,?_,?_,?_,?_,?_,?_,?_,?_,?_,?_,?_,?_,?_,?_,?_,?_,?_,?_,?_,?_,?_,?_,?_,?_,?_,?_,?_,?_,?_,?_,?_,?_,?_,?_,trivial⟩<;>intro A W h
    ·exact rs_pure rfl ((by have e:A.eval (.tmp 4)=Value.pointer (some ⟨b4,0,none⟩):=h.frame 4 rfl;simp only[execOp,e];simp[go_sem])) (by decide)
    ·exact rs_pure rfl (run_load1K rfl (h.dep 0 15 rfl rfl) (by decide +kernel) ((H.call h.below).cell (i:=1) i_1 0)) (by decide)
    ·exact rs_pure rfl ((by have e16:A.eval (.tmp 16)=Value.int .i64 (x.kind):=h.dep 1 16 rfl rfl;simp only[execOp,e16];simp[go_sem])) (by decide)
    ·exact rs_pure rfl (run_cp (.inl rfl) (h.dep 2 17 rfl rfl)) (by decide)
    ·refine sy_if (j:=3) (d:=18) (want:=true) rfl rfl (h.dep 3 18 rfl rfl) (fun hc hb=>?_) (by decide);have hC:=Bool.and_eq_true_iff.2 ⟨hc,beq_iff_eq.2 hb⟩;exact(by have e:A.eval (.tmp 4)=Value.pointer (some ⟨b4,0,none⟩):=h.frame 4 rfl;simp only[execOp,e];simp[go_sem])
    ·refine sy_if (j:=3) (d:=18) (want:=true) rfl rfl (h.dep 3 18 rfl rfl) (fun hc hb=>?_) (by decide);have hC:=Bool.and_eq_true_iff.2 ⟨hc,beq_iff_eq.2 hb⟩;exact run_load1K rfl (bif_at (h.dep 4 19 rfl rfl) hC) one_int ((H.call h.below).cell (i:=1) i_1 7)
    ·refine sy_if (j:=3) (d:=18) (want:=true) rfl rfl (h.dep 3 18 rfl rfl) (fun hc hb=>?_) (by decide);have hC:=Bool.and_eq_true_iff.2 ⟨hc,beq_iff_eq.2 hb⟩;exact(by have e20:A.eval (.tmp 20)=Value.int .i64 (x.slot):=bif_at (h.dep 5 20 rfl rfl) hC;simp only[execOp,e20];simp[go_sem])
    ·exact rs_pure rfl (run_and rfl (h.dep 3 18 rfl rfl) (fun hb2=>bif_at (h.dep 6 21 rfl rfl) (by (first|(rw[hb2];rfl)|simp[hb2])))) (by decide)
    ·exact rs_pure rfl (run_cp (.inl rfl) (h.frame 3 rfl)) (by decide)
    ·exact rs_pure rfl ((by have e23:A.eval (.tmp 23)=Value.int .i64 ((j:Int)):=h.dep 8 23 rfl rfl;simp only[execOp,e23];simp[go_sem])) (by decide)
    ·exact rs_pure rfl ((by have e22:A.eval (.tmp 22)=Value.bool (((x.kind) == (3))&&((x.slot) == (0))):=h.dep 7 22 rfl rfl;have e24:A.eval (.tmp 24)=Value.bool (((j:Int)) == (0)):=h.dep 9 24 rfl rfl;simp only[execOp,e22,e24];generalize (((x.kind) == (3))&&((x.slot) == (0)))=bp;generalize (((j:Int)) == (0))=bq;cases bp<;>cases bq<;>simp[go_sem])) (by decide)
    ·exact rs_pure rfl (run_cp (.inl rfl) (h.dep 10 25 rfl rfl)) (by decide)
    ·refine sy_if (j:=11) (d:=26) (want:=false) rfl rfl (h.dep 11 26 rfl rfl) (fun hc hb=>?_) (by decide);have hC:=Bool.and_eq_true_iff.2 ⟨hc,beq_iff_eq.2 hb⟩;exact(by have e:A.eval (.tmp 4)=Value.pointer (some ⟨b4,0,none⟩):=h.frame 4 rfl;simp only[execOp,e];simp[go_sem])
    ·refine sy_if (j:=11) (d:=26) (want:=false) rfl rfl (h.dep 11 26 rfl rfl) (fun hc hb=>?_) (by decide);have hC:=Bool.and_eq_true_iff.2 ⟨hc,beq_iff_eq.2 hb⟩;exact run_load1K rfl (bif_at (h.dep 12 27 rfl rfl) hC) (by decide +kernel) ((H.call h.below).cell (i:=1) i_1 0)
    ·refine sy_if (j:=11) (d:=26) (want:=false) rfl rfl (h.dep 11 26 rfl rfl) (fun hc hb=>?_) (by decide);have hC:=Bool.and_eq_true_iff.2 ⟨hc,beq_iff_eq.2 hb⟩;exact(by have e28:A.eval (.tmp 28)=Value.int .i64 (x.kind):=bif_at (h.dep 13 28 rfl rfl) hC;simp only[execOp,e28];simp[go_sem])
    ·refine sy_if (j:=11) (d:=26) (want:=false) rfl rfl (h.dep 11 26 rfl rfl) (fun hc hb=>?_) (by decide);have hC:=Bool.and_eq_true_iff.2 ⟨hc,beq_iff_eq.2 hb⟩;exact run_cp (.inl rfl) (bif_at (h.dep 14 29 rfl rfl) hC)
    ·refine sy_if (j:=15) (d:=30) (want:=true) rfl rfl (h.dep 15 30 rfl rfl) (fun hc hb=>?_) (by decide);have hC:=Bool.and_eq_true_iff.2 ⟨hc,beq_iff_eq.2 hb⟩;exact(by have e:A.eval (.tmp 4)=Value.pointer (some ⟨b4,0,none⟩):=h.frame 4 rfl;simp only[execOp,e];simp[go_sem])
    ·refine sy_if (j:=15) (d:=30) (want:=true) rfl rfl (h.dep 15 30 rfl rfl) (fun hc hb=>?_) (by decide);have hC:=Bool.and_eq_true_iff.2 ⟨hc,beq_iff_eq.2 hb⟩;exact run_load1K rfl (bif_at (h.dep 16 31 rfl rfl) hC) (by decide +kernel) ((H.call h.below).cell (i:=1) i_1 0)
    ·refine sy_if (j:=15) (d:=30) (want:=true) rfl rfl (h.dep 15 30 rfl rfl) (fun hc hb=>?_) (by decide);have hC:=Bool.and_eq_true_iff.2 ⟨hc,beq_iff_eq.2 hb⟩;exact(by have e32:A.eval (.tmp 32)=Value.int .i64 (x.kind):=bif_at (h.dep 17 32 rfl rfl) hC;simp only[execOp,e32];simp[go_sem])
    ·refine sy_if (j:=11) (d:=26) (want:=false) rfl rfl (h.dep 11 26 rfl rfl) (fun hc hb=>?_) (by decide);have hC:=Bool.and_eq_true_iff.2 ⟨hc,beq_iff_eq.2 hb⟩;exact run_and rfl (bif_at (h.dep 15 30 rfl rfl) hC) (fun hb2=>bif_at (h.dep 18 33 rfl rfl) (by (first|(rw[hC,hb2];rfl)|(rw[hb2];rfl)|simp[hb2,hC])))
    ·refine sy_if (j:=11) (d:=26) (want:=false) rfl rfl (h.dep 11 26 rfl rfl) (fun hc hb=>?_) (by decide);have hC:=Bool.and_eq_true_iff.2 ⟨hc,beq_iff_eq.2 hb⟩;exact run_cp (.inl rfl) (bif_at (h.dep 19 34 rfl rfl) hC)
    ·refine sy_if (j:=20) (d:=35) (want:=true) rfl rfl (h.dep 20 35 rfl rfl) (fun hc hb=>?_) (by decide);have hC:=Bool.and_eq_true_iff.2 ⟨hc,beq_iff_eq.2 hb⟩;exact(by have e:A.eval (.tmp 4)=Value.pointer (some ⟨b4,0,none⟩):=h.frame 4 rfl;simp only[execOp,e];simp[go_sem])
    ·refine sy_if (j:=20) (d:=35) (want:=true) rfl rfl (h.dep 20 35 rfl rfl) (fun hc hb=>?_) (by decide);have hC:=Bool.and_eq_true_iff.2 ⟨hc,beq_iff_eq.2 hb⟩;exact run_load1K rfl (bif_at (h.dep 21 36 rfl rfl) hC) one_int ((H.call h.below).cell (i:=1) i_1 5)
    ·refine sy_if (j:=20) (d:=35) (want:=true) rfl rfl (h.dep 20 35 rfl rfl) (fun hc hb=>?_) (by decide);have hC:=Bool.and_eq_true_iff.2 ⟨hc,beq_iff_eq.2 hb⟩;exact(by have e37:A.eval (.tmp 37)=Value.int .i64 (x.next):=bif_at (h.dep 22 37 rfl rfl) hC;simp only[execOp,e37];simp[go_sem])
    ·refine sy_if (j:=11) (d:=26) (want:=false) rfl rfl (h.dep 11 26 rfl rfl) (fun hc hb=>?_) (by decide);have hC:=Bool.and_eq_true_iff.2 ⟨hc,beq_iff_eq.2 hb⟩;exact run_and rfl (bif_at (h.dep 20 35 rfl rfl) hC) (fun hb2=>bif_at (h.dep 23 38 rfl rfl) (by (first|(rw[hC,hb2];rfl)|(rw[hb2];rfl)|simp[hb2,hC])))
    ·exact rs_pure rfl (run_or rfl (h.dep 11 26 rfl rfl) (fun hb2=>bif_at (h.dep 24 39 rfl rfl) (by (first|(rw[hb2];rfl)|simp[hb2])))) (by decide)
    ·exact rs_pure rfl (run_cp (.inl rfl) (h.dep 25 40 rfl rfl)) (by decide)
    ·refine sy_if (j:=26) (d:=41) (want:=false) rfl rfl (h.dep 26 41 rfl rfl) (fun hc hb=>?_) (by decide);have hC:=Bool.and_eq_true_iff.2 ⟨hc,beq_iff_eq.2 hb⟩;exact(by have e:A.eval (.tmp 4)=Value.pointer (some ⟨b4,0,none⟩):=h.frame 4 rfl;simp only[execOp,e];simp[go_sem])
    ·refine sy_if (j:=26) (d:=41) (want:=false) rfl rfl (h.dep 26 41 rfl rfl) (fun hc hb=>?_) (by decide);have hC:=Bool.and_eq_true_iff.2 ⟨hc,beq_iff_eq.2 hb⟩;exact run_load1K rfl (bif_at (h.dep 27 42 rfl rfl) hC) (by decide +kernel) ((H.call h.below).cell (i:=1) i_1 0)
    ·refine sy_if (j:=26) (d:=41) (want:=false) rfl rfl (h.dep 26 41 rfl rfl) (fun hc hb=>?_) (by decide);have hC:=Bool.and_eq_true_iff.2 ⟨hc,beq_iff_eq.2 hb⟩;exact(by have e43:A.eval (.tmp 43)=Value.int .i64 (x.kind):=bif_at (h.dep 28 43 rfl rfl) hC;simp only[execOp,e43];simp[go_sem])
    ·refine sy_if (j:=26) (d:=41) (want:=false) rfl rfl (h.dep 26 41 rfl rfl) (fun hc hb=>?_) (by decide);have hC:=Bool.and_eq_true_iff.2 ⟨hc,beq_iff_eq.2 hb⟩;exact run_cp (.inl rfl) (bif_at (h.dep 29 44 rfl rfl) hC)
    ·refine sy_if (j:=30) (d:=45) (want:=true) rfl rfl (h.dep 30 45 rfl rfl) (fun hc hb=>?_) (by decide);have hC:=Bool.and_eq_true_iff.2 ⟨hc,beq_iff_eq.2 hb⟩;exact(by have e:A.eval (.tmp 4)=Value.pointer (some ⟨b4,0,none⟩):=h.frame 4 rfl;simp only[execOp,e];simp[go_sem])
    ·refine sy_if (j:=30) (d:=45) (want:=true) rfl rfl (h.dep 30 45 rfl rfl) (fun hc hb=>?_) (by decide);have hC:=Bool.and_eq_true_iff.2 ⟨hc,beq_iff_eq.2 hb⟩;exact run_load1K rfl (bif_at (h.dep 31 46 rfl rfl) hC) one_int ((H.call h.below).cell (i:=1) i_1 6)
    ·refine sy_if (j:=30) (d:=45) (want:=true) rfl rfl (h.dep 30 45 rfl rfl) (fun hc hb=>?_) (by decide);have hC:=Bool.and_eq_true_iff.2 ⟨hc,beq_iff_eq.2 hb⟩;exact(by have e47:A.eval (.tmp 47)=Value.int .i64 (x.other):=bif_at (h.dep 32 47 rfl rfl) hC;simp only[execOp,e47];simp[go_sem])
    ·refine sy_if (j:=26) (d:=41) (want:=false) rfl rfl (h.dep 26 41 rfl rfl) (fun hc hb=>?_) (by decide);have hC:=Bool.and_eq_true_iff.2 ⟨hc,beq_iff_eq.2 hb⟩;exact run_and rfl (bif_at (h.dep 30 45 rfl rfl) hC) (fun hb2=>bif_at (h.dep 33 48 rfl rfl) (by (first|(rw[hC,hb2];rfl)|(rw[hb2];rfl)|simp[hb2,hC])))
    ·exact rs_pure rfl (run_or rfl (h.dep 26 41 rfl rfl) (fun hb2=>bif_at (h.dep 34 49 rfl rfl) (by (first|(rw[hb2];rfl)|simp[hb2])))) (by decide)
   case en =>
    intro vals W hbw hv _
    have v35:vals 35=_:=hv 35 (by omega)
    simp only[List.take_succ_cons,List.take_zero,List.drop_succ_cons,List.drop_zero,List.drop_nil,List.take_nil,fillAll,Nat.zero_add,Nat.reduceAdd]
    rw[v35]
    clear hv v35
    try simp only[pl]
    try simp only[pl]
    have H:=H.call hbw
    rw[h5.out]
    cases q5 with
    | true =>
     have E:=EN rfl
     clear EN EY
     go_wp2_with (first|fail)
     go_ret
     exact⟨by rw[E.out];rfl,H.below⟩
    | false =>
     have E:=EY rfl
     clear EN EY
     go_wp2_with (first|fail)
     go_roundw
     case rel=>exact⟨j+1,by omega,by go_num,E,H.take 1⟩
     case measure=>simp[intOf];omega
  ·have dj:decide ((j:Int)<(n:Int))=false:=by simp;omega
   have dj2:decide (j<n)=false:=decide_eq_false hlt
   have hjn:j=n:=by omega
   by_cases h0:0<n
   ·have d0:decide ((0:Int)<(n:Int))=true:=by simp;omega
    have d02:decide (0<n)=true:=decide_eq_true h0
    have E:=Lib.hid (show beginsP xs=true from begins_all.2 ⟨fun k hk=>EA.out k (by rw[HN.out]at hk;omega),by rw[HN.out];exact h0⟩)
    clear hjn h0
    go_wp2_with (first|fail)
    go_ret
    exact⟨by rw[E.out];rfl,H.below⟩
   ·have d0:decide ((0:Int)<(n:Int))=false:=by simp;omega
    have d02:decide (0<n)=false:=decide_eq_false h0
    have E:=Lib.hid (show beginsP xs=false by rw[← Bool.not_eq_true,begins_all];intro hh;have:=hh.2;rw[HN.out]at this;omega)
    clear hjn h0
    go_wp2_with (first|fail)
    go_ret
    exact⟨by rw[E.out];rfl,H.below⟩
theorem run_len {p:List InstD} {s:Str} {a:Int} {l:Slots} (h:runP p s a=some l):l.length=slotsP p:=by
 have h0:¬ (a<0∨(s.length:Int)<a∨rightP p=false):=fun hh=>by unfold runP at h;rw[if_pos hh]at h;cases h
 have hr:rightP p=true:=by
  cases hq:rightP p with
  | true=>rfl
  | false=>exact absurd (.inr (.inr hq)) h0
 have d:=runP_dfs (p:=p) (s:=s) (a:=a) (by omega) (by omega) hr
 rw[h]at d
 obtain⟨k,i,hq,_⟩:=d.keeps (Q:=fun e=>e.2.2.length=slotsP p) (fun k i sl hq _ e he=>by
  unfold sucE at he
  simp only at he hq
  split at he
  ·split at he
   ·simp only[List.mem_singleton]at he;subst he;exact hq
   ·cases he
  split at he
  ·simp only[List.mem_cons,List.not_mem_nil,or_false]at he
   rcases he with rfl|rfl<;>exact hq
  split at he
  ·simp only[List.mem_singleton]at he;subst he;simpa using hq
  split at he
  ·split at he
   ·simp only[List.mem_singleton]at he;subst he;exact hq
   ·cases he
  ·cases he) (fun e he=>by rw[(starts_mem he).2.1,List.length_replicate]) rfl
 exact hq
theorem run_right {p:List InstD} {s:Str} {a:Int} {l:Slots} (h:runP p s a=some l):rightP p=true:=by
 cases hq:rightP p with
 | true=>rfl
 | false=>unfold runP at h;rw[if_pos (.inr (.inr hq))]at h;cases h
theorem run_later {p:List InstD} {s:Str} {a b:Int} (h0:0≤a) (h1:a≤b) (h2:b≤s.length) (h:runP p s a=none):runP p s b=none:=by
 cases hq:rightP p with
 | true=>exact later_none hq h0 h1 h2 h
 | false=>unfold runP;rw[if_pos (.inr (.inr hq))]
theorem later_tests (n m:Nat) (a b:Int):((((decide ((300:Int)<(n:Int)) || decide ((200:Int)<(m:Int))) || decide (a<0)) || decide (b<a)) || decide ((m:Int)<b))=false→n≤300∧m≤200∧0≤a∧a≤b∧b≤m:=by
 simp only[Bool.or_eq_false_iff,decide_eq_false_iff_not]
 omega
theorem law_VmLater (pp:Option Addr) (cp:Nat) (ps:List InstD) (psl:Option Addr) (csl:Nat) (L:Str) (at_ later:Int) (Fp Fs:Nat→Prop) (w0:World) (hset:∀ x ∈ ps,SetOk x.set) (hFp:∀ b,Fp b→b<w0.heap.size) (hFs:∀ b,Fs b→b<w0.heap.size) (hp:InstsR Fp pp cp ps w0) (hs:BytesR Fs psl csl L w0) :
  Calls Try.prog 4 #[.slice pp ps.length cp,.slice psl L.length csl,.int .i64 at_,.int .i64 later] w0 fun e w'=>e=.returned (.bool true)∧Below w0.heap.size w0 w':=by
 have hb1:=hp.bound
 have hb2:=hs.bound
 have H:=Hold.insts2 hFp hFs hp hs
 clear hp hs
 obtain⟨n,hn⟩:∃ n,ps.length=n:=⟨_,rfl⟩
 obtain⟨m,hm⟩:∃ m,L.length=m:=⟨_,rfl⟩
 have hbg:=fun w h1 h2=>law_begins pp cp ps Fp w h1 h2
 have hv:=fun a w hL h1 h2 h3 h4=>vm_Run pp cp ps psl csl L a Fp Fs w hset hL h1 h2 h3 h4
 rw[hn,hm]at hv
 rw[hn]at hbg
 have HN:=Lib.hid hn
 have HM:=Lib.hid hm
 rw[hn,hm]
 clear hset hn hm
 obtain⟨q,hqq⟩:∃ q,((((decide ((300:Int)<(n:Int)) || decide ((200:Int)<(m:Int))) || decide (at_<0)) || decide (later<at_)) || decide ((m:Int)<later))=q:=⟨_,rfl⟩
 have HT:=Lib.hid (later_tests n m at_ later)
 have hq:=Lib.hid hqq
 clear hqq
 go_enter Try.func4,Try.ntmps4
 go_upto_region 3 with (first|(go_at_call 7;(with_reducible refine ch (law_awake _) H ?_);clear H;intro w H)|fail)
 refine wp_region_seq 23 [fun v _=>v=.slice pp n cp,fun v _=>v=Value.int .i64 ((n:Int)),fun v _=>v=Value.bool (decide ((300)<((n:Int)))),fun v _=>v=Value.bool (decide ((300)<((n:Int)))),fun v _=>v=(bif (true)&&((decide ((300)<((n:Int)))) == false) then .slice psl m csl else undef),fun v _=>v=(bif (true)&&((decide ((300)<((n:Int)))) == false) then Value.int .i64 ((m:Int)) else undef),fun v _=>v=(bif (true)&&((decide ((300)<((n:Int)))) == false) then Value.bool (decide ((200)<((m:Int)))) else undef),fun v _=>v=Value.bool ((decide ((300)<((n:Int)))) || (decide ((200)<((m:Int))))),fun v _=>v=Value.bool ((decide ((300)<((n:Int)))) || (decide ((200)<((m:Int))))),fun v _=>v=(bif (true)&&(((decide ((300)<((n:Int)))) || (decide ((200)<((m:Int))))) == false) then Value.int .i64 (at_) else undef),fun v _=>v=(bif (true)&&(((decide ((300)<((n:Int)))) || (decide ((200)<((m:Int))))) == false) then Value.bool (decide ((at_)<(0))) else undef),fun v _=>v=Value.bool (((decide ((300)<((n:Int)))) || (decide ((200)<((m:Int))))) || (decide ((at_)<(0)))),fun v _=>v=Value.bool (((decide ((300)<((n:Int)))) || (decide ((200)<((m:Int))))) || (decide ((at_)<(0)))),fun v _=>v=(bif (true)&&((((decide ((300)<((n:Int)))) || (decide ((200)<((m:Int))))) || (decide ((at_)<(0)))) == false) then Value.int .i64 (later) else undef),fun v _=>v=(bif (true)&&((((decide ((300)<((n:Int)))) || (decide ((200)<((m:Int))))) || (decide ((at_)<(0)))) == false) then Value.int .i64 (at_) else undef),fun v _=>v=(bif (true)&&((((decide ((300)<((n:Int)))) || (decide ((200)<((m:Int))))) || (decide ((at_)<(0)))) == false) then Value.bool (decide ((later)<(at_))) else undef),fun v _=>v=Value.bool ((((decide ((300)<((n:Int)))) || (decide ((200)<((m:Int))))) || (decide ((at_)<(0)))) || (decide ((later)<(at_)))),fun v _=>v=Value.bool ((((decide ((300)<((n:Int)))) || (decide ((200)<((m:Int))))) || (decide ((at_)<(0)))) || (decide ((later)<(at_)))),fun v _=>v=(bif (true)&&(((((decide ((300)<((n:Int)))) || (decide ((200)<((m:Int))))) || (decide ((at_)<(0)))) || (decide ((later)<(at_)))) == false) then Value.int .i64 (later) else undef),fun v _=>v=(bif (true)&&(((((decide ((300)<((n:Int)))) || (decide ((200)<((m:Int))))) || (decide ((at_)<(0)))) || (decide ((later)<(at_)))) == false) then .slice psl m csl else undef),fun v _=>v=(bif (true)&&(((((decide ((300)<((n:Int)))) || (decide ((200)<((m:Int))))) || (decide ((at_)<(0)))) || (decide ((later)<(at_)))) == false) then Value.int .i64 ((m:Int)) else undef),fun v _=>v=(bif (true)&&(((((decide ((300)<((n:Int)))) || (decide ((200)<((m:Int))))) || (decide ((at_)<(0)))) || (decide ((later)<(at_)))) == false) then Value.bool (decide (((m:Int))<(later))) else undef),fun v _=>v=Value.bool (((((decide ((300)<((n:Int)))) || (decide ((200)<((m:Int))))) || (decide ((at_)<(0)))) || (decide ((later)<(at_)))) || (decide (((m:Int))<(later))))] (fun _=>false) (by kernel_rfl) (by kernel_rfl) (by repeat (first|exact trivial|refine⟨stable_eq _,?_⟩)) (fun _ _ h=>by cases h) ?ob ?en
 case ob =>
  refine⟨?_,?_,?_,?_,?_,?_,?_,?_,?_,?_,?_,?_,?_,?_,?_,?_,?_,?_,?_,?_,?_,?_,?_,trivial⟩<;>intro A W h
  ·exact rs_pure rfl (run_cp (.inl rfl) (h.frame 0 rfl)) (by decide)
  ·exact rs_pure rfl ((run_lenS Try.underlying35 rfl (h.dep 0 16 rfl rfl))) (by decide)
  ·exact rs_pure rfl ((by have e17:A.eval (.tmp 17)=Value.int .i64 ((n:Int)):=h.dep 1 17 rfl rfl;simp only[execOp,e17];simp[go_sem])) (by decide)
  ·exact rs_pure rfl (run_cp (.inl rfl) (h.dep 2 18 rfl rfl)) (by decide)
  ·refine sy_if (j:=3) (d:=19) (want:=false) rfl rfl (h.dep 3 19 rfl rfl) (fun hc hb=>?_) (by decide);have hC:=Bool.and_eq_true_iff.2 ⟨hc,beq_iff_eq.2 hb⟩;exact run_cp (.inl rfl) (h.frame 1 rfl)
  ·refine sy_if (j:=3) (d:=19) (want:=false) rfl rfl (h.dep 3 19 rfl rfl) (fun hc hb=>?_) (by decide);have hC:=Bool.and_eq_true_iff.2 ⟨hc,beq_iff_eq.2 hb⟩;exact(run_lenS Try.underlying24 rfl (bif_at (h.dep 4 20 rfl rfl) hC))
  ·refine sy_if (j:=3) (d:=19) (want:=false) rfl rfl (h.dep 3 19 rfl rfl) (fun hc hb=>?_) (by decide);have hC:=Bool.and_eq_true_iff.2 ⟨hc,beq_iff_eq.2 hb⟩;exact(by have e21:A.eval (.tmp 21)=Value.int .i64 ((m:Int)):=bif_at (h.dep 5 21 rfl rfl) hC;simp only[execOp,e21];simp[go_sem])
  ·exact rs_pure rfl (run_or rfl (h.dep 3 19 rfl rfl) (fun hb2=>bif_at (h.dep 6 22 rfl rfl) (by (first|(rw[hb2];rfl)|simp[hb2])))) (by decide)
  ·exact rs_pure rfl (run_cp (.inl rfl) (h.dep 7 23 rfl rfl)) (by decide)
  ·refine sy_if (j:=8) (d:=24) (want:=false) rfl rfl (h.dep 8 24 rfl rfl) (fun hc hb=>?_) (by decide);have hC:=Bool.and_eq_true_iff.2 ⟨hc,beq_iff_eq.2 hb⟩;exact run_cp (.inl rfl) (h.frame 2 rfl)
  ·refine sy_if (j:=8) (d:=24) (want:=false) rfl rfl (h.dep 8 24 rfl rfl) (fun hc hb=>?_) (by decide);have hC:=Bool.and_eq_true_iff.2 ⟨hc,beq_iff_eq.2 hb⟩;exact(by have e25:A.eval (.tmp 25)=Value.int .i64 (at_):=bif_at (h.dep 9 25 rfl rfl) hC;simp only[execOp,e25];simp[go_sem])
  ·exact rs_pure rfl (run_or rfl (h.dep 8 24 rfl rfl) (fun hb2=>bif_at (h.dep 10 26 rfl rfl) (by (first|(rw[hb2];rfl)|simp[hb2])))) (by decide)
  ·exact rs_pure rfl (run_cp (.inl rfl) (h.dep 11 27 rfl rfl)) (by decide)
  ·refine sy_if (j:=12) (d:=28) (want:=false) rfl rfl (h.dep 12 28 rfl rfl) (fun hc hb=>?_) (by decide);have hC:=Bool.and_eq_true_iff.2 ⟨hc,beq_iff_eq.2 hb⟩;exact run_cp (.inl rfl) (h.frame 3 rfl)
  ·refine sy_if (j:=12) (d:=28) (want:=false) rfl rfl (h.dep 12 28 rfl rfl) (fun hc hb=>?_) (by decide);have hC:=Bool.and_eq_true_iff.2 ⟨hc,beq_iff_eq.2 hb⟩;exact run_cp (.inl rfl) (h.frame 2 rfl)
  ·refine sy_if (j:=12) (d:=28) (want:=false) rfl rfl (h.dep 12 28 rfl rfl) (fun hc hb=>?_) (by decide);have hC:=Bool.and_eq_true_iff.2 ⟨hc,beq_iff_eq.2 hb⟩;exact(by have e29:A.eval (.tmp 29)=Value.int .i64 (later):=bif_at (h.dep 13 29 rfl rfl) hC;have e30:A.eval (.tmp 30)=Value.int .i64 (at_):=bif_at (h.dep 14 30 rfl rfl) hC;simp only[execOp,e29,e30];simp[go_sem])
  ·exact rs_pure rfl (run_or rfl (h.dep 12 28 rfl rfl) (fun hb2=>bif_at (h.dep 15 31 rfl rfl) (by (first|(rw[hb2];rfl)|simp[hb2])))) (by decide)
  ·exact rs_pure rfl (run_cp (.inl rfl) (h.dep 16 32 rfl rfl)) (by decide)
  ·refine sy_if (j:=17) (d:=33) (want:=false) rfl rfl (h.dep 17 33 rfl rfl) (fun hc hb=>?_) (by decide);have hC:=Bool.and_eq_true_iff.2 ⟨hc,beq_iff_eq.2 hb⟩;exact run_cp (.inl rfl) (h.frame 3 rfl)
  ·refine sy_if (j:=17) (d:=33) (want:=false) rfl rfl (h.dep 17 33 rfl rfl) (fun hc hb=>?_) (by decide);have hC:=Bool.and_eq_true_iff.2 ⟨hc,beq_iff_eq.2 hb⟩;exact run_cp (.inl rfl) (h.frame 1 rfl)
  ·refine sy_if (j:=17) (d:=33) (want:=false) rfl rfl (h.dep 17 33 rfl rfl) (fun hc hb=>?_) (by decide);have hC:=Bool.and_eq_true_iff.2 ⟨hc,beq_iff_eq.2 hb⟩;exact(run_lenS Try.underlying24 rfl (bif_at (h.dep 19 35 rfl rfl) hC))
  ·refine sy_if (j:=17) (d:=33) (want:=false) rfl rfl (h.dep 17 33 rfl rfl) (fun hc hb=>?_) (by decide);have hC:=Bool.and_eq_true_iff.2 ⟨hc,beq_iff_eq.2 hb⟩;exact(by have e34:A.eval (.tmp 34)=Value.int .i64 (later):=bif_at (h.dep 18 34 rfl rfl) hC;have e36:A.eval (.tmp 36)=Value.int .i64 ((m:Int)):=bif_at (h.dep 20 36 rfl rfl) hC;simp only[execOp,e34,e36];simp[go_sem])
  ·exact rs_pure rfl (run_or rfl (h.dep 17 33 rfl rfl) (fun hb2=>bif_at (h.dep 21 37 rfl rfl) (by (first|(rw[hb2];rfl)|simp[hb2])))) (by decide)
 case en =>
  intro vals W hbw hv _
  have v22:vals 22=_:=hv 22 (by omega)
  simp only[List.take_succ_cons,List.take_zero,List.drop_succ_cons,List.drop_zero,List.drop_nil,List.take_nil,fillAll,Nat.zero_add,Nat.reduceAdd]
  rw[v22]
  clear hv v22
  try simp only[pl]
  try simp only[pl]
  have H:=H.call hbw
  rw[hq.out]
  clear hbw
  refine wpList_nil ?_
  cases q with
  | true =>
   go_wp2_with fail
   go_ret
   exact⟨rfl,H.below⟩
  | false =>
   obtain⟨t1,t2,t3,t4,t5⟩:=HT.out hq.out
   have hv1:=fun w=>hv at_ w (by omega)
   have hv2:=fun w=>hv later w (by omega)
   clear hv
   cases h1:runP ps L at_ with
   | none =>
    have h2:=run_later t3 t4 (by rw[HM.out];exact t5) h1
    rw[h1]at hv1
    rw[h2]at hv2
    clear h1 h2 hbg t1 t2 t3 t4 t5
    go_upto_region 6 with (first|(go_at_call 9;refine chRn (hv1 _ (H.knlt (i:=0) .zero) (H.knlt (i:=1) i_1) (H.kn (i:=0) .zero) (H.kn (i:=1) i_1)) H ?_;clear H;intro w H)|fail)
    go_wp2_with (first|(go_at_call 9;refine chRn (hv2 _ (H.knlt (i:=0) .zero) (H.knlt (i:=1) i_1) (H.kn (i:=0) .zero) (H.kn (i:=1) i_1)) H ?_;clear H;intro w H)|fail)
    go_ret
    exact⟨rfl,H.below⟩
   | some l =>
    have hR:=run_right h1
    have hl2:2≤l.length:=by rw[run_len h1];unfold slotsP;omega
    have T345:=Lib.hid (And.intro t3 (And.intro t4 t5))
    rw[h1]at hv1
    have H1:=Lib.hid h1
    have HRR:=Lib.hid hR
    have HL2:=Lib.hid hl2
    clear h1 hR hl2 t1 t2 t3 t4 t5
    go_upto_region 6 with (first|(go_at_call 9;refine chRs (hv1 _ (H.knlt (i:=0) .zero) (H.knlt (i:=1) i_1) (H.kn (i:=0) .zero) (H.kn (i:=1) i_1)) H ?_;clear H;intro q1 n1 F1 w hF1 H;clear hF1;simp only[List.cons_append,List.nil_append]at H)|fail)
    cases hB:beginsP ps with
    | false =>
     rw[hB]at hbg
     clear hB
     cases h2:runP ps L later with
     | none =>
      rw[h2]at hv2
      clear h2
      go_wp2_with (first|(go_at_call 9;refine chRn (hv2 _ (H.knlt (i:=0) .zero) (H.knlt (i:=1) i_1) (H.kn (i:=0) .zero) (H.kn (i:=1) i_1)) H ?_;clear H;intro w H)|(go_at_call 10;(with_reducible refine ch (hbg _ (H.knlt (i:=0) .zero) (H.kn (i:=0) .zero)) H ?_);clear H;intro w H)|fail)
      go_ret
      exact⟨rfl,H.below⟩
     | some l2 =>
      rw[h2]at hv2
      clear h2
      go_wp2_with (first|(go_at_call 9;refine chRs (hv2 _ (H.knlt (i:=0) .zero) (H.knlt (i:=1) i_1) (H.kn (i:=0) .zero) (H.kn (i:=1) i_1)) H ?_;clear H;intro q2 n2 F2 w hF2 H;clear hF2;simp only[List.cons_append,List.nil_append]at H)|(go_at_call 10;(with_reducible refine ch (hbg _ (H.knlt (i:=0) .zero) (H.kn (i:=0) .zero)) H ?_);clear H;intro w H)|fail)
      go_ret
      exact⟨rfl,H.below⟩
    | true =>
     rw[hB]at hbg
     have HB:=Lib.hid hB
     clear hB
     obtain⟨l0,hl0⟩:∃ l0,l.getD 0 0=l0:=⟨_,rfl⟩
     have hg0:l[0]'(by have:=HL2.out;omega)=l0:=by rw[← hl0,List.getD_eq_getElem?_getD,List.getElem?_eq_getElem (by have:=HL2.out;omega)];rfl
     have HC:=Lib.hid (fun b o F c V (h:IntsR F (some ⟨b,o,none⟩) c l V)=>(h.cell (j:=0) (by have:=HL2.out;omega)).trans (by rw[hg0]):∀ b o F c V,IntsR F (some ⟨b,o,none⟩) c l V→V.cell? ⟨b,o+0,none⟩=some (.int .i64 l0))
     have HL0:=Lib.hid hl0
     clear hg0 hl0
     cases h2:runP ps L later with
     | none =>
      have hle:¬ later≤l0:=fun h=>by
       have:=later_same HRR.out HB.out T345.out.1 T345.out.2.1 (by rw[HM.out];exact T345.out.2.2) H1.out (by rw[HL0.out];exact h)
       rw[h2]at this;cases this
      have dle:=Lib.hid (decide_eq_false hle)
      rw[h2]at hv2
      clear h2 hle
      go_upto_region 12 with (first|(go_at_call 9;refine chRn (hv2 _ (H.knlt (i:=0) .zero) (H.knlt (i:=1) i_1) (H.kn (i:=0) .zero) (H.kn (i:=1) i_1)) H ?_;clear H;intro w H)|(go_at_call 10;(with_reducible refine ch (hbg _ (H.knlt (i:=0) .zero) (H.kn (i:=0) .zero)) H ?_);clear H;intro w H)|fail)
      obtain⟨bl,ol,rfl⟩:=(H.kn (i:=2) i_2).at (by have:=HL2.out;omega)
      refine wp_region_seq 5 [fun v _=>v=.int .i64 later,fun v _=>v=.slice (some ⟨bl,ol,none⟩) l.length n1,fun v _=>v=.pointer (some ⟨bl,ol+0,none⟩),fun v _=>v=.int .i64 l0,fun v _=>v=.bool (decide (later≤l0))] (fun _=>false) (by kernel_rfl) (by kernel_rfl) (by repeat (first|exact trivial|refine⟨stable_eq _,?_⟩)) (fun _ _ h=>by cases h) ?ob ?en
      case ob =>
       refine⟨?_,?_,?_,?_,?_,trivial⟩<;>intro A W h
       ·exact rs_move rfl rfl (h.frame 3 rfl) (by decide)
       ·exact rs_move rfl rfl (h.frame 9 rfl) (by decide)
       ·exact rs_idx (i:=0) (sz:=1) Try.underlying41 (fun w=>by kernel_rfl) rfl rfl (h.dep 1 62 rfl rfl) rfl (Nat.lt_of_lt_of_le (by decide) HL2.out) rfl (by decide)
       ·exact rs_pure rfl (run_load1K rfl (h.dep 2 63 rfl rfl) one_int (HC.out _ _ _ _ _ ((H.call h.below).kn (i:=2) i_2))) (by decide)
       ·(have e61:A.eval (.tmp 61)=.int .i64 later:=h.dep 0 61 rfl rfl;have e64:A.eval (.tmp 64)=.int .i64 l0:=h.dep 3 64 rfl rfl;refine rs_pure rfl ?_ (by decide);simp only[execOp,e61,e64];(simp[go_sem]<;>first|done|omega|(rw[IntKind.wrap_i64];omega)|(rw[IntKind.wrap_u8];omega)|(rw[IntKind.wrap_u64];omega)))
      case en =>
       intro vals W hbw hv _
       have v0:vals 0=_:=hv 0 (by omega)
       have v1:vals 1=_:=hv 1 (by omega)
       have v2:vals 2=_:=hv 2 (by omega)
       have v3:vals 3=_:=hv 3 (by omega)
       have v4:vals 4=_:=hv 4 (by omega)
       simp only[List.take_succ_cons,List.take_zero,List.drop_succ_cons,List.drop_zero,List.drop_nil,List.take_nil,fillAll,Nat.zero_add,Nat.reduceAdd]
       rw[v0,v1,v2,v3,v4]
       clear hv v0 v1 v2 v3 v4
       try simp only[pl]
       try simp only[pl]
       have H:=H.call hbw
       clear hbw
       rw[dle.out]
       refine wpList_nil ?_
       go_wp2_with (first|fail)
       go_ret
       exact⟨rfl,H.below⟩
     | some l2 =>
      have hm0:=later_next HRR.out HB.out (by have:=T345.out;omega) (by rw[HM.out];exact T345.out.2.2) h2
      have hm2:2≤l2.length:=by rw[run_len h2];unfold slotsP;omega
      obtain⟨m0,hl20⟩:∃ m0,l2.getD 0 0=m0:=⟨_,rfl⟩
      have hg2:l2[0]'(by omega)=m0:=by rw[← hl20,List.getD_eq_getElem?_getD,List.getElem?_eq_getElem (by omega)];rfl
      have HC2:=Lib.hid (fun b o F c V (h:IntsR F (some ⟨b,o,none⟩) c l2 V)=>(h.cell (j:=0) (by omega)).trans (by rw[hg2]):∀ b o F c V,IntsR F (some ⟨b,o,none⟩) c l2 V→V.cell? ⟨b,o+0,none⟩=some (.int .i64 m0))
      have HLM:=Lib.hid hm2
      rw[hl20]at hm0
      have dge:=Lib.hid (decide_eq_true hm0)
      have HE:=Lib.hid (fun h:later≤l0=>by
       have:=later_same HRR.out HB.out T345.out.1 T345.out.2.1 (by rw[HM.out];exact T345.out.2.2) H1.out (by rw[HL0.out];exact h)
       rw[h2]at this;simpa using this:later≤l0→l2=l)
      rw[h2]at hv2
      clear h2 hm0 hm2 hl20 hg2
      go_upto_region 12 with (first|(go_at_call 9;refine chRs (hv2 _ (H.knlt (i:=0) .zero) (H.knlt (i:=1) i_1) (H.kn (i:=0) .zero) (H.kn (i:=1) i_1)) H ?_;clear H;intro q2 n2 F2 w hF2 H;clear hF2;simp only[List.cons_append,List.nil_append]at H)|(go_at_call 10;(with_reducible refine ch (hbg _ (H.knlt (i:=0) .zero) (H.kn (i:=0) .zero)) H ?_);clear H;intro w H)|fail)
      obtain⟨bl,ol,rfl⟩:=(H.kn (i:=2) i_2).at (by have:=HL2.out;omega)
      obtain⟨bm,om,rfl⟩:=(H.kn (i:=3) i_3).at (by have:=HLM.out;omega)
      refine wp_region_seq 5 [fun v _=>v=.int .i64 later,fun v _=>v=.slice (some ⟨bl,ol,none⟩) l.length n1,fun v _=>v=.pointer (some ⟨bl,ol+0,none⟩),fun v _=>v=.int .i64 l0,fun v _=>v=.bool (decide (later≤l0))] (fun _=>false) (by kernel_rfl) (by kernel_rfl) (by repeat (first|exact trivial|refine⟨stable_eq _,?_⟩)) (fun _ _ h=>by cases h) ?ob ?en
      case ob =>
       refine⟨?_,?_,?_,?_,?_,trivial⟩<;>intro A W h
       ·exact rs_move rfl rfl (h.frame 3 rfl) (by decide)
       ·exact rs_move rfl rfl (h.frame 9 rfl) (by decide)
       ·exact rs_idx (i:=0) (sz:=1) Try.underlying41 (fun w=>by kernel_rfl) rfl rfl (h.dep 1 62 rfl rfl) rfl (Nat.lt_of_lt_of_le (by decide) HL2.out) rfl (by decide)
       ·exact rs_pure rfl (run_load1K rfl (h.dep 2 63 rfl rfl) one_int (HC.out _ _ _ _ _ ((H.call h.below).kn (i:=2) i_2))) (by decide)
       ·(have e61:A.eval (.tmp 61)=.int .i64 later:=h.dep 0 61 rfl rfl;have e64:A.eval (.tmp 64)=.int .i64 l0:=h.dep 3 64 rfl rfl;refine rs_pure rfl ?_ (by decide);simp only[execOp,e61,e64];(simp[go_sem]<;>first|done|omega|(rw[IntKind.wrap_i64];omega)|(rw[IntKind.wrap_u8];omega)|(rw[IntKind.wrap_u64];omega)))
      case en =>
       intro vals W hbw hv _
       have v0:vals 0=_:=hv 0 (by omega)
       have v1:vals 1=_:=hv 1 (by omega)
       have v2:vals 2=_:=hv 2 (by omega)
       have v3:vals 3=_:=hv 3 (by omega)
       have v4:vals 4=_:=hv 4 (by omega)
       simp only[List.take_succ_cons,List.take_zero,List.drop_succ_cons,List.drop_zero,List.drop_nil,List.take_nil,fillAll,Nat.zero_add,Nat.reduceAdd]
       rw[v0,v1,v2,v3,v4]
       clear hv v0 v1 v2 v3 v4
       try simp only[pl]
       try simp only[pl]
       have H:=H.call hbw
       clear hbw
       refine wpList_nil ?_
       by_cases hle:later≤l0
       ·rw[decide_eq_true hle]
        obtain rfl:=HE.out hle
        clear hle HE
        go_wp2_with (first|(go_at_call 11;refine ch (kit_SameI _ _ n1 n2 l2 F1 F2 _ (H.knlt (i:=2) i_2) (H.knlt (i:=3) i_3) (H.kn (i:=2) i_2) (H.kn (i:=3) i_3)) H ?_;clear H;intro w H)|fail)
        go_ret
        exact⟨rfl,H.below⟩
       ·rw[decide_eq_false hle]
        clear hle HE
        go_upto_region 14 with (first|fail)
        refine wp_region_seq 10 [fun v _=>v=.bool true,fun v _=>v=.bool false,fun v _=>v=.bool false,fun v _=>v=.slice (some ⟨bm,om,none⟩) l2.length n2,fun v _=>v=.pointer (some ⟨bm,om+0,none⟩),fun v _=>v=.int .i64 m0,fun v _=>v=.int .i64 later,fun v _=>v=.bool (decide (later≤m0)),fun v _=>v=.bool (decide (later≤m0)),fun v _=>v=.bool (decide (later≤m0))] (fun _=>false) (by kernel_rfl) (by kernel_rfl) (by repeat (first|exact trivial|refine⟨stable_eq _,?_⟩)) (fun _ _ h=>by cases h) ?ob ?en
        case ob =>
         refine⟨?_,?_,?_,?_,?_,?_,?_,?_,?_,?_,trivial⟩<;>intro A W h
         ·exact rs_move rfl rfl (h.frame 12 rfl) (by decide)
         ·(have e72:A.eval (.tmp 72)=.bool true:=h.dep 0 72 rfl rfl;refine rs_pure rfl ?_ (by decide);simp only[execOp,e72];(simp[go_sem]<;>first|done|omega|(rw[IntKind.wrap_i64];omega)|(rw[IntKind.wrap_u8];omega)|(rw[IntKind.wrap_u64];omega)))
         ·exact rs_move rfl rfl (h.dep 1 73 rfl rfl) (by decide)
         ·exact rs_move (wanted_g rfl (yielded_of (d:=74) rfl (h.dep 2 74 rfl rfl))) rfl (h.frame 11 rfl) (by decide)
         ·exact rs_idx (i:=0) (sz:=1) Try.underlying41 (fun w=>by kernel_rfl) (wanted_g rfl (yielded_of (d:=74) rfl (h.dep 2 74 rfl rfl))) rfl (h.dep 3 75 rfl rfl) rfl (Nat.lt_of_lt_of_le (by decide) HLM.out) rfl (by decide)
         ·exact rs_pure (wanted_g rfl (yielded_of (d:=74) rfl (h.dep 2 74 rfl rfl))) (run_load1K rfl (h.dep 4 76 rfl rfl) one_int (HC2.out _ _ _ _ _ ((H.call h.below).kn (i:=3) i_3))) (by decide)
         ·exact rs_move (wanted_g rfl (yielded_of (d:=74) rfl (h.dep 2 74 rfl rfl))) rfl (h.frame 3 rfl) (by decide)
         ·(have e77:A.eval (.tmp 77)=.int .i64 m0:=h.dep 5 77 rfl rfl;have e78:A.eval (.tmp 78)=.int .i64 later:=h.dep 6 78 rfl rfl;refine rs_pure (wanted_g rfl (yielded_of (d:=74) rfl (h.dep 2 74 rfl rfl))) ?_ (by decide);simp only[execOp,e77,e78];(simp[go_sem]<;>first|done|omega|(rw[IntKind.wrap_i64];omega)|(rw[IntKind.wrap_u8];omega)|(rw[IntKind.wrap_u64];omega)))
         ·exact rs_pick rfl rfl (h.dep 2 74 rfl rfl) (h.dep 7 79 rfl rfl) (by decide)
         ·exact rs_assign rfl rfl (h.dep 8 80 rfl rfl) (by decide)
        case en =>
         intro vals W hbw hv _
         have v0:vals 0=_:=hv 0 (by omega)
         have v1:vals 1=_:=hv 1 (by omega)
         have v2:vals 2=_:=hv 2 (by omega)
         have v3:vals 3=_:=hv 3 (by omega)
         have v4:vals 4=_:=hv 4 (by omega)
         have v5:vals 5=_:=hv 5 (by omega)
         have v6:vals 6=_:=hv 6 (by omega)
         have v7:vals 7=_:=hv 7 (by omega)
         have v8:vals 8=_:=hv 8 (by omega)
         have v9:vals 9=_:=hv 9 (by omega)
         simp only[List.take_succ_cons,List.take_zero,List.drop_succ_cons,List.drop_zero,List.drop_nil,List.take_nil,fillAll,Nat.zero_add,Nat.reduceAdd]
         rw[v0,v1,v2,v3,v4,v5,v6,v7,v8,v9]
         clear hv v0 v1 v2 v3 v4 v5 v6 v7 v8 v9
         try simp only[pl]
         try simp only[pl]
         have H:=H.call hbw
         rw[dge.out]
         clear hbw
         go_wp2_with (first|fail)
         go_ret
         exact⟨rfl,H.below⟩
end Go.Proofs.Ytdoflhjhaciepaa
