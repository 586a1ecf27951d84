/-
  The walks of the package set, continued: Fold, Bytes, Ranges, Count.
-/
import Derived.Test.YtkkilngihkdnaaaSet2
import Derived.ChangeKeysEq
namespace Go.Proofs.Ytkkilngihkdnaaa
open Go.RowKit Go.Shelf
attribute [local go_sem] Oper.semAt_some

set_option maxHeartbeats 1000000 in
theorem set_other (b : Nat) (hb : b < 256) (w : World) : Calls Try.prog 52 #[.int .u8 b] w fun e w' => e = .returned (.int .u8 (otherB b : Nat)) ∧ w = w' := by
  have ho : bits .or .u8 (b : Int) 32 = ((b ||| 32 : Nat) : Int) := u8_or_nat b 32 hb (by omega)
  have hx : bits .xor .u8 (b : Int) 32 = ((b ^^^ 32 : Nat) : Int) := u8_xor_nat b 32 hb (by omega)
  obtain ⟨c, hc⟩ : ∃ c, b ||| 32 = c := ⟨_, rfl⟩
  obtain ⟨d, hd⟩ : ∃ d, b ^^^ 32 = d := ⟨_, rfl⟩
  have hr : otherB b = if 97 ≤ c ∧ c ≤ 122 then d else b := by unfold otherB; rw [hc, hd]
  rw [hc] at ho
  rw [hd] at hx
  have HR := Lib.hid hr; clear hr
  have HC := Lib.hid hc; clear hc
  have HD := Lib.hid hd; clear hd
  by_cases h1 : 97 ≤ c
  · have h1' : decide ((97 : Int) ≤ (c : Int)) = true := by simp; omega
    by_cases h2 : c ≤ 122
    · go_enter Try.func52, Try.ntmps52
      go_wp2
      go_ret
      exact ⟨by rw [HR.out, if_pos ⟨h1, h2⟩]; rfl, rfl⟩
    · go_enter Try.func52, Try.ntmps52
      go_wp2
      go_ret
      exact ⟨by rw [HR.out, if_neg (by omega)]; rfl, rfl⟩
  · have h1' : decide ((97 : Int) ≤ (c : Int)) = false := by simp; omega
    go_enter Try.func52, Try.ntmps52
    go_wp2
    go_ret
    exact ⟨by rw [HR.out, if_neg (by omega)]; rfl, rfl⟩

def eqS (u s : Nat → Nat) : Bool := (u 0 == s 0) && (u 1 == s 1) && (u 2 == s 2) && (u 3 == s 3)
theorem eqS_setV {u s : Nat → Nat} (h : eqS u s = true) : setV u = setV s := by
  unfold eqS at h
  simp at h
  obtain ⟨⟨⟨h0, h1⟩, h2⟩, h3⟩ := h
  unfold setV; rw [h0, h1, h2, h3]
theorem run_eqSet (u s : Nat → Nat) (W : World) : (Op.equalIn 10000 39 (.agg #[.int .u64 (u 0), .int .u64 (u 1), .int .u64 (u 2), .int .u64 (u 3)]) (.agg #[.int .u64 (s 0), .int .u64 (s 1), .int .u64 (s 2), .int .u64 (s 3)])).run Try.prog W = .ok (eqS u s) W := by
  have hi : (Try.prog.info? 37).isSome = true := by kernel_rfl
  obtain ⟨i, hi⟩ := Option.isSome_iff_exists.1 hi
  have hu : Try.prog.underlying 37 = some (.int .u64) := by kernel_rfl
  have hc : Try.prog.cellsOf 37 = 1 := by kernel_rfl
  have hst : ∀ (x : Nat → Nat) (k : Nat), k < 4 → ∀ W, (part 37 #[.int .u64 (x 0), .int .u64 (x 1), .int .u64 (x 2), .int .u64 (x 3)] (k * 1)).run Try.prog W = .ok (.int .u64 (x k)) W := by
    intro x k hk W
    rw [Nat.mul_one]
    match k, hk with
    | 0, _ => simp [go_sem]
    | 1, _ => simp [go_sem]
    | 2, _ => simp [go_sem]
    | 3, _ => simp [go_sem]
  rw [run_equalIn_array W 9999 (n := 4) _ _ (by kernel_rfl) hi, hc]
  have hl : List.range 4 = [0, 1, 2, 3] := by decide
  have he : ∀ (a b : Nat), ((a : Int) == (b : Int)) = (a == b) := by intro a b; rw [Bool.eq_iff_iff]; simp; omega
  rw [hl]
  unfold eqS
  simp only [Op.eqItems, Sem.run_bind]
  simp only [hst u 0 (by decide), hst s 0 (by decide), Result.andThen_ok, run_equalIn_int _ _ _ _ _ _ _ hu, he]
  cases u 0 == s 0
  · simp
  simp only [Bool.not_true, Bool.false_eq_true, if_false, Bool.true_and, Sem.run_bind]
  simp only [hst u 1 (by decide), hst s 1 (by decide), Result.andThen_ok, run_equalIn_int _ _ _ _ _ _ _ hu, he]
  cases u 1 == s 1
  · simp
  simp only [Bool.not_true, Bool.false_eq_true, if_false, Bool.true_and, Sem.run_bind]
  simp only [hst u 2 (by decide), hst s 2 (by decide), Result.andThen_ok, run_equalIn_int _ _ _ _ _ _ _ hu, he]
  cases u 2 == s 2
  · simp
  simp only [Bool.not_true, Bool.false_eq_true, if_false, Bool.true_and, Sem.run_bind]
  simp only [hst u 3 (by decide), hst s 3 (by decide), Result.andThen_ok, run_equalIn_int _ _ _ _ _ _ _ hu, he]
  cases u 3 == s 3
  · simp
  simp

theorem Upd.setOld' {M : Nat → Prop} {B : Nat} {X W : World} (h : Upd M B X W) (hB : B ≤ W.heap.size) {b k : Nat} (hb : b < B) (hM : M b) (v : Value) : Upd M B X (W.setCell ⟨b, k, none⟩ v) :=
  h.grown (row := some b) ⟨rfl, rfl, rfl, by simp [World.setCell], fun j _ hj => Below.heap_setCell _ _ _ j (fun e => hj (by rw [e]))⟩ (fun j e => by cases e; exact .inl ⟨hb, hM⟩) hB

/-- a function that holds a range over a function is left with its set from the cell -/
theorem leave_set {fn : Func} {R : Ending → World → Prop} {tmps : Array Value} {D B : Nat} {W : World} {T : TypeId} {u : Nat → Nat}
    (hK : W.heap[D]? = some (.deferred (some []))) (hB : SBox W B T u)
    (hr : ∀ W', SBox W' B T u → (results fn tmps).run Try.prog W' = .ok (setV u) W') (h : R (.returned (setV u)) (W.putObj D (.deferred none))) :
    bodyPostM Fence.wide 9 Try.prog fn R .ret { tmps := tmps, defers := [{ target := .collected D, args := #[] }] } W :=
  ⟨by simp, .inl ⟨_, _, rfl, run_takeDeferred hK, _, hr _ ((Idle.of_putObj (B := 0) _ hK rfl (Nat.zero_le _)).cells _ _ _ _ hB), h⟩⟩
theorem keeps_set4 {W : World} {B D : Nat} {o : Obj} (hK : W.heap[D]? = some o) (hne : D ≠ B) (v0 v1 v2 v3 : Value) :
    ((((W.setCell ⟨B, 0, none⟩ v0).setCell ⟨B, 1, none⟩ v1).setCell ⟨B, 2, none⟩ v2).setCell ⟨B, 3, none⟩ v3).heap[D]? = some o := by
  rw [Below.heap_setCell _ _ _ _ hne, Below.heap_setCell _ _ _ _ hne, Below.heap_setCell _ _ _ _ hne, Below.heap_setCell _ _ _ _ hne]; exact hK

set_option maxRecDepth 100000 in
set_option maxHeartbeats 4000000 in
theorem set_Fold (s : Nat → Nat) (hs : SetOk s) (w : World) : Calls Try.prog 34 #[setV s] w fun e w' => e = .returned (setV (foldF s (bytesS s))) ∧ Below w.heap.size w w' := by
  refine calls_of_wide ?_
  rw [show setV s = .agg #[.int .u64 (s 0), .int .u64 (s 1), .int .u64 (s 2), .int .u64 (s 3)] from rfl]
  refine callsIn_of_wp_marks Try.func34 rfl trivial ?_ rfl
  simp only [Try.ntmps34, List.size_toArray, List.length_cons, List.length_nil, Nat.reduceAdd, Nat.reduceSub, Array.replicate_succ, Array.replicate_zero, List.push_toArray, List.append_toArray, List.nil_append, List.cons_append]
  gi_wp2_with fail
  have b1 : SBox (((w.alloc (.cells (setC s) 39)).alloc (.cells (setC emptyS) 39)).alloc (.cells (setC s) 39)) w.heap.size 39 s := ((SBox.new w _ s).alloc _).alloc _
  have b2 : SBox (((w.alloc (.cells (setC s) 39)).alloc (.cells (setC emptyS) 39)).alloc (.cells (setC s) 39)) (w.heap.size + 1) 39 emptyS := by
    have := (SBox.new (w.alloc (.cells (setC s) 39)) 39 emptyS).alloc (.cells (setC s) 39)
    rwa [World.size_alloc] at this
  have b3 : SBox (((w.alloc (.cells (setC s) 39)).alloc (.cells (setC emptyS) 39)).alloc (.cells (setC s) 39)) (w.heap.size + 1 + 1) 39 s := by
    have := SBox.new ((w.alloc (.cells (setC s) 39)).alloc (.cells (setC emptyS) 39)) 39 s
    rwa [World.size_alloc, World.size_alloc] at this
  have bel : Below w.heap.size w (((w.alloc (.cells (setC s) 39)).alloc (.cells (setC emptyS) 39)).alloc (.cells (setC s) 39)) := (((Below.refl _ w).alloc (Nat.le_refl _) _).alloc (by simp) _).alloc (by simp; omega) _
  refine ⟨trivial, (callsIn_wide.2 (set_all s _)).mono ?_⟩
  rintro e w1 ⟨Bs, rfl, hBs, bS, bel1⟩
  have c1 := b1.below bel1 b1.lt
  have c2 := b2.below bel1 b2.lt
  have c3 := b3.below bel1 b3.lt
  have bel2 := bel.trans (bel1.mono bel.size)
  have hsz := bel1.size
  clear b1 b2 b3 bel bel1
  simp at hBs hsz
  gi_wp2_with fail
  refine wp_range (set_all_iter w1 s hs Bs bS) rfl (enters_of Try.func80 (by kernel_rfl) rfl) (fun _ => rfl)
    (fun k => k = w.heap.size + 1 + 1) ?_
    (fun pre W => SBox W (w.heap.size + 1 + 1) 39 (foldF s pre)) (fun _ _ _ => False)
    (fun s W W' h h1 => h1.below h.below (by omega)) (fun _ _ _ _ _ h => h)
    c3 ?a1 ?assign ?body ?done ?stop
  · rintro k rfl
    exact ⟨bS.lt, by omega⟩
  case assign =>
    intro l x W K hK
    gi_wp2
    exact hK
  case body =>
    rintro l pre x W hkb hb hmem hlen
    obtain ⟨n, hn, rfl, _⟩ := bytesS_mem hmem
    have hS := foldF_ok pre hs
    have hnx := foldF_snoc s pre (n : Int)
    have hWs := hkb.size
    have Hnx := Lib.hid hnx; clear hnx hmem hlen
    generalize foldF s pre = S at hb hS Hnx
    have k0 := hb.cell (k := 0) (by omega); have k1 := hb.cell (k := 1) (by omega); have k2 := hb.cell (k := 2) (by omega); have k3 := hb.cell (k := 3) (by omega)
    gi_wp2_with fail
    have rd1 : Rd ((W.alloc (.cells #[.int .u8 (otherB n : Nat)] 5)).drew) ((W.alloc (.cells #[.int .u8 (otherB n : Nat)] 5)).drew).heap.size (.slice (some ⟨W.heap.size, 0, none⟩) 1 1) [.int .u8 (otherB n : Nat)] := by
      have h1 := Rd.lit W [.int .u8 (otherB n : Nat)] 5 (0, 0) (by simp [maxLen])
      have h2 := h1.below (w' := (W.alloc (.cells #[.int .u8 (otherB n : Nat)] 5)).drew) (Below.refl _ _).drew
      exact h2.up (by show _ ≤ (W.alloc _).heap.size; rw [World.size_alloc]; exact Nat.le_refl _)
    have bl1 : Below W.heap.size W ((W.alloc (.cells #[.int .u8 (otherB n : Nat)] 5)).drew) := ((Below.refl _ W).alloc (Nat.le_refl _) _).drew
    have hs1 : ((W.alloc (.cells #[.int .u8 (otherB n : Nat)] 5)).drew).heap.size = W.heap.size + 1 := by show (W.alloc _).heap.size = _; rw [World.size_alloc]
    have ho := otherB_lt hn
    have hnx2 : foldF s (pre ++ [(n : Int)]) = unionS [S, ofS [(otherB n : Int)]] := by have := Hnx.out; simpa using this
    have Hnx2 := Lib.hid hnx2; clear hnx2
    have hO := ofS_ok [(otherB n : Int)]
    have hOb : ∀ x ∈ [(otherB n : Int)], 0 ≤ x ∧ x ≤ 255 := by intro x hx; simp at hx; subst hx; omega
    have HRD := Lib.hid rd1; clear rd1
    have HS1 := Lib.hid hs1; clear hs1
    have HOB := Lib.hid hOb; clear hOb
    clear Hnx
    obtain ⟨O, hOe⟩ : ∃ O, ofS [(otherB n : Int)] = O := ⟨_, rfl⟩
    rw [hOe] at hO
    have HOE := Lib.hid hOe; clear hOe
    have HSz := Lib.hid hs; have HSS := Lib.hid hS; have HOO := Lib.hid hO; clear hO hS
    have hba := hb.alloc (.cells #[.int .u8 (otherB n : Nat)] 5)
    have ka0 := hba.cell (k := 0) (by omega); have ka1 := hba.cell (k := 1) (by omega); have ka2 := hba.cell (k := 2) (by omega); have ka3 := hba.cell (k := 3) (by omega)
    clear hba
    have hne : w.heap.size + 1 + 1 ≠ W.heap.size := by omega
    have hso : ∀ t ∈ [S, O], SetOk t := by
      intro t ht
      simp at ht
      rcases ht with h | h
      · rw [h]; exact HSS.out
      · rw [h]; exact HOO.out
    have HSO := Lib.hid hso; clear hso
    have hb' := Lib.hid hb; clear hb
    gi_region_with (first
      | (refine ⟨trivial, ?_⟩; gi_at_call 52; refine (CallsIn.inRound l (callsIn_wide.2 (set_other n hn _))).mono ?_; rintro e w' ⟨rfl, rfl⟩)
      | (refine ⟨trivial, ?_⟩; gi_at_call 24; refine (CallsIn.inRound l (callsIn_wide.2 (set_Of _ [(otherB n : Int)] HOB.out _ HRD.out))).mono ?_; rintro e w2 ⟨rfl, bl2⟩; rw [HOE.out, show setV O = .agg #[.int .u64 (O 0), .int .u64 (O 1), .int .u64 (O 2), .int .u64 (O 3)] from rfl]; have bl3 := bl1.trans (bl2.mono (by rw [HS1.out]; omega)); have hb2 := hb'.out.below bl3 hb'.out.lt; have m0 := hb2.cell (k := 0) (by omega); have m1 := hb2.cell (k := 1) (by omega); have m2 := hb2.cell (k := 2) (by omega); have m3 := hb2.cell (k := 3) (by omega); have hsz2 := bl2.size; rw [HS1.out] at hsz2)
      | (refine ⟨trivial, ?_⟩; gi_at_call 28; have rdu := RdS.lit w2 [S, O] 39 (by simp [maxLen]); refine (CallsIn.inRound l (callsIn_wide.2 (set_Union (.slice (some ⟨w2.heap.size, 0, none⟩) 2 2) [S, O] HSO.out _ (rdu.up (by rw [World.size_alloc]; omega))))).mono ?_; rintro e w3 ⟨rfl, bl4⟩; clear m0 m1 m2 m3; have bl5 := bl3.trans (((Below.refl w2.heap.size w2).alloc (Nat.le_refl _) _).trans (bl4.mono (by simp)) |>.mono (by omega)); have hb3 := hb'.out.below bl5 hb'.out.lt; have u0 := hb3.cell (k := 0) (by omega); have u1 := hb3.cell (k := 1) (by omega); have u2 := hb3.cell (k := 2) (by omega); have u3 := hb3.cell (k := 3) (by omega); have g0 := hb3.frozen 0; have g1 := hb3.frozen 1; have g2 := hb3.frozen 2; have g3 := hb3.frozen 3; rw [show setV (unionS [S, O]) = .agg #[.int .u64 (unionS [S, O] 0), .int .u64 (unionS [S, O] 1), .int .u64 (unionS [S, O] 2), .int .u64 (unionS [S, O] 3)] from rfl]))
    all_goals
      gi_wp2
      refine ⟨((((((Upd.refl (fun k => k = w.heap.size + 1 + 1) w1.heap.size W).call bl5 hWs).setOld' (by have := bl5.size; omega) (by omega) rfl _).setOld' (by simp [World.setCell]; have := bl5.size; omega) (by omega) rfl _).setOld' (by simp [World.setCell]; have := bl5.size; omega) (by omega) rfl _).setOld' (by simp [World.setCell]; have := bl5.size; omega) (by omega) rfl _), ?_⟩
      show SBox _ _ _ (foldF s (pre ++ [(n : Int)]))
      rw [Hnx2.out, HOE.out]
      exact hb3.set4 (unionS [S, O])
  case done =>
    rintro D W hD hkb hb hK
    have hc1 := hkb.old w.heap.size (by omega) (by omega)
    have hc2 := hkb.old (w.heap.size + 1) (by omega) (by omega)
    have a1 : SBox W w.heap.size 39 s := hc1.trans c1
    have a2 : SBox W (w.heap.size + 1) 39 emptyS := hc2.trans c2
    have bel5 := bel2.trans (hkb.below bel2.size (fun k hk => by omega))
    clear hc1 hc2 c1 c2 c3 bS
    obtain ⟨u, hu⟩ : ∃ u, foldF s (bytesS s) = u := ⟨_, rfl⟩
    rw [hu] at hb
    have HU := Lib.hid hu; clear hu
    have p0 := a1.cell (k := 0) (by omega); have p1 := a1.cell (k := 1) (by omega); have p2 := a1.cell (k := 2) (by omega); have p3 := a1.cell (k := 3) (by omega)
    have q0 := hb.cell (k := 0) (by omega); have q1 := hb.cell (k := 1) (by omega); have q2 := hb.cell (k := 2) (by omega); have q3 := hb.cell (k := 3) (by omega)
    have d0 := a2.cell (k := 0) (by omega); have d1 := a2.cell (k := 1) (by omega); have d2 := a2.cell (k := 2) (by omega); have d3 := a2.cell (k := 3) (by omega)
    have f0 := a2.frozen 0; have f1 := a2.frozen 1; have f2 := a2.frozen 2; have f3 := a2.frozen 3
    have heq : ∀ W, (Op.equalIn 10000 39 (.agg #[.int .u64 (u 0), .int .u64 (u 1), .int .u64 (u 2), .int .u64 (u 3)]) (.agg #[.int .u64 (s 0), .int .u64 (s 1), .int .u64 (s 2), .int .u64 (s 3)])).run Try.prog W = .ok (eqS u s) W := run_eqSet u s
    cases hq : eqS u s with
    | true =>
      rw [hq] at heq
      have hv := eqS_setV hq
      clear hq
      have HV := Lib.hid hv; clear hv
      gi_wp2
      have hK4 := keeps_set4 hK (B := w.heap.size + 1) (by omega) (.int .u64 (s 0)) (.int .u64 (s 1)) (.int .u64 (s 2)) (.int .u64 (s 3))
      have hb4 := a2.set4 s
      refine leave_set hK4 hb4 (fun W' hW' => ?_) ⟨?_, ?_⟩
      · have e0 := hW'.cell (k := 0) (by omega); have e1 := hW'.cell (k := 1) (by omega); have e2 := hW'.cell (k := 2) (by omega); have e3 := hW'.cell (k := 3) (by omega)
        unfold setV
        simp [results, Try.results34, go_sem, e0, e1, e2, e3]
      · rw [← HV.out, HU.out]
      · exact (below_set4 bel5 (by omega) _ _ _ _).trans (Idle.of_putObj _ hK4 rfl (by omega)).below
    | false =>
      rw [hq] at heq
      clear hq
      gi_wp2
      have hK4 := keeps_set4 hK (B := w.heap.size + 1) (by omega) (.int .u64 (u 0)) (.int .u64 (u 1)) (.int .u64 (u 2)) (.int .u64 (u 3))
      have hb4 := a2.set4 u
      refine leave_set hK4 hb4 (fun W' hW' => ?_) ⟨?_, ?_⟩
      · have e0 := hW'.cell (k := 0) (by omega); have e1 := hW'.cell (k := 1) (by omega); have e2 := hW'.cell (k := 2) (by omega); have e3 := hW'.cell (k := 3) (by omega)
        unfold setV
        simp [results, Try.results34, go_sem, e0, e1, e2, e3]
      · rw [HU.out]
      · exact (below_set4 bel5 (by omega) _ _ _ _).trans (Idle.of_putObj _ hK4 rfl (by omega)).below
  case stop =>
    rintro D c pre W _ _ _ h _
    exact h.elim

end Go.Proofs.Ytkkilngihkdnaaa
