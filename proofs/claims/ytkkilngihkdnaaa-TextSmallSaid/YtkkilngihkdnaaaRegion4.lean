/-
  A region that DRAWS ITS ORDER, by a word on each value, with any relation on worlds that goes on.
-/
import Derived.Test.YtkkilngihkdnaaaRegion3
namespace Go.Proofs.Ytkkilngihkdnaaa
open Go.RowKit

structure RCtxR (l : List Oper) (Ss : Nat → Value → World → Prop) (R : World → World → Prop) (a0 : Act) (w0 : World) (o : Oper) (a : Act) (w : World) : Prop where
  rel : R w0 w
  frame : ∀ t, l.any (fun o => o.dst == some t) = false → a.eval (.tmp t) = a0.eval (.tmp t)
  dep : ∀ j d, o.after.toList.any (fun e => Region.binds .any e && e.on == j) = true → (l[j]?).bind (·.dst) = some d → Ss j (a.eval (.tmp d)) w

theorem wp_region_specRD {P : Program} {id : Nat} {Q : Exit → Act → World → Prop} {a0 : Act} {w0 : World} {l : List Oper} (R : World → World → Prop) (htrans : ∀ u v w, R u v → R v w → R u w) (hrefl : ∀ w, R w w) (hdrew : ∀ w : World, R w { w with drawn := w.drawn + 1 }) (n : Nat) (Ss : Nat → Value → World → Prop)
    (hm : P.follows .mixedOrders = true) (hB : specB l.toArray n = true) (hsz : (l.take n).all (fun o => match o.dst with | some d => decide (d < a0.tmps.size) | none => true) = true)
    (hst : ∀ i, i < n → ∀ v w w', Ss i v w → R w w' → Ss i v w')
    (hstep : ∀ i o, i < n → l[i]? = some o → ∀ a w, RCtxR (l.take n) Ss R a0 w0 o a w → QStep P l.toArray R o a w (Ss i))
    (hend : ∀ vals w, R w0 w → (∀ i, i < n → Ss i (vals i) w) → wpList P l.toArray Q (l.drop n) (fillAll (l.take n) 0 vals a0) w) :
    (Code.region id l.toArray true).wp P Q a0 w0 := by
  simp only [specB, Bool.and_eq_true, decide_eq_true_eq] at hB
  obtain ⟨⟨⟨⟨hn, hd⟩, haf⟩, hsink⟩, hseq⟩ := hB
  have hn' : n ≤ l.length := by simpa using hn
  have hd' : dstsB (l.take n) = true := hd
  have htl : (l.take n).length = n := by simp; omega
  have key : ∀ (rem : List Nat) (f : Nat), rem.length = f → rem.Nodup → ∀ (listed : Array Bool) (a : Act) (w : World), HeadInv .any l.toArray n listed →
      (∀ i, i ∈ rem ↔ (i < n ∧ listed.getD i true = false)) → (∃ vals, a = fill (l.take n) 0 listed vals a0 ∧ (∀ i, i < n → listed.getD i false = true → Ss i (vals i) w)) → R w0 w →
      wpAny P .any l.toArray Q (f + (l.toArray.size - n)) listed a w := by
    intro rem f
    induction f generalizing rem with
    | zero =>
      intro hl _ listed a w inv hrem ⟨vals, ha, hv⟩ hb
      have hr : rem = [] := List.length_eq_zero_iff.1 hl
      subst hr
      have hall : ∀ i, i < n → listed.getD i false = true := by
        intro i hi
        have h1 : ¬ listed.getD i true = false := fun h => by have := (hrem i).2 ⟨hi, h⟩; simp at this
        have h2 : i < listed.size := by rw [inv.size]; omega
        rw [Array.getD_eq_getD_getElem?, Array.getElem?_eq_getElem h2] at h1 ⊢
        simpa using h1
      have hlist := listed_head hn inv hall
      have hw := hend vals w hb (fun i hi => hv i hi (hall i hi))
      rw [← fill_all (l.take n) 0 listed vals a0 (fun i hi => by rw [Nat.zero_add]; exact hall i (by omega)), ← ha] at hw
      rw [Nat.zero_add]
      have hdl : (l.drop n).length = l.toArray.size - n := by simp
      rw [← hdl]
      refine wpAny_of_seq (l.drop n) n listed a w (fun j => by simp) ?_ hw
      rw [hdl, hlist]; exact hseq
    | succ f ih =>
      intro hl hnd listed a w inv hrem ⟨vals, ha, hv⟩ hb
      -- the least that is not listed is ready
      have hex : ∃ i, i ∈ rem ∧ ∀ j, j ∈ rem → i ≤ j := by
        have : ∀ (r : List Nat), r ≠ [] → ∃ i, i ∈ r ∧ ∀ j, j ∈ r → i ≤ j := by
          intro r
          induction r with
          | nil => intro h; exact (h rfl).elim
          | cons x r ihr =>
            intro _
            by_cases hr : r = []
            · subst hr; exact ⟨x, by simp, by simp⟩
            · obtain ⟨i, hi, hmin⟩ := ihr hr
              by_cases hx : x ≤ i
              · exact ⟨x, by simp, fun j hj => by rcases List.mem_cons.1 hj with rfl | hj; exact Nat.le_refl _; exact Nat.le_trans hx (hmin j hj)⟩
              · exact ⟨i, by simp [hi], fun j hj => by rcases List.mem_cons.1 hj with rfl | hj; omega; exact hmin j hj⟩
        exact this rem (by intro h; subst h; simp at hl)
      have hready : Region.ready .any l.toArray listed ≠ [] := by
        obtain ⟨i, hi, hmin⟩ := hex
        obtain ⟨hin, hil⟩ := (hrem i).1 hi
        have hlt : i < l.length := by omega
        have hmem : i ∈ Region.ready .any l.toArray listed := by
          refine mem_ready.2 ⟨hil, l[i], by simp [hlt], fun e he hbd => ?_⟩
          have h1 := List.all_eq_true.1 haf (l[i], i) (by
            rw [List.mem_zipIdx_iff_getElem?]; simp [hin, hlt])
          have h2 := Array.all_eq_true'.1 h1 e he
          simp [hbd] at h2
          have hj : ¬ e.on ∈ rem := fun h => by have := hmin _ h; omega
          have h3 : ¬ listed.getD e.on true = false := fun h => hj ((hrem _).2 ⟨by omega, h⟩)
          have h4 : e.on < listed.size := by rw [inv.size]; simp; omega
          rw [Array.getD_eq_getD_getElem?, Array.getElem?_eq_getElem h4] at h3 ⊢
          simpa using h3
        intro h; rw [h] at hmem; simp at hmem
      rw [show f + 1 + (l.toArray.size - n) = (f + (l.toArray.size - n)) + 1 from by omega]
      refine ⟨fun h => (hready h).elim, fun i hi => ?_⟩
      obtain ⟨hil, o, ho, haft⟩ := mem_ready.1 hi
      have hin : i < n := by
        rcases Nat.lt_or_ge i n with h | h
        · exact h
        · exfalso
          obtain ⟨i', hi', _⟩ := hex
          obtain ⟨hin', hil'⟩ := (hrem i').1 hi'
          have hisz : i < l.toArray.size := (Array.getElem?_eq_some_iff.1 ho).1
          simp only [Bool.or_eq_true, decide_eq_true_eq, Bool.and_eq_true] at hsink
          rcases hsink with h0 | ⟨hs, hc⟩
          · omega
          · exact tail_waits hs hc (by omega) inv (n - i') i' rfl hin' hil' i h hi
      have ho' : l[i]? = some o := by simpa using ho
      have hot : (l.take n)[i]? = some o := by rw [List.getElem?_take_of_lt hin]; exact ho'
      obtain ⟨d, hod⟩ : ∃ d, o.dst = some d := by
        have : ∀ (r : List Oper) (j : Nat), dstsB r = true → r[j]? = some o → ∃ d, o.dst = some d := by
          intro r
          induction r with
          | nil => intro j _ h; simp at h
          | cons x r ihr =>
            intro j hdd h
            simp only [dstsB, Bool.and_eq_true] at hdd
            cases j with
            | zero => simp at h; subst h; exact Option.isSome_iff_exists.1 hdd.1.1
            | succ j => exact ihr j hdd.2 (by simpa using h)
        exact this _ i hd' hot
      have hbd : ∀ (j : Nat) (oj : Oper) (dj : Tmp), (l.take n)[j]? = some oj → oj.dst = some dj → dj < a0.tmps.size := by
        intro j oj dj hj hdj
        have := List.all_eq_true.1 hsz oj (List.mem_of_getElem? hj)
        simpa [hdj] using this
      have hctx : RCtxR (l.take n) Ss R a0 w0 o a w := by
        refine ⟨hb, fun t ht => by rw [ha]; exact fill_frame _ _ _ _ _ t ht, fun j dj hj hdj => ?_⟩
        obtain ⟨e, he, hbe⟩ := List.any_eq_true.1 hj
        simp only [Bool.and_eq_true, beq_iff_eq] at hbe
        have hlj := haft e (Array.mem_toList_iff.1 he) hbe.1
        rw [hbe.2] at hlj
        obtain ⟨oj, hoj, hdj'⟩ := Option.bind_eq_some_iff.1 hdj
        have hjn : j < n := by have := (List.getElem?_eq_some_iff.1 hoj).1; omega
        rw [ha, fill_at _ 0 listed vals a0 j oj dj hd' hoj hdj' (hbd j oj dj hoj hdj') (by rw [Nat.zero_add]; exact hlj), Nat.zero_add]
        exact hv j hjn hlj
      have hstep' := hstep i o hin ho' a w hctx
      have hnext : ∀ v w', R w w' → Ss i v w' → wpAny P .any l.toArray Q (f + (l.toArray.size - n)) (listed.setIfInBounds i true) (a.put o.dst v) w' := by
        intro v w' hbw hsv
        have hmemi : i ∈ rem := (hrem i).2 ⟨hin, hil⟩
        refine ih (rem.erase i) (by rw [List.length_erase_of_mem hmemi, hl]; rfl) (hnd.erase i) _ _ w' (inv.set hi hin) (fun j => ?_) ⟨fun j => if j = i then v else vals j, ?_, fun j hj hlj => ?_⟩ (htrans _ _ _ hb hbw)
        · rw [hnd.mem_erase_iff, hrem j]
          by_cases hji : j = i
          · subst hji
            have hjs : j < listed.size := by rw [inv.size]; simp; omega
            simp [hjs]
          · rw [getD_set_ne true (fun e => hji e.symm)]
            simp [hji]
        · have := fill_set (l.take n) 0 i listed vals a0 o d v hd' hot hod (by rw [Nat.zero_add]; exact hil)
          rw [Nat.zero_add] at this
          rw [this, ← ha, hod]
        · by_cases hji : j = i
          · subst hji; simpa using hsv
          · show Ss j (if j = i then v else vals j) w'
            rw [if_neg hji]
            rw [getD_set_ne false (fun e => hji e.symm)] at hlj
            exact hst j hj _ _ _ (hv j hj hlj) hbw
      unfold wpOp
      simp only [ho]
      unfold QStep at hstep'
      split
      · rename_i hw
        rw [if_pos hw] at hstep'
        refine .inl (wpQ_mono (Oper.wp_mono (fun a' w' ⟨v, e, hbw, hsv⟩ => ?_) hstep'))
        subst e
        exact hnext v w' hbw hsv
      · rename_i hw
        rw [if_neg hw] at hstep'
        exact hnext undef w (hrefl w) hstep'
  refine wp_region_any hm ?_
  have h0 := key (List.range n) n (by simp) List.nodup_range (Array.replicate l.toArray.size false) a0 { w0 with drawn := w0.drawn + 1 }
    ⟨by simp, fun j oj _ hl => (by rw [getD_replicate_false] at hl; cases hl), fun t _ ht => getD_in (by simpa using ht) (getD_replicate_false _ _)⟩
    (fun i => by
      rw [List.mem_range]
      constructor
      · intro h; exact ⟨h, getD_in (by simp; omega) (getD_replicate_false _ _)⟩
      · intro h; exact h.1)
    ⟨fun _ => undef, (fill_none _ _ _ _ _ (fun i => getD_replicate_false _ _)).symm, fun i _ h => (by rw [getD_replicate_false] at h; cases h)⟩
    (hdrew w0)
  rw [show n + (l.toArray.size - n) = l.toArray.size from by omega] at h0
  exact h0


def OblR (P : Program) (l hd : List Oper) (R : World → World → Prop) (L : List (Value → World → Prop)) (a0 : Act) (w0 : World) : List Oper → Nat → Prop
  | [], _ => True
  | o :: r, i => (∀ a w, RCtxR hd (lookS L) R a0 w0 o a w → QStep P l.toArray R o a w (lookS L i)) ∧ OblR P l hd R L a0 w0 r (i + 1)
theorem OblR.get {P : Program} {l hd : List Oper} {R : World → World → Prop} {L : List (Value → World → Prop)} {a0 : Act} {w0 : World} : ∀ (r : List Oper) (k : Nat), OblR P l hd R L a0 w0 r k → ∀ i o, r[i]? = some o →
    ∀ a w, RCtxR hd (lookS L) R a0 w0 o a w → QStep P l.toArray R o a w (lookS L (k + i))
  | [], _, _, _, _, h => by simp at h
  | o :: r, k, h, 0, o', h' => by simp at h'; subst h'; exact h.1
  | o :: r, k, h, i + 1, o', h' => by
    have := OblR.get r (k + 1) h.2 i o' (by simpa using h')
    rwa [show k + 1 + i = k + (i + 1) from by omega] at this
theorem wp_region_specR {P : Program} {id : Nat} {Q : Exit → Act → World → Prop} {a0 : Act} {w0 : World} {l : List Oper} (R : World → World → Prop) (hrefl : ∀ w, R w w) (htrans : ∀ u v w, R u v → R v w → R u w) (hdrew : ∀ w : World, R w { w with drawn := w.drawn + 1 }) (n : Nat) (L : List (Value → World → Prop)) (hst : AllStableR R L)
    (hm : P.follows .mixedOrders = true) (hB : specB l.toArray n = true) (hsz : (l.take n).all (fun o => match o.dst with | some d => decide (d < a0.tmps.size) | none => true) = true)
    (hstep : OblR P l (l.take n) R L a0 w0 (l.take n) 0)
    (hend : ∀ vals w, R w0 w → (∀ i, i < n → lookS L i (vals i) w) → wpList P l.toArray Q (l.drop n) (fillAll (l.take n) 0 vals a0) w) :
    (Code.region id l.toArray true).wp P Q a0 w0 :=
  wp_region_specRD R htrans hrefl hdrew n (lookS L) hm hB hsz (fun i _ v w w' h hb => lookS_stableR L i hst v w w' h hb) (fun i o hi ho a w hc => by
      have := OblR.get (l.take n) 0 hstep i o (by rw [List.getElem?_take_of_lt hi]; exact ho) a w hc
      rwa [Nat.zero_add] at this) hend

end Go.Proofs.Ytkkilngihkdnaaa
