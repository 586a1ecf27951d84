/-
  A region that draws its order, whose operations make memory of their own alone: BY A WORD ON EACH OPERATION's VALUE.
  Each operation i has a word 'Ss i v w' (of its value v, in the world w), which stays true while memory is made.
  Each is shown once, of any state in which the words on those that it waits for hold; no order is gone through.
-/
import Derived.Test.YtkkilngihkdnaaaBase
import Derived.StillTail
namespace Go.Proofs.Ytkkilngihkdnaaa
open Go.RowKit

/-- the first state, with the values of those that are listed -/
def fill : List Oper → Nat → Array Bool → (Nat → Value) → Act → Act
  | [], _, _, _, a => a
  | o :: r, k, listed, vals, a => fill r (k + 1) listed vals (if listed.getD k false then a.put o.dst (vals k) else a)
/-- all of them -/
def fillAll : List Oper → Nat → (Nat → Value) → Act → Act
  | [], _, _, a => a
  | o :: r, k, vals, a => fillAll r (k + 1) vals (a.put o.dst (vals k))

theorem fill_all : ∀ (l : List Oper) (k : Nat) (listed : Array Bool) (vals : Nat → Value) (a : Act), (∀ i, i < l.length → listed.getD (k + i) false = true) → fill l k listed vals a = fillAll l k vals a
  | [], _, _, _, _, _ => rfl
  | o :: r, k, listed, vals, a, h => by
    have h0 : listed.getD k false = true := by simpa using h 0 (by simp)
    simp only [fill, fillAll, h0, if_true]
    exact fill_all r (k + 1) listed vals _ (fun i hi => by have := h (i + 1) (by simp; omega); rwa [show k + (i + 1) = k + 1 + i from by omega] at this)
theorem fill_none : ∀ (l : List Oper) (k : Nat) (listed : Array Bool) (vals : Nat → Value) (a : Act), (∀ i, listed.getD i false = false) → fill l k listed vals a = a
  | [], _, _, _, _, _ => rfl
  | o :: r, k, listed, vals, a, h => by
    simp only [fill, h k, Bool.false_eq_true, if_false]
    exact fill_none r (k + 1) listed vals a h
theorem fill_put : ∀ (l : List Oper) (k : Nat) (listed : Array Bool) (vals : Nat → Value) (a : Act) (d : Tmp) (v : Value), (∀ o ∈ l, o.dst ≠ some d) →
    fill l k listed vals (a.put (some d) v) = (fill l k listed vals a).put (some d) v
  | [], _, _, _, _, _, _, _ => rfl
  | o :: r, k, listed, vals, a, d, v, h => by
    simp only [fill]
    rw [← fill_put r (k + 1) listed vals _ d v (fun o' ho' => h o' (List.mem_cons_of_mem _ ho'))]
    congr 1
    split
    · exact Act.put_comm a v (vals k) (fun d' e => by cases e; exact h o (List.mem_cons_self ..))
    · rfl
theorem fill_congr : ∀ (l : List Oper) (k : Nat) (listed listed' : Array Bool) (vals vals' : Nat → Value) (a : Act),
    (∀ i, i < l.length → listed.getD (k + i) false = listed'.getD (k + i) false ∧ vals (k + i) = vals' (k + i)) → fill l k listed vals a = fill l k listed' vals' a
  | [], _, _, _, _, _, _, _ => rfl
  | o :: r, k, listed, listed', vals, vals', a, h => by
    have h0 := h 0 (by simp)
    simp only [Nat.add_zero] at h0
    simp only [fill, h0.1, h0.2]
    exact fill_congr r (k + 1) listed listed' vals vals' _ (fun i hi => by have := h (i + 1) (by simp; omega); rwa [show k + (i + 1) = k + 1 + i from by omega] at this)

/-- the destinations are each another -/
def dstsB : List Oper → Bool
  | [] => true
  | o :: r => o.dst.isSome && r.all (fun o' => o'.dst != o.dst) && dstsB r

theorem fill_set : ∀ (l : List Oper) (k i : Nat) (listed : Array Bool) (vals : Nat → Value) (a : Act) (o : Oper) (d : Tmp) (v : Value), dstsB l = true → l[i]? = some o → o.dst = some d →
    listed.getD (k + i) true = false →
    fill l k (listed.setIfInBounds (k + i) true) (fun j => if j = k + i then v else vals j) a = (fill l k listed vals a).put (some d) v
  | [], _, _, _, _, _, _, _, _, _, h, _, _ => by simp at h
  | o :: r, k, 0, listed, vals, a, o', d, v, hd, h, hod, hl => by
    simp at h; subst h
    simp only [dstsB, Bool.and_eq_true] at hd
    obtain ⟨⟨_, hall⟩, hr⟩ := hd
    have hne : ∀ o' ∈ r, o'.dst ≠ some d := by
      intro o' ho' e
      have := List.all_eq_true.1 hall o' ho'
      rw [e, hod] at this; simp at this
    have h1 : (listed.setIfInBounds k true).getD k false = true := by
      have hk : k < listed.size := by
        rcases Nat.lt_or_ge k listed.size with h' | h'
        · exact h'
        · simp [Array.getElem?_eq_none h'] at hl
      simp [hk]
    have h2 : listed.getD k false = false := getD_both (by simpa using hl)
    simp only [Nat.add_zero, fill, h1, h2, if_true, Bool.false_eq_true, if_false, hod]
    rw [fill_put r (k + 1) _ _ a d v hne]
    congr 1
    refine fill_congr r (k + 1) _ _ _ _ a (fun i hi => ⟨?_, by rw [if_neg (by omega)]⟩)
    exact getD_set_ne false (by omega)
  | o :: r, k, i + 1, listed, vals, a, o', d, v, hd, h, hod, hl => by
    simp only [dstsB, Bool.and_eq_true] at hd
    obtain ⟨⟨_, hall⟩, hr⟩ := hd
    simp only [List.getElem?_cons_succ] at h
    have ih := fill_set r (k + 1) i listed vals (if listed.getD k false then a.put o.dst (vals k) else a) o' d v hr h hod (by rwa [show k + 1 + i = k + (i + 1) from by omega])
    simp only [fill]
    rw [show k + (i + 1) = k + 1 + i from by omega, getD_set_ne false (by omega), if_neg (by omega : ¬ k = k + 1 + i)]
    exact ih

theorem put_tmps (a : Act) (d t : Nat) (v : Value) (h : t ≠ d) : (a.put (some d) v).eval (.tmp t) = a.eval (.tmp t) := by
  simp only [Act.put, Act.eval]
  simp [Array.getElem?_setIfInBounds_ne (show d ≠ t from fun e => h e.symm)]
theorem put_tmps_same (a : Act) (d : Nat) (v : Value) (h : d < a.tmps.size) : (a.put (some d) v).eval (.tmp d) = v := by
  simp only [Act.put, Act.eval]
  simp [h]
theorem put_size (a : Act) (d : Option Tmp) (v : Value) : (a.put d v).tmps.size = a.tmps.size := by
  cases d <;> simp [Act.put]

theorem fill_size : ∀ (l : List Oper) (k : Nat) (listed : Array Bool) (vals : Nat → Value) (a : Act), (fill l k listed vals a).tmps.size = a.tmps.size
  | [], _, _, _, _ => rfl
  | o :: r, k, listed, vals, a => by
    simp only [fill]
    rw [fill_size]
    split
    · exact put_size ..
    · rfl
theorem fill_frame : ∀ (l : List Oper) (k : Nat) (listed : Array Bool) (vals : Nat → Value) (a : Act) (t : Tmp), l.any (fun o => o.dst == some t) = false → (fill l k listed vals a).eval (.tmp t) = a.eval (.tmp t)
  | [], _, _, _, _, _, _ => rfl
  | o :: r, k, listed, vals, a, t, h => by
    simp only [List.any_cons, Bool.or_eq_false_iff] at h
    simp only [fill]
    rw [fill_frame r (k + 1) listed vals _ t h.2]
    split
    · cases hd : o.dst with
      | none => rfl
      | some d => exact put_tmps a d t _ (fun e => by subst e; rw [hd] at h; simp at h)
    · rfl
theorem fill_at : ∀ (l : List Oper) (k : Nat) (listed : Array Bool) (vals : Nat → Value) (a : Act) (j : Nat) (o : Oper) (d : Tmp), dstsB l = true → l[j]? = some o → o.dst = some d → d < a.tmps.size →
    listed.getD (k + j) false = true → (fill l k listed vals a).eval (.tmp d) = vals (k + j)
  | [], _, _, _, _, _, _, _, _, h, _, _, _ => by simp at h
  | o :: r, k, listed, vals, a, 0, o', d, hd, h, hod, hsz, hl => by
    simp at h; subst h
    simp only [dstsB, Bool.and_eq_true] at hd
    obtain ⟨⟨_, hall⟩, hr⟩ := hd
    simp only [Nat.add_zero] at hl ⊢
    simp only [fill, hl, if_true, hod]
    rw [fill_frame r (k + 1) listed vals _ d (by
      rw [Bool.eq_false_iff]
      intro hc
      obtain ⟨o', ho', e⟩ := List.any_eq_true.1 hc
      have := List.all_eq_true.1 hall o' ho'
      rw [hod] at this
      simp at e this; exact this e), put_tmps_same a d _ hsz]
  | o :: r, k, listed, vals, a, j + 1, o', d, hd, h, hod, hsz, hl => by
    simp only [dstsB, Bool.and_eq_true] at hd
    simp only [fill]
    rw [show k + (j + 1) = k + 1 + j from by omega] at hl ⊢
    exact fill_at r (k + 1) listed vals _ j o' d hd.2 (by simpa using h) hod (by split <;> simp [put_size, hsz]) hl

/-- what holds where an operation is carried out -/
structure RCtx (l : List Oper) (Ss : Nat → Value → World → Prop) (a0 : Act) (w0 : World) (o : Oper) (a : Act) (w : World) : Prop where
  below : Below w0.heap.size w0 w
  frame : ∀ t, l.any (fun o => o.dst == some t) = false → a.eval (.tmp t) = a0.eval (.tmp t)
  dep : ∀ j d, o.after.toList.any (fun e => Region.binds .any e && e.on == j) = true → (l[j]?).bind (·.dst) = some d → Ss j (a.eval (.tmp d)) w
  bound : a.tmps.size = a0.tmps.size

/-- what an operation owes -/
def StepOk (P : Program) (o : Oper) (a : Act) (w : World) (s : Value → World → Prop) : Prop :=
  o.wp P a w (fun a' w' => ∃ v, a' = a.put o.dst v ∧ Below w.heap.size w w' ∧ s v w') (fun _ _ _ => False)
def RStep (P : Program) (ops : Array Oper) (o : Oper) (a : Act) (w : World) (s : Value → World → Prop) : Prop :=
  if Region.wanted o (yielded ops a.tmps) then StepOk P o a w s else s undef w

theorem wpQ_mono {P : Program} {o : Oper} {a : Act} {w : World} {K : Act → World → Prop} {Q : Exit → Act → World → Prop} (h : o.wp P a w K (fun _ _ _ => False)) : o.wp P a w K Q := by
  unfold Oper.wp at *
  generalize (execOp a.eval o).run P w = r at *
  cases r with
  | ok n w' =>
    cases n <;> simp only [Oper.upon] at h ⊢ <;>
      first
        | exact h
        | exact Calls.mono h (fun e w'' he => by
            cases e with
            | returned v => exact he
            | panicked c => exact he.elim
            | outgrown => obtain ⟨_, _, h⟩ := he; exact h.elim)
  | halt x w' => cases x <;> simp only [Oper.upon] at h ⊢ <;> exact h.elim

def headListed (n g : Nat) : Array Bool := (List.replicate n true ++ List.replicate g false).toArray
def specB (ops : Array Oper) (n : Nat) : Bool :=
  decide (n ≤ ops.size) && dstsB (ops.toList.take n) &&
  ((ops.toList.take n).zipIdx.all fun (o, i) => o.after.all fun e => !Region.binds .any e || decide (e.on < i)) &&
  (decide (n = ops.size) || (Region.sinkB .any ops n && Region.chainB .any ops n)) &&
  Region.seqB .any ops (ops.size - n) n (headListed n (ops.size - n))

theorem listed_head {ops : Array Oper} {n : Nat} {listed : Array Bool} (hn : n ≤ ops.size) (inv : HeadInv .any ops n listed) (h : ∀ i, i < n → listed.getD i false = true) : listed = headListed n (ops.size - n) := by
  have hs := inv.size
  apply Array.ext
  · simp [headListed, hs]; omega
  · intro i h1 h2
    by_cases hi : i < n
    · have := h i hi
      rw [Array.getD_eq_getD_getElem?, Array.getElem?_eq_getElem h1] at this
      simp at this
      rw [this]
      simp [headListed, hi]
    · have := inv.tail i (by omega) (by omega)
      rw [Array.getD_eq_getD_getElem?, Array.getElem?_eq_getElem h1] at this
      simp at this
      rw [this]
      simp [headListed, List.getElem_append, hi]

theorem put_lit (t : Array Value) (d : List Deferred) (i : Nat) (v : Value) : ({ tmps := t, defers := d } : Act).put (some i) v = { tmps := t.setIfInBounds i v, defers := d } := rfl

/-- the block to which a value leads -/
def blk : Value → Nat
  | .pointer (some a) => a.block
  | .slice (some a) _ _ => a.block
  | _ => 0

theorem wp_region_specD {P : Program} {id : Nat} {Q : Exit → Act → World → Prop} {a0 : Act} {w0 : World} {l : List Oper} (n : Nat) (Ss : Nat → Value → World → Prop) (D : Nat → Bool)
    (hm : P.follows .mixedOrders = true) (hB : specB l.toArray n = true) (hsz : (l.take n).all (fun o => match o.dst with | some d => decide (d < a0.tmps.size) | none => true) = true)
    (hst : ∀ i, i < n → ∀ v w w', Ss i v w → Below w.heap.size w w' → Ss i v w')
    (hlt : ∀ i, i < n → D i = true → ∀ v w, Ss i v w → blk v < w.heap.size)
    (hstep : ∀ i o, i < n → l[i]? = some o → ∀ a w, RCtx (l.take n) Ss a0 w0 o a w → RStep P l.toArray o a w (fun v w' => Ss i v w' ∧ (D i = true → w.heap.size ≤ blk v)))
    (hend : ∀ vals w, Below w0.heap.size w0 w → (∀ i, i < n → Ss i (vals i) w) → (∀ i j, i < n → j < n → i ≠ j → D i = true → D j = true → blk (vals i) ≠ blk (vals j)) → wpList P l.toArray Q (l.drop n) (fillAll (l.take n) 0 vals a0) w) :
    (Code.region id l.toArray true).wp P Q a0 w0 := by
  simp only [specB, Bool.and_eq_true, decide_eq_true_eq] at hB
  obtain ⟨⟨⟨⟨hn, hd⟩, haf⟩, hsink⟩, hseq⟩ := hB
  have hn' : n ≤ l.length := by simpa using hn
  have hd' : dstsB (l.take n) = true := hd
  have htl : (l.take n).length = n := by simp; omega
  have key : ∀ (rem : List Nat) (f : Nat), rem.length = f → rem.Nodup → ∀ (listed : Array Bool) (a : Act) (w : World), HeadInv .any l.toArray n listed →
      (∀ i, i ∈ rem ↔ (i < n ∧ listed.getD i true = false)) → (∃ vals, a = fill (l.take n) 0 listed vals a0 ∧ (∀ i, i < n → listed.getD i false = true → Ss i (vals i) w) ∧ ∀ i j, i < n → j < n → i ≠ j → listed.getD i false = true → listed.getD j false = true → D i = true → D j = true → blk (vals i) ≠ blk (vals j)) → Below w0.heap.size w0 w →
      wpAny P .any l.toArray Q (f + (l.toArray.size - n)) listed a w := by
    intro rem f
    induction f generalizing rem with
    | zero =>
      intro hl _ listed a w inv hrem ⟨vals, ha, hv, hp⟩ hb
      have hr : rem = [] := List.length_eq_zero_iff.1 hl
      subst hr
      have hall : ∀ i, i < n → listed.getD i false = true := by
        intro i hi
        have h1 : ¬ listed.getD i true = false := fun h => by have := (hrem i).2 ⟨hi, h⟩; simp at this
        have h2 : i < listed.size := by rw [inv.size]; omega
        rw [Array.getD_eq_getD_getElem?, Array.getElem?_eq_getElem h2] at h1 ⊢
        simpa using h1
      have hlist := listed_head hn inv hall
      have hw := hend vals w hb (fun i hi => hv i hi (hall i hi)) (fun i j hi hj hij => hp i j hi hj hij (hall i hi) (hall j hj))
      rw [← fill_all (l.take n) 0 listed vals a0 (fun i hi => by rw [Nat.zero_add]; exact hall i (by omega)), ← ha] at hw
      rw [Nat.zero_add]
      have hdl : (l.drop n).length = l.toArray.size - n := by simp
      rw [← hdl]
      refine wpAny_of_seq (l.drop n) n listed a w (fun j => by simp) ?_ hw
      rw [hdl, hlist]; exact hseq
    | succ f ih =>
      intro hl hnd listed a w inv hrem ⟨vals, ha, hv, hp⟩ hb
      -- the least that is not listed is ready
      have hex : ∃ i, i ∈ rem ∧ ∀ j, j ∈ rem → i ≤ j := by
        have : ∀ (r : List Nat), r ≠ [] → ∃ i, i ∈ r ∧ ∀ j, j ∈ r → i ≤ j := by
          intro r
          induction r with
          | nil => intro h; exact (h rfl).elim
          | cons x r ihr =>
            intro _
            by_cases hr : r = []
            · subst hr; exact ⟨x, by simp, by simp⟩
            · obtain ⟨i, hi, hmin⟩ := ihr hr
              by_cases hx : x ≤ i
              · exact ⟨x, by simp, fun j hj => by rcases List.mem_cons.1 hj with rfl | hj; exact Nat.le_refl _; exact Nat.le_trans hx (hmin j hj)⟩
              · exact ⟨i, by simp [hi], fun j hj => by rcases List.mem_cons.1 hj with rfl | hj; omega; exact hmin j hj⟩
        exact this rem (by intro h; subst h; simp at hl)
      have hready : Region.ready .any l.toArray listed ≠ [] := by
        obtain ⟨i, hi, hmin⟩ := hex
        obtain ⟨hin, hil⟩ := (hrem i).1 hi
        have hlt : i < l.length := by omega
        have hmem : i ∈ Region.ready .any l.toArray listed := by
          refine mem_ready.2 ⟨hil, l[i], by simp [hlt], fun e he hbd => ?_⟩
          have h1 := List.all_eq_true.1 haf (l[i], i) (by
            rw [List.mem_zipIdx_iff_getElem?]; simp [hin, hlt])
          have h2 := Array.all_eq_true'.1 h1 e he
          simp [hbd] at h2
          have hj : ¬ e.on ∈ rem := fun h => by have := hmin _ h; omega
          have h3 : ¬ listed.getD e.on true = false := fun h => hj ((hrem _).2 ⟨by omega, h⟩)
          have h4 : e.on < listed.size := by rw [inv.size]; simp; omega
          rw [Array.getD_eq_getD_getElem?, Array.getElem?_eq_getElem h4] at h3 ⊢
          simpa using h3
        intro h; rw [h] at hmem; simp at hmem
      rw [show f + 1 + (l.toArray.size - n) = (f + (l.toArray.size - n)) + 1 from by omega]
      refine ⟨fun h => (hready h).elim, fun i hi => ?_⟩
      obtain ⟨hil, o, ho, haft⟩ := mem_ready.1 hi
      have hin : i < n := by
        rcases Nat.lt_or_ge i n with h | h
        · exact h
        · exfalso
          obtain ⟨i', hi', _⟩ := hex
          obtain ⟨hin', hil'⟩ := (hrem i').1 hi'
          have hisz : i < l.toArray.size := (Array.getElem?_eq_some_iff.1 ho).1
          simp only [Bool.or_eq_true, decide_eq_true_eq, Bool.and_eq_true] at hsink
          rcases hsink with h0 | ⟨hs, hc⟩
          · omega
          · exact tail_waits hs hc (by omega) inv (n - i') i' rfl hin' hil' i h hi
      have ho' : l[i]? = some o := by simpa using ho
      have hot : (l.take n)[i]? = some o := by rw [List.getElem?_take_of_lt hin]; exact ho'
      obtain ⟨d, hod⟩ : ∃ d, o.dst = some d := by
        have : ∀ (r : List Oper) (j : Nat), dstsB r = true → r[j]? = some o → ∃ d, o.dst = some d := by
          intro r
          induction r with
          | nil => intro j _ h; simp at h
          | cons x r ihr =>
            intro j hdd h
            simp only [dstsB, Bool.and_eq_true] at hdd
            cases j with
            | zero => simp at h; subst h; exact Option.isSome_iff_exists.1 hdd.1.1
            | succ j => exact ihr j hdd.2 (by simpa using h)
        exact this _ i hd' hot
      have hbd : ∀ (j : Nat) (oj : Oper) (dj : Tmp), (l.take n)[j]? = some oj → oj.dst = some dj → dj < a0.tmps.size := by
        intro j oj dj hj hdj
        have := List.all_eq_true.1 hsz oj (List.mem_of_getElem? hj)
        simpa [hdj] using this
      have hctx : RCtx (l.take n) Ss a0 w0 o a w := by
        refine ⟨hb, fun t ht => by rw [ha]; exact fill_frame _ _ _ _ _ t ht, fun j dj hj hdj => ?_, by rw [ha, fill_size]⟩
        obtain ⟨e, he, hbe⟩ := List.any_eq_true.1 hj
        simp only [Bool.and_eq_true, beq_iff_eq] at hbe
        have hlj := haft e (Array.mem_toList_iff.1 he) hbe.1
        rw [hbe.2] at hlj
        obtain ⟨oj, hoj, hdj'⟩ := Option.bind_eq_some_iff.1 hdj
        have hjn : j < n := by have := (List.getElem?_eq_some_iff.1 hoj).1; omega
        rw [ha, fill_at _ 0 listed vals a0 j oj dj hd' hoj hdj' (hbd j oj dj hoj hdj') (by rw [Nat.zero_add]; exact hlj), Nat.zero_add]
        exact hv j hjn hlj
      have hstep' := hstep i o hin ho' a w hctx
      have hnext : ∀ v w', Below w.heap.size w w' → (Ss i v w' ∧ (D i = true → w.heap.size ≤ blk v)) → wpAny P .any l.toArray Q (f + (l.toArray.size - n)) (listed.setIfInBounds i true) (a.put o.dst v) w' := by
        intro v w' hbw ⟨hsv, hfr⟩
        have hmemi : i ∈ rem := (hrem i).2 ⟨hin, hil⟩
        refine ih (rem.erase i) (by rw [List.length_erase_of_mem hmemi, hl]; rfl) (hnd.erase i) _ _ w' (inv.set hi hin) (fun j => ?_) ⟨fun j => if j = i then v else vals j, ?_, fun j hj hlj => ?_, fun j k hj hk hjk hlj hlk hDj hDk => ?_⟩ (hb.trans (hbw.mono hb.size))
        · rw [hnd.mem_erase_iff, hrem j]
          by_cases hji : j = i
          · subst hji
            have hjs : j < listed.size := by rw [inv.size]; simp; omega
            simp [hjs]
          · rw [getD_set_ne true (fun e => hji e.symm)]
            simp [hji]
        · have := fill_set (l.take n) 0 i listed vals a0 o d v hd' hot hod (by rw [Nat.zero_add]; exact hil)
          rw [Nat.zero_add] at this
          rw [this, ← ha, hod]
        · by_cases hji : j = i
          · subst hji; simpa using hsv
          · show Ss j (if j = i then v else vals j) w'
            rw [if_neg hji]
            rw [getD_set_ne false (fun e => hji e.symm)] at hlj
            exact hst j hj _ _ _ (hv j hj hlj) hbw
        · show blk (if j = i then v else vals j) ≠ blk (if k = i then v else vals k)
          by_cases hji : j = i
          · subst hji
            rw [if_pos rfl, if_neg (fun e => hjk e.symm)]
            rw [getD_set_ne false hjk] at hlk
            have h1 := hlt k hk hDk _ _ (hv k hk hlk)
            have h2 := hfr hDj
            omega
          · rw [if_neg hji]
            rw [getD_set_ne false (fun e => hji e.symm)] at hlj
            by_cases hki : k = i
            · subst hki
              rw [if_pos rfl]
              have h1 := hlt j hj hDj _ _ (hv j hj hlj)
              have h2 := hfr hDk
              omega
            · rw [if_neg hki]
              rw [getD_set_ne false (fun e => hki e.symm)] at hlk
              exact hp j k hj hk hjk hlj hlk hDj hDk
      unfold wpOp
      simp only [ho]
      unfold RStep at hstep'
      split
      · rename_i hw
        rw [if_pos hw] at hstep'
        refine .inl (wpQ_mono (Oper.wp_mono (fun a' w' ⟨v, e, hbw, hsv⟩ => ?_) hstep'))
        subst e
        exact hnext v w' hbw hsv
      · rename_i hw
        rw [if_neg hw] at hstep'
        exact hnext undef w (Below.refl _ w) hstep'
  refine wp_region_any hm ?_
  have h0 := key (List.range n) n (by simp) List.nodup_range (Array.replicate l.toArray.size false) a0 { w0 with drawn := w0.drawn + 1 }
    ⟨by simp, fun j oj _ hl => (by rw [getD_replicate_false] at hl; cases hl), fun t _ ht => getD_in (by simpa using ht) (getD_replicate_false _ _)⟩
    (fun i => by
      rw [List.mem_range]
      constructor
      · intro h; exact ⟨h, getD_in (by simp; omega) (getD_replicate_false _ _)⟩
      · intro h; exact h.1)
    ⟨fun _ => undef, (fill_none _ _ _ _ _ (fun i => getD_replicate_false _ _)).symm, fun i _ h => (by rw [getD_replicate_false] at h; cases h), fun i j _ _ _ h => (by rw [getD_replicate_false] at h; cases h)⟩
    ((Below.refl _ w0).drew)
  rw [show n + (l.toArray.size - n) = l.toArray.size from by omega] at h0
  exact h0

/-! ### in use: the words as a list, the obligations one by one -/
def Stable (s : Value → World → Prop) : Prop := ∀ v w w', s v w → Below w.heap.size w w' → s v w'
theorem stable_eq (x : Value) : Stable (fun v _ => v = x) := fun _ _ _ h _ => h
theorem stable_true : Stable (fun _ _ => True) := fun _ _ _ _ _ => trivial
theorem stable_rd (xs : List Value) : Stable (fun v w => Rd w w.heap.size v xs) := fun _ _ _ h hb => (h.below hb).up hb.size
theorem stable_own (base : Nat) (e : TypeId) (s n : Nat) (xs : List Value) : Stable (fun v w => w.ownsRow base e s v n xs) := fun _ _ _ h hb => own_below h hb

def lookS : List (Value → World → Prop) → Nat → Value → World → Prop
  | [], _ => fun _ _ => True
  | s :: _, 0 => s
  | _ :: r, i + 1 => lookS r i
def AllStable : List (Value → World → Prop) → Prop
  | [] => True
  | s :: r => Stable s ∧ AllStable r
theorem lookS_stable : ∀ (L : List (Value → World → Prop)) (i : Nat), AllStable L → Stable (lookS L i)
  | [], _, _ => fun _ _ _ h _ => h
  | _ :: _, 0, h => h.1
  | _ :: r, i + 1, h => lookS_stable r i h.2

def Obl (P : Program) (l hd : List Oper) (L : List (Value → World → Prop)) (D : Nat → Bool) (a0 : Act) (w0 : World) : List Oper → Nat → Prop
  | [], _ => True
  | o :: r, i => (∀ a w, RCtx hd (lookS L) a0 w0 o a w → RStep P l.toArray o a w (fun v w' => lookS L i v w' ∧ (D i = true → w.heap.size ≤ blk v))) ∧ Obl P l hd L D a0 w0 r (i + 1)
theorem Obl.get {P : Program} {l hd : List Oper} {L : List (Value → World → Prop)} {D : Nat → Bool} {a0 : Act} {w0 : World} : ∀ (r : List Oper) (k : Nat), Obl P l hd L D a0 w0 r k → ∀ i o, r[i]? = some o →
    ∀ a w, RCtx hd (lookS L) a0 w0 o a w → RStep P l.toArray o a w (fun v w' => lookS L (k + i) v w' ∧ (D (k + i) = true → w.heap.size ≤ blk v))
  | [], _, _, _, _, h => by simp at h
  | o :: r, k, h, 0, o', h' => by simp at h'; subst h'; exact h.1
  | o :: r, k, h, i + 1, o', h' => by
    have := Obl.get r (k + 1) h.2 i o' (by simpa using h')
    rwa [show k + 1 + i = k + (i + 1) from by omega] at this

theorem wp_region_spec {P : Program} {id : Nat} {Q : Exit → Act → World → Prop} {a0 : Act} {w0 : World} {l : List Oper} (n : Nat) (L : List (Value → World → Prop)) (D : Nat → Bool)
    (hm : P.follows .mixedOrders = true) (hB : specB l.toArray n = true) (hsz : (l.take n).all (fun o => match o.dst with | some d => decide (d < a0.tmps.size) | none => true) = true)
    (hst : AllStable L) (hlt : ∀ i, i < n → D i = true → ∀ v w, lookS L i v w → blk v < w.heap.size)
    (hstep : Obl P l (l.take n) L D a0 w0 (l.take n) 0)
    (hend : ∀ vals w, Below w0.heap.size w0 w → (∀ i, i < n → lookS L i (vals i) w) → (∀ i j, i < n → j < n → i ≠ j → D i = true → D j = true → blk (vals i) ≠ blk (vals j)) →
      wpList P l.toArray Q (l.drop n) (fillAll (l.take n) 0 vals a0) w) :
    (Code.region id l.toArray true).wp P Q a0 w0 :=
  wp_region_specD n (lookS L) D hm hB hsz (fun i _ v w w' h hb => lookS_stable L i hst v w w' h hb) hlt
    (fun i o hi ho a w hc => by
      have := Obl.get (l.take n) 0 hstep i o (by rw [List.getElem?_take_of_lt hi]; exact ho) a w hc
      rwa [Nat.zero_add] at this) hend

/-- an operation that gives a value -/
theorem rs_val {P : Program} {ops : Array Oper} {o : Oper} {a : Act} {w w' : World} {s : Value → World → Prop} {v : Value} (hg : Region.wanted o (yielded ops a.tmps) = true)
    (hr : (execOp a.eval o).run P w = .ok (.value v) w') (hb : Below w.heap.size w w') (hs : s v w') : RStep P ops o a w s := by
  unfold RStep; rw [if_pos hg]
  unfold StepOk Oper.wp
  rw [hr]
  exact ⟨v, rfl, hb, hs⟩
/-- a call -/
theorem rs_call {P : Program} {ops : Array Oper} {o : Oper} {a : Act} {w : World} {s : Value → World → Prop} {f : FuncId} {args : Array Value} (hg : Region.wanted o (yielded ops a.tmps) = true)
    (hr : (execOp a.eval o).run P w = .ok (.enter f args) w) (hc : Calls P f args w fun e w' => ∃ v, e = .returned v ∧ Below w.heap.size w w' ∧ s v w') : RStep P ops o a w s := by
  unfold RStep; rw [if_pos hg]
  unfold StepOk Oper.wp
  rw [hr]
  exact hc.mono fun e w' ⟨v, he, hb, hs⟩ => by subst he; exact ⟨v, rfl, hb, hs⟩
/-- one whose guard shuts it out -/
theorem rs_skip {P : Program} {ops : Array Oper} {o : Oper} {a : Act} {w : World} {s : Value → World → Prop} (hg : Region.wanted o (yielded ops a.tmps) = false) (hs : s undef w) : RStep P ops o a w s := by
  unfold RStep; rw [if_neg (by rw [hg]; decide)]; exact hs

theorem yielded_of {ops : Array Oper} {a : Act} {j : Nat} {d : Tmp} {b : Bool} (h1 : (ops[j]?).bind (·.dst) = some d) (h2 : a.eval (.tmp d) = .bool b) : yielded ops a.tmps j = some b := by
  unfold yielded
  rw [h1]
  simp only [Option.bind_some]
  simp only [Act.eval, Array.getD_eq_getD_getElem?] at h2
  cases h3 : a.tmps[d]? with
  | none => rw [h3] at h2; simp [undef] at h2
  | some x => rw [h3] at h2; simp at h2; subst h2; rfl

theorem wanted_g {ops : Array Oper} {o : Oper} {a : Act} {j : Nat} {b : Bool} (hg : o.guard = some (j, b)) (hy : yielded ops a.tmps j = some b) : Region.wanted o (yielded ops a.tmps) = true := by
  simp [Region.wanted, hg, hy]
theorem not_wanted_g {ops : Array Oper} {o : Oper} {a : Act} {j : Nat} {b c : Bool} (hg : o.guard = some (j, b)) (hy : yielded ops a.tmps j = some c) (hbc : c ≠ b) : Region.wanted o (yielded ops a.tmps) = false := by
  simp [Region.wanted, hg, hy, hbc]

theorem rs_move {P : Program} {ops : Array Oper} {o : Oper} {a : Act} {w : World} {x : Operand} {v : Value} {D : Prop} (hg : Region.wanted o (yielded ops a.tmps) = true) (hop : o.op = Op.move x) (hx : a.eval x = v) (hD : ¬ D) :
    RStep P ops o a w (fun v' _ => v' = v ∧ (D → w.heap.size ≤ blk v')) := by
  refine rs_val hg (v := v) (w' := w) ?_ (Below.refl _ w) ⟨rfl, fun h => (hD h).elim⟩
  simp only [execOp, hop, hx]
  rfl
theorem rs_pick {P : Program} {ops : Array Oper} {o : Oper} {a : Act} {w : World} {x y z : Operand} {b : Bool} {v : Value} {D : Prop} (hg : Region.wanted o (yielded ops a.tmps) = true) (hop : o.op = Op.pick x y z) (hx : a.eval x = .bool b)
    (hv : (if b then a.eval y else a.eval z) = v) (hD : ¬ D) : RStep P ops o a w (fun v' _ => v' = v ∧ (D → w.heap.size ≤ blk v')) := by
  refine rs_val hg (v := v) (w' := w) ?_ (Below.refl _ w) ⟨rfl, fun h => (hD h).elim⟩
  simp only [execOp, hop, hx]
  subst hv
  cases b <;> rfl

theorem rs_assign {P : Program} {ops : Array Oper} {o : Oper} {a : Act} {w : World} {x : Operand} {v : Value} {D : Prop} (hg : Region.wanted o (yielded ops a.tmps) = true) (hop : o.op = Op.assign x) (hx : a.eval x = v) (hD : ¬ D) :
    RStep P ops o a w (fun v' _ => v' = v ∧ (D → w.heap.size ≤ blk v')) := by
  refine rs_val hg (v := v) (w' := w) ?_ (Below.refl _ w) ⟨rfl, fun h => (hD h).elim⟩
  simp only [execOp, hop, hx]
  rfl

end Go.Proofs.Ytkkilngihkdnaaa
