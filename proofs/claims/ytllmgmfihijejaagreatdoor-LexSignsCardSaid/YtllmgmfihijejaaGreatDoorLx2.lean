/-
  Laws of walks, and walks: Map LexPlain LexFacts Region9 Arms Ref08 Ref08b Ref08c Ref09.
-/
import Derived.Test.YtllmgmfihijejaaGreatDoorLx1
import Derived.MapKept
import Derived.Deep.CutRange
set_option linter.unusedVariables false
set_option linter.unusedSimpArgs false
/-
  Maps whose entries are what a plain function tells of their keys: to be filled in any order, to be asked.
-/
namespace Go.Proofs.YtllmgmfihijejaaGreatDoor
open Go.RowKit Go.MapKept
set_option linter.unusedSimpArgs false

/-- each entry is what F tells of its key -/
def Sub (d : TypeDesc) (F : Value → Option Value) (es : Array MapEntry) : Prop := ∀ e ∈ es.toList, IsKey d e.key ∧ F e.key = some e.val
def HasK (es : Array MapEntry) (k : Value) : Prop := ∃ e ∈ es.toList, e.key = k
def MapOf (d : TypeDesc) (F : Value → Option Value) (es : Array MapEntry) : Prop := Sub d F es ∧ ∀ k v, F k = some v → HasK es k
theorem Sub.keys {d F es} (h : Sub d F es) : ∀ x ∈ es.toList, IsKey d x.key := fun x hx => (h x hx).1
theorem Sub.nil (d : TypeDesc) (F : Value → Option Value) : Sub d F #[] := fun e he => by simp at he

section
variable {P : Program} {w : World} {T kt et : TypeId} {d : TypeDesc} {F : Value → Option Value} {es : Array MapEntry} {c mb : Nat}
theorem find_some (h : MapOf d F es) {k v : Value} (hk : IsKey d k) (hF : F k = some v) : ∃ j, Instr.findNow d k es.toList 0 = some (some (j, v)) := by
  rcases findNow_spec hk es.toList 0 h.1.keys with ⟨_, h2⟩ | ⟨j, e, h1, h2, h3⟩
  · obtain ⟨e, he, hek⟩ := h.2 k v hF
    exact absurd hek (h2 e he)
  · have := h.1 e (List.mem_of_getElem? h2)
    rw [h3, hF] at this
    refine ⟨0 + j, ?_⟩
    rw [h1]
    cases this.2; rfl
theorem find_none (h : Sub d F es) {k : Value} (hk : IsKey d k) (hF : F k = none) : Instr.findNow d k es.toList 0 = some none := by
  rcases findNow_spec hk es.toList 0 h.keys with ⟨h1, _⟩ | ⟨j, e, h1, h2, h3⟩
  · exact h1
  · have := h e (List.mem_of_getElem? h2)
    rw [h3, hF] at this
    cases this.2
theorem run_lookup (hT : P.underlying T = some (.map kt et)) (hd : P.underlying kt = some d) (hm : w.heap[mb]? = some (.map es c)) (h : MapOf d F es) {k v : Value} (hk : IsKey d k) (hF : F k = some v) :
    (Instr.lookup T (.map (some mb)) k false).run P w = .ok v w := by
  obtain ⟨j, hj⟩ := find_some h hk hF
  simp [Instr.lookup, Sem.run_bind, run_underlying hT, Result.andThen, Go.MapKept.run_getObj_map hm, run_checkKey hd hk, run_findKey hd hj]
theorem run_lookup2 (hT : P.underlying T = some (.map kt et)) (hd : P.underlying kt = some d) (hm : w.heap[mb]? = some (.map es c)) (h : MapOf d F es) {k v : Value} (hk : IsKey d k) (hF : F k = some v) :
    (Instr.lookup T (.map (some mb)) k true).run P w = .ok (.tuple #[v, .bool true]) w := by
  obtain ⟨j, hj⟩ := find_some h hk hF
  simp [Instr.lookup, Sem.run_bind, run_underlying hT, Result.andThen, Go.MapKept.run_getObj_map hm, run_checkKey hd hk, run_findKey hd hj]
theorem run_lookup2_none (hT : P.underlying T = some (.map kt et)) (hd : P.underlying kt = some d) (hm : w.heap[mb]? = some (.map es c)) (h : MapOf d F es) {k z : Value} (hk : IsKey d k) (hF : F k = none)
    (hz : ∀ W, (zeroValue et).run P W = .ok z W) : (Instr.lookup T (.map (some mb)) k true).run P w = .ok (.tuple #[z, .bool false]) w := by
  simp [Instr.lookup, Sem.run_bind, run_underlying hT, Result.andThen, Go.MapKept.run_getObj_map hm, run_checkKey hd hk, run_findKey hd (find_none h.1 hk hF), hz]

theorem Sub.push (h : Sub d F es) {k v : Value} (hk : IsKey d k) (hF : F k = some v) (b : Nat) : Sub d F (es.push { key := k, val := v, born := b }) := by
  intro e he
  simp at he
  rcases he with he | rfl
  · exact h e (by simpa using he)
  · exact ⟨hk, hF⟩
theorem Sub.modify (h : Sub d F es) {k v : Value} (hk : IsKey d k) (hF : F k = some v) (j : Nat) : Sub d F (es.modify j fun e => { e with key := k, val := v }) := by
  intro e he
  rw [Array.mem_toList_iff, Array.mem_iff_getElem?] at he
  obtain ⟨i, hi⟩ := he
  rw [Array.getElem?_modify] at hi
  split at hi
  · cases hh : es[i]? with
    | none => rw [hh] at hi; cases hi
    | some x => rw [hh] at hi; cases hi; exact ⟨hk, hF⟩
  · exact h e (by rw [Array.mem_toList_iff]; exact Array.mem_of_getElem? hi)
theorem HasK.push {k k' v : Value} {b : Nat} (h : HasK es k') : HasK (es.push { key := k, val := v, born := b }) k' := by
  obtain ⟨e, he, hk⟩ := h
  exact ⟨e, (by simp; exact .inl (by simpa using he)), hk⟩
theorem HasK.modify {k k' v : Value} {j : Nat} {e0 : MapEntry} (hj : es[j]? = some e0) (hk0 : e0.key = k) (h : HasK es k') : HasK (es.modify j fun e => { e with key := k, val := v }) k' := by
  obtain ⟨e, he, hk⟩ := h
  rw [Array.mem_toList_iff, Array.mem_iff_getElem?] at he
  obtain ⟨i, hi⟩ := he
  by_cases hij : j = i
  · subst hij
    have he0 : e = e0 := by rw [hi] at hj; injection hj
    refine ⟨{ e with key := k, val := v }, ?_, ?_⟩
    · rw [Array.mem_toList_iff]
      exact Array.mem_of_getElem? (i := j) (by rw [Array.getElem?_modify, if_pos rfl, hi]; rfl)
    · show k = k'
      rw [← hk0, ← he0, hk]
  · refine ⟨e, ?_, hk⟩
    rw [Array.mem_toList_iff]
    exact Array.mem_of_getElem? (i := i) (by rw [Array.getElem?_modify, if_neg hij]; exact hi)

/-- an entry is put -/
theorem run_insert (hT : P.underlying T = some (.map kt et)) (hd : P.underlying kt = some d) (hm : w.heap[mb]? = some (.map es c)) (h : Sub d F es) {k v : Value} (hk : IsKey d k) (hF : F k = some v) :
    ∃ es' c', (Instr.mapUpdate T (.map (some mb)) k v).run P w = .ok () { w with heap := w.heap.setIfInBounds mb (.map es' c') } ∧ Sub d F es' ∧ HasK es' k ∧ ∀ k', HasK es k' → HasK es' k' := by
  rcases findNow_spec hk es.toList 0 h.keys with ⟨h1, _⟩ | ⟨j, e, h1, h2, h3⟩
  · refine ⟨es.push { key := k, val := v, born := c }, c + 1, ?_, h.push hk hF c, ⟨{ key := k, val := v, born := c }, (by simp), rfl⟩, fun k' hk' => hk'.push⟩
    simp [Instr.mapUpdate, Sem.run_bind, run_underlying hT, Result.andThen, Go.MapKept.run_getObj_map hm, run_checkKey hd hk, run_findKey hd h1, run_setObj_map _ hm]
  · have h2' : es[j]? = some e := by simpa using h2
    have hlt := (Array.getElem?_eq_some_iff.1 h2').1
    refine ⟨es.modify j fun e => { e with key := k, val := v }, c, ?_, h.modify hk hF j, ⟨{ e with key := k, val := v }, ?_, rfl⟩, fun k' hk' => hk'.modify h2' h3⟩
    · have hst : (Instr.keyThatStays ((Option.map (fun x => x.key) es[j]?).getD k) k).run P w = .ok k w := by
        rw [h2']; show (Instr.keyThatStays e.key k).run P w = _
        rw [h3]; exact run_keyThatStays hk
      simp [Instr.mapUpdate, Sem.run_bind, run_underlying hT, Result.andThen, Go.MapKept.run_getObj_map hm, run_checkKey hd hk, run_findKey hd h1, run_setObj_map _ hm, hst]
    · rw [Array.mem_toList_iff]
      exact Array.mem_of_getElem? (i := j) (by rw [Array.getElem?_modify, if_pos rfl, h2']; rfl)
end

/-- the world goes on: blocks stay, but that maps of the call's own may be filled as F tells -/
structure RelM (d : TypeDesc) (F : Value → Option Value) (n0 : Nat) (w w' : World) : Prop where
  os : w'.os = w.os
  tape : w'.tape = w.tape
  output : w'.output = w.output
  size : w.heap.size ≤ w'.heap.size
  block : ∀ k, k < w.heap.size → w'.heap[k]? = w.heap[k]? ∨ (n0 ≤ k ∧ ∃ es c es' c', w.heap[k]? = some (.map es c) ∧ w'.heap[k]? = some (.map es' c') ∧ (Sub d F es → Sub d F es' ∧ ∀ x, HasK es x → HasK es' x))
section
variable {d : TypeDesc} {F : Value → Option Value} {n0 : Nat}
theorem RelM.refl (w : World) : RelM d F n0 w w := ⟨rfl, rfl, rfl, Nat.le_refl _, fun _ _ => .inl rfl⟩
theorem RelM.trans (u v w : World) (h : RelM d F n0 u v) (k : RelM d F n0 v w) : RelM d F n0 u w := by
  refine ⟨k.os.trans h.os, k.tape.trans h.tape, k.output.trans h.output, Nat.le_trans h.size k.size, fun i hi => ?_⟩
  rcases h.block i hi with e1 | ⟨hn, es, c, es', c', e1, e2, e3⟩
  · rcases k.block i (Nat.lt_of_lt_of_le hi h.size) with e2 | ⟨hn, es, c, es', c', f1, f2, f3⟩
    · exact .inl (e2.trans e1)
    · exact .inr ⟨hn, es, c, es', c', e1 ▸ f1, f2, f3⟩
  · rcases k.block i (Nat.lt_of_lt_of_le hi h.size) with f1 | ⟨_, fs, x, fs', x', f1, f2, f3⟩
    · exact .inr ⟨hn, es, c, es', c', e1, f1.trans e2, e3⟩
    · rw [e2] at f1; cases f1
      exact .inr ⟨hn, es, c, fs', x', e1, f2, fun hs => ⟨(f3 (e3 hs).1).1, fun y hy => (f3 (e3 hs).1).2 y ((e3 hs).2 y hy)⟩⟩
theorem RelM.drew (w : World) : RelM d F n0 w { w with drawn := w.drawn + 1 } := ⟨rfl, rfl, rfl, Nat.le_refl _, fun _ _ => .inl rfl⟩
theorem RelM.of_below {w w' : World} (h : Below w.heap.size w w') : RelM d F n0 w w' := ⟨h.os, h.tape, h.output, h.size, fun k hk => .inl (h.block k hk)⟩
theorem RelM.below {w w' : World} (h : RelM d F w.heap.size w w') : Below w.heap.size w w' :=
  ⟨h.os, h.tape, h.output, h.size, fun k hk => by rcases h.block k hk with e | ⟨hn, _⟩; exact e; omega⟩
theorem RelM.lower {w0 w w' : World} (hb : Below w0.heap.size w0 w) (h : RelM d F w0.heap.size w w') : Below w0.heap.size w0 w' :=
  ⟨h.os.trans hb.os, h.tape.trans hb.tape, h.output.trans hb.output, Nat.le_trans hb.size h.size, fun k hk => by
    rcases h.block k (Nat.lt_of_lt_of_le hk hb.size) with e | ⟨hn, _⟩
    · exact e.trans (hb.block k hk)
    · omega⟩
/-- a block of cells stays -/
theorem RelM.cells {w w' : World} (h : RelM d F n0 w w') {b : Nat} {cs : Array Value} {T : TypeId} {f : Nat × Nat} (hb : w.heap[b]? = some (.cells cs T f)) : w'.heap[b]? = some (.cells cs T f) := by
  rcases h.block b (Array.getElem?_eq_some_iff.1 hb).1 with e | ⟨_, es, c, es', c', e, _⟩
  · exact e.trans hb
  · rw [hb] at e; cases e
theorem RelM.cell {w w' : World} (h : RelM d F n0 w w') {a : Addr} {v : Value} (hb : w.cell? a = some v) : w'.cell? a = some v := by
  rcases h.block a.block (by
    rcases Nat.lt_or_ge a.block w.heap.size with h1 | h1
    · exact h1
    · unfold World.cell? at hb; simp [Array.getElem?_eq_none h1] at hb) with e | ⟨_, es, c, es', c', e, _⟩
  · unfold World.cell? at hb ⊢; rw [e]; exact hb
  · unfold World.cell? at hb; simp [e] at hb
theorem RelM.rds {w w' : World} (h : RelM d F n0 w w') {v : Value} {L : List (Nat → Nat)} (hr : RdS w w.heap.size v L) : RdS w' w'.heap.size v L := by
  rcases hr with hr | ⟨b, off, c, e, hlt, h1, h2, h3⟩
  · exact .inl hr
  · exact .inr ⟨b, off, c, e, Nat.lt_of_lt_of_le hlt h.size, h1, h2, fun j hj k hk => h.cell (h3 j hj k hk)⟩
theorem RelM.rd {w w' : World} (h : RelM d F n0 w w') {v : Value} {L : List Value} (hr : Rd w w.heap.size v L) : Rd w' w'.heap.size v L := by
  rcases hr with hr | ⟨b, off, c, e, hlt, h1, h2, h3⟩
  · exact .inl hr
  · exact .inr ⟨b, off, c, e, Nat.lt_of_lt_of_le hlt h.size, h1, h2, fun j hj => h.cell (h3 j hj)⟩

/-- a map of the call's own, filled as F tells, that has some keys -/
def InMap (d : TypeDesc) (F : Value → Option Value) (n0 : Nat) (ks : List Value) (v : Value) (w : World) : Prop :=
  ∃ mb es c, v = .map (some mb) ∧ n0 ≤ mb ∧ w.heap[mb]? = some (.map es c) ∧ Sub d F es ∧ ∀ k ∈ ks, HasK es k
theorem stable_inMap (ks : List Value) : StableR (RelM d F n0) (InMap d F n0 ks) := by
  rintro v w w' ⟨mb, es, c, rfl, h1, h2, h3, h4⟩ h
  rcases h.block mb (Array.getElem?_eq_some_iff.1 h2).1 with e | ⟨_, fs, x, es', c', e1, e2, e3⟩
  · exact ⟨mb, es, c, rfl, h1, e.trans h2, h3, h4⟩
  · rw [h2] at e1; cases e1
    exact ⟨mb, es', c', rfl, h1, e2, (e3 h3).1, fun k hk => (e3 h3).2 k (h4 k hk)⟩
theorem stable_rdsM (L : List (Nat → Nat)) : StableR (RelM d F n0) (fun v w => RdS w w.heap.size v L) := fun _ _ _ h hr => hr.rds h
theorem stable_rdM (L : List Value) : StableR (RelM d F n0) (fun v w => Rd w w.heap.size v L) := fun _ _ _ h hr => hr.rd h
/-- two words on one map -/
theorem InMap.both {ks ls : List Value} {v : Value} {w : World} (h : InMap d F n0 ks v w) (k : InMap d F n0 ls v w) : InMap d F n0 (ks ++ ls) v w := by
  obtain ⟨mb, es, c, rfl, h1, h2, h3, h4⟩ := h
  obtain ⟨mb', es', c', e, g1, g2, g3, g4⟩ := k
  cases e
  rw [h2] at g2; cases g2
  refine ⟨mb, es, c, rfl, h1, h2, h3, fun x hx => ?_⟩
  rcases List.mem_append.1 hx with hx | hx
  · exact h4 x hx
  · exact g4 x hx

section
variable {P : Program} {ops : Array Oper} {o : Oper} {a : Act} {w : World} {R : World → World → Prop} {S : Value → World → Prop}
theorem rm_of {t : Tmp} (hd : o.dst = some t) (h : QStep P ops R o a w S) : QStep P ops R o a w (fun v w' => S v w' ∧ (o.dst = none → v = ghost o a)) := by
  have hn : ∀ v : Value, o.dst = none → v = ghost o a := fun v e => by rw [hd] at e; cases e
  unfold QStep at h ⊢
  split at h
  · rename_i hw
    rw [if_pos hw]
    exact Oper.wp_mono (fun a' w' ⟨v, e, h1, h2⟩ => ⟨v, e, h1, h2, hn v⟩) h
  · rename_i hw
    rw [if_neg hw]
    exact ⟨h, hn _⟩
/-- what only makes memory: as the elder words say it -/
theorem rq_rs {S' : Value → World → Prop} (hR : ∀ w', Below w.heap.size w w' → R w w') (hS : ∀ v w', S' v w' → S v w') (h : RStep P ops o a w S') : QStep P ops R o a w S := by
  unfold RStep StepOk at h
  unfold QStep
  split at h
  · rename_i hw
    rw [if_pos hw]
    exact Oper.wp_mono (fun a' w' ⟨u, e, hb, h1⟩ => ⟨u, e, hR w' hb, hS _ _ h1⟩) h
  · rename_i hw
    rw [if_neg hw]
    exact hS _ _ h
theorem rm_makeMap {T : TypeId} (hg : Region.wanted o (yielded ops a.tmps) = true) (hop : o.op = .makeMap T none) (hn : n0 ≤ w.heap.size) : QStep P ops (RelM d F n0) o a w (InMap d F n0 []) := by
  unfold QStep; rw [if_pos hg]
  unfold Oper.wp
  have hr : (execOp a.eval o).run P w = .ok (.value (.map (some w.heap.size))) (w.alloc (.map #[] 0)) := by
    simp only [execOp, hop]
    simp [Instr.makeMap, newObj, go_sem]
    rfl
  rw [hr]
  simp only [Oper.upon]
  exact ⟨_, rfl, RelM.of_below ((Below.refl _ w).alloc (Nat.le_refl _) _), w.heap.size, #[], 0, rfl, hn, World.alloc_heap_new w _, Sub.nil _ _, fun k hk => by cases hk⟩
theorem rm_insert {T kt et : TypeId} {m : Tmp} {x y : Operand} {k v : Value} (hg : Region.wanted o (yielded ops a.tmps) = true) (hop : o.op = .insert T (.tmp m) x y) (hdst : o.dst = none)
    (hT : P.underlying T = some (.map kt et)) (hd : P.underlying kt = some d) (hm : InMap d F n0 [] (a.eval (.tmp m)) w) (hx : a.eval x = k) (hy : a.eval y = v) (hk : IsKey d k) (hF : F k = some v) :
    QStep P ops (RelM d F n0) o a w (fun v w' => InMap d F n0 [k] v w' ∧ (o.dst = none → v = ghost o a)) := by
  obtain ⟨mb, es, c, e, h1, h2, h3, _⟩ := hm
  obtain ⟨es', c', hr, g1, g2, g3⟩ := run_insert (w := w) hT hd h2 h3 hk hF
  unfold QStep; rw [if_pos hg]
  unfold Oper.wp
  have hr' : (execOp a.eval o).run P w = .ok .skip { w with heap := w.heap.setIfInBounds mb (.map es' c') } := by
    simp only [execOp, hop, hx, hy, e, Sem.run_bind, hr, Result.andThen]
    rfl
  rw [hr']
  simp only [Oper.upon]
  refine ⟨.map (some mb), (by rw [hdst]; rfl), ⟨rfl, rfl, rfl, by simp, fun j hj => ?_⟩, ⟨mb, es', c', rfl, h1, (heap_set h2).1, g1, fun z hz => by simp at hz; subst hz; exact g2⟩, fun _ => ?_⟩
  · by_cases hjm : j = mb
    · subst hjm
      exact .inr ⟨h1, es, c, es', c', h2, (heap_set h2).1, fun _ => ⟨g1, g3⟩⟩
    · exact .inl ((heap_set h2).2 j hjm)
  · unfold ghost ownT; rw [hop]; exact e.symm
end
end
end Go.Proofs.YtllmgmfihijejaaGreatDoor
/-
  What the words of a regex are, in plain Lean: no program in sight.
-/
namespace Go.Proofs.YtllmgmfihijejaaGreatDoor
open Go.RowKit

def digitS : Nat → Nat := rangeS 48 10
def lowerS : Nat → Nat := rangeS 97 26
def upperS : Nat → Nat := rangeS 65 26
def alnumS : Nat → Nat := unionS [digitS, lowerS, upperS]
def graphS : Nat → Nat := rangeS 33 94
def wordS : Nat → Nat := unionS [alnumS, ofS [95]]
def spaceS : Nat → Nat := ofS [9, 10, 12, 13, 32]

/-- the names of sets -/
def namesL : List (Str × (Nat → Nat)) :=
  [([97, 108, 110, 117, 109], alnumS), ([97, 108, 112, 104, 97], unionS [lowerS, upperS]), ([97, 115, 99, 105, 105], rangeS 0 128), ([98, 108, 97, 110, 107], ofS [9, 32]),
   ([99, 110, 116, 114, 108], unionS [rangeS 0 32, ofS [127]]), ([100, 105, 103, 105, 116], digitS), ([103, 114, 97, 112, 104], graphS), ([108, 111, 119, 101, 114], lowerS),
   ([112, 114, 105, 110, 116], rangeS 32 95), ([112, 117, 110, 99, 116], meetS [graphS, notS alnumS]), ([115, 112, 97, 99, 101], unionS [rangeS 9 5, ofS [32]]), ([117, 112, 112, 101, 114], upperS),
   ([119, 111, 114, 100], wordS), ([120, 100, 105, 103, 105, 116], unionS [digitS, rangeS 97 6, rangeS 65 6])]
def namedP (n : Str) : Option (Nat → Nat) := (namesL.find? (fun p => n == p.1)).map (·.2)

/-- the escapes of many bytes -/
def sortsL : List (Nat × (Nat → Nat)) := [(100, digitS), (119, wordS), (115, spaceS), (68, notS digitS), (87, notS wordS), (83, notS spaceS)]
def sortP (c : Nat) : Option (Nat → Nat) := (sortsL.find? (fun p => c == p.1)).map (·.2)

def hexP (c : Nat) : Option Nat := if 48 ≤ c ∧ c ≤ 57 then some (c - 48) else if 97 ≤ c ∧ c ≤ 102 then some (c - 87) else if 65 ≤ c ∧ c ≤ 70 then some (c - 55) else none
/-- the escapes of one byte -/
def plainP (c : Nat) : Option Nat := if c = 110 then some 10 else if c = 116 then some 9 else if c = 114 then some 13 else if c = 102 then some 12 else if c = 118 then some 11 else if c = 97 then some 7 else none

/-- the escape of one byte whose sign stands at i: its byte, and where it ends -/
def escP (L : Str) (i : Nat) : Option (Nat × Nat) :=
  if i + 1 < L.length then
    match plainP (byt L (i + 1)) with
    | some b => some (b, i + 2)
    | none =>
      if byt L (i + 1) = 120 then
        if i + 2 < L.length then
          match hexP (byt L (i + 2)) with
          | none => none
          | some h =>
            if i + 3 < L.length then
              match hexP (byt L (i + 3)) with
              | none => none
              | some g => some (16 * h + g, i + 4)
            else none
        else none
      else if 128 ≤ byt L (i + 1) then none
      else if hasB alnumS (byt L (i + 1)) then none
      else some (byt L (i + 1), i + 2)
  else none

/-- a byte of a class, as it is or as an escape -/
def thingP (L : Str) (i : Nat) : Option (Nat × Nat) :=
  if i < L.length then (if byt L i = 92 then escP L i else some (byt L i, i + 1)) else none

/-- does a text stand there? -/
def atP (L : Str) (i : Nat) (t : Str) : Bool := t.isPrefixOf (L.drop i)
/-- where a text stands first, from a place on -/
def findP (t : Str) : Str → Option Nat
  | [] => if t.isPrefixOf [] then some 0 else none
  | c :: l => if t.isPrefixOf (c :: l) then some 0 else (findP t l).map (· + 1)

/-- the set of a name in a class that stands at i. none: no name stands there; some none: it is none -/
def nameP (L : Str) (i : Nat) : Option (Option ((Nat → Nat) × Nat)) :=
  if atP L i [91, 58] then
    match findP [58, 93] (L.drop (i + 2)) with
    | none => none
    | some k =>
      let name := (L.drop (i + 2)).take k
      let neg := atP name 0 [94]
      match namedP (if neg then name.drop 1 else name) with
      | none => some none
      | some s => some (some (if neg then notS s else s, i + 2 + k + 2))
  else none

/-- a byte of a class, or a range -/
def itemTail (L : Str) (i : Nat) : Option ((Nat → Nat) × Nat) :=
  match thingP L i with
  | none => none
  | some (lo, k) =>
    if k + 1 < L.length ∧ byt L k = 45 ∧ byt L (k + 1) ≠ 93 then
      match thingP L (k + 1) with
      | none => none
      | some (hi, e) => if lo ≤ hi then some (rangeS lo (hi + 1 - lo), e) else none
    else some (ofS [(lo : Int)], k)
/-- what stands in a class at i, and where it ends -/
def itemP (L : Str) (i : Nat) : Option ((Nat → Nat) × Nat) :=
  match nameP L i with
  | some r => r
  | none =>
    match (if byt L i = 92 ∧ i + 1 < L.length then sortP (byt L (i + 1)) else none) with
    | some s => some (s, i + 2)
    | none => itemTail L i

/-- the items of a class, from a place on: the set, and where the class ends -/
def classGo (L : Str) : Nat → Nat → Bool → (Nat → Nat) → Option ((Nat → Nat) × Nat)
  | 0, _, _, _ => none
  | f + 1, k, first, S =>
    if first = false ∧ atP L k [93] = true then some (S, k + 1)
    else match itemP L k with
      | none => none
      | some (t, e) => classGo L f e false (unionS [S, t])

structure WordD where
  kind : Nat
  place : Nat
  set : Nat → Nat := emptyS
  neg : Bool := false
  spot : Nat := 0
  lo : Int := 0
  hi : Int := 0
  lazy : Bool := false
  on : Bool × Bool × Bool := (false, false, false)
  off : Bool × Bool × Bool := (false, false, false)

def wordC (w : WordD) : Array Value := #[.int .i64 w.kind, .int .i64 w.place, .int .u64 (w.set 0), .int .u64 (w.set 1), .int .u64 (w.set 2), .int .u64 (w.set 3), .bool w.neg, .int .i64 w.spot, .int .i64 w.lo, .int .i64 w.hi, .bool w.lazy,
  .bool w.on.1, .bool w.on.2.1, .bool w.on.2.2, .bool w.off.1, .bool w.off.2.1, .bool w.off.2.2]
abbrev wordV (w : WordD) : Value := .agg (wordC w)

theorem wg0 (w : WordD) : (wordC w)[0]? = some (.int .i64 w.kind) := rfl
theorem wg1 (w : WordD) : (wordC w)[1]? = some (.int .i64 w.place) := rfl
theorem wg2 (w : WordD) : (wordC w)[2]? = some (.int .u64 (w.set 0)) := rfl
theorem wg3 (w : WordD) : (wordC w)[3]? = some (.int .u64 (w.set 1)) := rfl
theorem wg4 (w : WordD) : (wordC w)[4]? = some (.int .u64 (w.set 2)) := rfl
theorem wg5 (w : WordD) : (wordC w)[5]? = some (.int .u64 (w.set 3)) := rfl
theorem wg6 (w : WordD) : (wordC w)[6]? = some (.bool w.neg) := rfl
theorem wg7 (w : WordD) : (wordC w)[7]? = some (.int .i64 w.spot) := rfl
theorem wg8 (w : WordD) : (wordC w)[8]? = some (.int .i64 w.lo) := rfl
theorem wg9 (w : WordD) : (wordC w)[9]? = some (.int .i64 w.hi) := rfl
theorem wg10 (w : WordD) : (wordC w)[10]? = some (.bool w.lazy) := rfl
theorem wg11 (w : WordD) : (wordC w)[11]? = some (.bool w.on.1) := rfl
theorem wg12 (w : WordD) : (wordC w)[12]? = some (.bool w.on.2.1) := rfl
theorem wg13 (w : WordD) : (wordC w)[13]? = some (.bool w.on.2.2) := rfl
theorem wg14 (w : WordD) : (wordC w)[14]? = some (.bool w.off.1) := rfl
theorem wg15 (w : WordD) : (wordC w)[15]? = some (.bool w.off.2.1) := rfl
theorem wg16 (w : WordD) : (wordC w)[16]? = some (.bool w.off.2.2) := rfl

/-- the class that stands at i -/
def classP (L : Str) (i : Nat) : Option (WordD × Nat) :=
  let neg := atP L (i + 1) [94]
  (classGo L (L.length + 1) (if neg then i + 2 else i + 1) true emptyS).map (fun (S, e) => ({ kind := 1, place := i, set := S, neg := neg }, e))

/-- the flags, from a place on -/
def flagsGo (L : Str) : Nat → Nat → Bool → Bool → WordD → Option (WordD × Nat)
  | 0, _, _, _, _ => none
  | f + 1, k, off, opn, w =>
    if k < L.length then
      let c := byt L k
      if c = 105 then flagsGo L f (k + 1) off true (if off then { w with off := (true, w.off.2.1, w.off.2.2) } else { w with on := (true, w.on.2.1, w.on.2.2) })
      else if c = 109 then flagsGo L f (k + 1) off true (if off then { w with off := (w.off.1, true, w.off.2.2) } else { w with on := (w.on.1, true, w.on.2.2) })
      else if c = 115 then flagsGo L f (k + 1) off true (if off then { w with off := (w.off.1, w.off.2.1, true) } else { w with on := (w.on.1, w.on.2.1, true) })
      else if c = 45 then (if off then none else flagsGo L f (k + 1) true false w)
      else if c = 58 then (if opn then some ({ w with kind := 7 }, k + 1) else none)
      else if c = 41 then (if opn then some ({ w with kind := 8 }, k + 1) else none)
      else none
    else none
/-- the flags whose (? stands at i -/
def flagsP (L : Str) (i : Nat) : Option (WordD × Nat) := flagsGo L (L.length + 1) (i + 2) false true { kind := 0, place := i }

def isDigit (c : UInt8) : Bool := decide (48 ≤ c.toNat) && decide (c.toNat ≤ 57)
def numF (l : Str) : Nat := l.foldl (fun n c => min (10 * n + (c.toNat - 48)) 101) 0
/-- the digits that stand at i, as a number, and where they end -/
def numberP (L : Str) (i : Nat) : Option (Nat × Nat) :=
  let ds := (L.drop i).takeWhile isDigit
  if ds = [] ∨ 1 < ds.length ∧ byt L i = 48 then none else some (numF ds, i + ds.length)

/-- a repeat in braces, whose { stands at i: its ends, and where it ends -/
def bracesP (L : Str) (i : Nat) : Option (Nat × Int × Nat) :=
  match numberP L (i + 1) with
  | none => none
  | some (n, k) =>
    if atP L k [44, 125] then some (n, -1, k + 2)
    else if atP L k [44] then
      match numberP L (k + 1) with
      | none => none
      | some (m, e) => if atP L e [125] then some (n, m, e + 1) else none
    else if atP L k [125] then some (n, n, k + 1) else none

/-- a repeat that ends at e, with the ? that may follow; an error: 6 -/
def repeatP (L : Str) (i : Nat) (lo hi : Int) (e : Nat) : Except Nat (WordD × Nat) :=
  if 100 < lo ∨ 100 < hi ∨ (0 ≤ hi ∧ hi < lo) then .error 6
  else if atP L e [63] then .ok ({ kind := 11, place := i, lo := lo, hi := hi, lazy := true }, e + 1)
  else .ok ({ kind := 11, place := i, lo := lo, hi := hi }, e)

def spotP (c : Nat) : Option Nat := if c = 98 then some 12 else if c = 66 then some 13 else if c = 65 then some 8 else if c = 122 then some 9 else none

/-- the escape that stands at i -/
def slashP (L : Str) (i : Nat) : Option (WordD × Nat) :=
  match (if i + 1 < L.length then sortP (byt L (i + 1)) else none) with
  | some s => some ({ kind := 1, place := i, set := s }, i + 2)
  | none =>
    match (if i + 1 < L.length then spotP (byt L (i + 1)) else none) with
    | some k => some ({ kind := 5, place := i, spot := k }, i + 2)
    | none => (escP L i).map (fun (b, e) => ({ kind := 1, place := i, set := ofS [(b : Int)] }, e))

def orErr {α : Type} : Option α → Except Nat α
  | some a => .ok a
  | none => .error 4

def signP (c : Nat) : Option Nat := if c = 46 then some 2 else if c = 94 then some 3 else if c = 36 then some 4 else if c = 41 then some 9 else if c = 124 then some 10 else none

/-- the word that stands at i, and where it ends; or its error -/
def wordP (L : Str) (i : Nat) : Except Nat (WordD × Nat) :=
  let c := byt L i
  if c = 92 then orErr (slashP L i)
  else if c = 91 then orErr (classP L i)
  else if c = 40 then (if atP L (i + 1) [63] then orErr (flagsP L i) else .ok ({ kind := 6, place := i }, i + 1))
  else if c = 123 then
    match bracesP L i with
    | some (lo, hi, e) => repeatP L i lo hi e
    | none => .ok ({ kind := 1, place := i, set := ofS [123] }, i + 1)
  else if c = 42 then repeatP L i 0 (-1) (i + 1)
  else if c = 43 then repeatP L i 1 (-1) (i + 1)
  else if c = 63 then repeatP L i 0 1 (i + 1)
  else match signP c with
    | some k => .ok ({ kind := k, place := i }, i + 1)
    | none => .ok ({ kind := 1, place := i, set := ofS [(c : Int)] }, i + 1)

/-- the words from a place on; or the place and the error -/
def wordsGo (L : Str) : Nat → Nat → Except (Nat × Nat) (List WordD)
  | 0, i => if i < L.length then .error (i, 0) else .ok []
  | f + 1, i =>
    if i < L.length then
      match wordP L i with
      | .error e => .error (i, e)
      | .ok (w, j) =>
        match wordsGo L f j with
        | .error x => .error x
        | .ok l => .ok (w :: l)
    else .ok []
def wordsP (L : Str) : Except (Nat × Nat) (List WordD) := wordsGo L L.length 0

end Go.Proofs.YtllmgmfihijejaaGreatDoor
/-
  Plain facts on the words of a regex.
-/
namespace Go.Proofs.YtllmgmfihijejaaGreatDoor
open Go.RowKit

theorem digitS_ok : SetOk digitS := ofS_ok _
theorem lowerS_ok : SetOk lowerS := ofS_ok _
theorem upperS_ok : SetOk upperS := ofS_ok _
theorem graphS_ok : SetOk graphS := ofS_ok _
theorem ok1 {s : Nat → Nat} (hs : SetOk s) : ∀ x ∈ [s], SetOk x := by intro x hx; simp at hx; subst hx; exact hs
theorem ok2 {s t : Nat → Nat} (hs : SetOk s) (ht : SetOk t) : ∀ x ∈ [s, t], SetOk x := by intro x hx; simp at hx; rcases hx with rfl | rfl <;> assumption
theorem ok3 {s t u : Nat → Nat} (hs : SetOk s) (ht : SetOk t) (hu : SetOk u) : ∀ x ∈ [s, t, u], SetOk x := by intro x hx; simp at hx; rcases hx with rfl | rfl | rfl <;> assumption
theorem alnumS_ok : SetOk alnumS := unionS_ok (ok3 digitS_ok lowerS_ok upperS_ok)
theorem wordS_ok : SetOk wordS := unionS_ok (ok2 alnumS_ok (ofS_ok _))
theorem rangeS_ok (lo n : Nat) : SetOk (rangeS lo n) := ofS_ok _

theorem names_ok : ∀ p ∈ namesL, SetOk p.2 := by
  intro p hp
  simp only [namesL, List.mem_cons, List.not_mem_nil, or_false] at hp
  rcases hp with rfl | rfl | rfl | rfl | rfl | rfl | rfl | rfl | rfl | rfl | rfl | rfl | rfl | rfl
  · exact alnumS_ok
  · exact unionS_ok (ok2 lowerS_ok upperS_ok)
  · exact rangeS_ok _ _
  · exact ofS_ok _
  · exact unionS_ok (ok2 (rangeS_ok _ _) (ofS_ok _))
  · exact digitS_ok
  · exact graphS_ok
  · exact lowerS_ok
  · exact rangeS_ok _ _
  · exact meetS_ok (ok2 graphS_ok (notS_ok _))
  · exact unionS_ok (ok2 (rangeS_ok _ _) (ofS_ok _))
  · exact upperS_ok
  · exact wordS_ok
  · exact unionS_ok (ok3 digitS_ok (rangeS_ok _ _) (rangeS_ok _ _))
theorem namedP_ok {n : Str} {s : Nat → Nat} (h : namedP n = some s) : SetOk s := by
  unfold namedP at h
  obtain ⟨p, hp, rfl⟩ := Option.map_eq_some_iff.1 h
  exact names_ok p (List.mem_of_find?_eq_some hp)
theorem sortP_ok {c : Nat} {s : Nat → Nat} (h : sortP c = some s) : SetOk s := by
  unfold sortP at h
  obtain ⟨p, hp, rfl⟩ := Option.map_eq_some_iff.1 h
  have := List.mem_of_find?_eq_some hp
  simp only [sortsL, List.mem_cons, List.not_mem_nil, or_false] at this
  rcases this with rfl | rfl | rfl | rfl | rfl | rfl
  · exact digitS_ok
  · exact wordS_ok
  · exact ofS_ok _
  · exact notS_ok _
  · exact notS_ok _
  · exact notS_ok _

/-! ### texts -/
theorem at_out {L t : Str} {i : Nat} (h : L.length < i + t.length) (ht : t ≠ []) : atP L i t = false := by
  unfold atP
  rw [Bool.eq_false_iff]
  intro hc
  have := List.IsPrefix.length_le (List.isPrefixOf_iff_prefix.1 hc)
  simp at this
  have : 0 < t.length := List.length_pos_iff.2 ht
  omega
theorem at_in {L t : Str} {i : Nat} (h : i + t.length ≤ L.length) : ((L.take (i + t.length)).drop i == t) = atP L i t := by
  unfold atP
  have e : (L.take (i + t.length)).drop i = (L.drop i).take t.length := by rw [List.drop_take]; congr 1; omega
  rw [e, Bool.eq_iff_iff, beq_iff_eq, List.isPrefixOf_iff_prefix, List.prefix_iff_eq_take, eq_comm]

def fnd (L : Str) (k : Nat) (t : Str) : Option Nat := (findP t (L.drop k)).map (· + k)
theorem fnd_hit {L t : Str} {k : Nat} (h : atP L k t = true) : fnd L k t = some k := by
  unfold fnd
  unfold atP at h
  cases hd : L.drop k with
  | nil => rw [hd] at h; simp [findP, h]
  | cons c l => rw [hd] at h; simp [findP, h]
theorem fnd_miss {L t : Str} {k : Nat} (h : atP L k t = false) (hk : k < L.length) : fnd L k t = fnd L (k + 1) t := by
  unfold fnd
  unfold atP at h
  rw [List.drop_eq_getElem_cons hk] at h ⊢
  rw [findP, if_neg (by rw [h]; simp), Option.map_map]
  congr 1
  funext x
  simp; omega
theorem findP_short {t : Str} : ∀ (l : Str), l.length < t.length → findP t l = none
  | [], h => by
    have : t ≠ [] := by intro e; subst e; simp at h
    rw [findP, if_neg (by rw [List.isPrefixOf_iff_prefix]; intro hp; exact this (List.prefix_nil.1 hp))]
  | c :: l, h => by
    rw [findP, if_neg (by
      intro hp
      have := List.IsPrefix.length_le (List.isPrefixOf_iff_prefix.1 hp)
      omega), findP_short l (by simp at h; omega)]
    rfl
theorem fnd_end {L t : Str} {k : Nat} (h : L.length < k + t.length) (ht : t ≠ []) : fnd L k t = none := by
  unfold fnd
  rw [findP_short _ (by
    have : 0 < t.length := List.length_pos_iff.2 ht
    simp; omega)]
  rfl

/-! ### numbers -/
def digB (c : Nat) : Bool := decide (48 ≤ c) && decide (c ≤ 57)
theorem numF_snoc (l : Str) (c : UInt8) : numF (l ++ [c]) = min (10 * numF l + (c.toNat - 48)) 101 := by simp [numF]
theorem numF_le (l : Str) : numF l ≤ 101 := by
  rcases List.eq_nil_or_concat l with rfl | ⟨l', c, rfl⟩
  · simp [numF]
  · rw [List.concat_eq_append, numF_snoc]; omega
theorem byt_get {L : Str} {k : Nat} (h : k < L.length) : byt L k = L[k].toNat := by
  unfold byt; rw [List.getD_eq_getElem?_getD, List.getElem?_eq_getElem h]; rfl
theorem seg_snoc {L : Str} {i k : Nat} (h1 : i ≤ k) (h2 : k < L.length) : (L.drop i).take (k + 1 - i) = (L.drop i).take (k - i) ++ [L[k]] := by
  rw [show k + 1 - i = (k - i) + 1 from by omega, List.take_succ_eq_append_getElem (by simp; omega)]
  congr 2
  simp [show i + (k - i) = k from by omega]
theorem num_step {L : Str} {i k : Nat} (h1 : i ≤ k) (h2 : k < L.length) : numF ((L.drop i).take (k + 1 - i)) = min (10 * numF ((L.drop i).take (k - i)) + (byt L k - 48)) 101 := by
  rw [seg_snoc h1 h2, numF_snoc, byt_get h2]
theorem dig_step {L : Str} {i k : Nat} (h1 : i ≤ k) (h2 : k < L.length) (h : ((L.drop i).take (k - i)).all isDigit = true) (hd : digB (byt L k) = true) : ((L.drop i).take (k + 1 - i)).all isDigit = true := by
  rw [seg_snoc h1 h2, List.all_append, h, byt_get h2] at *
  simpa [isDigit, digB] using hd
theorem takeWhile_eq {p : UInt8 → Bool} : ∀ (l : Str) (n : Nat), n ≤ l.length → (l.take n).all p = true → (∀ h : n < l.length, p l[n] = false) → l.takeWhile p = l.take n
  | [], n, h, _, _ => by simp
  | c :: l, 0, _, _, h3 => by
    have := h3 (by simp)
    simp at this
    simp [this]
  | c :: l, n + 1, h1, h2, h3 => by
    simp only [List.take_succ_cons, List.all_cons, Bool.and_eq_true] at h2
    rw [List.takeWhile_cons, if_pos h2.1, List.take_succ_cons, takeWhile_eq l n (by simp at h1; omega) h2.2 (fun h => h3 (Nat.succ_lt_succ h))]
theorem numberP_eq {L : Str} {i k : Nat} (h1 : i ≤ k) (h2 : k ≤ L.length) (h : ((L.drop i).take (k - i)).all isDigit = true) (he : k < L.length → digB (byt L k) = false) :
    numberP L i = if k = i ∨ (i + 1 < k ∧ byt L i = 48) then none else some (numF ((L.drop i).take (k - i)), k) := by
  have e : (L.drop i).takeWhile isDigit = (L.drop i).take (k - i) := takeWhile_eq _ _ (by simp; omega) h (fun hlt => by
    simp at hlt
    have h3 := he (by omega)
    rw [byt_get (by omega)] at h3
    simp only [List.getElem_drop]
    have e2 : i + (k - i) = k := by omega
    simp only [e2]
    simpa [isDigit, digB] using h3)
  unfold numberP
  simp only [e]
  have hl : ((L.drop i).take (k - i)).length = k - i := by simp; omega
  by_cases hk : k = i
  · subst hk; simp
  · have hne : (L.drop i).take (k - i) ≠ [] := by intro hc; rw [hc] at hl; simp at hl; omega
    rw [hl, show i + (k - i) = k from by omega]
    by_cases h5 : i + 1 < k ∧ byt L i = 48
    · rw [if_pos (.inr ⟨by omega, h5.2⟩), if_pos (.inr h5)]
    · rw [if_neg (by rintro (h6 | h6); exact hne h6; exact h5 ⟨by omega, h6.2⟩), if_neg (by rintro (h6 | h6); exact hk h6; exact h5 h6)]

/-! ### ends lie within -/
theorem escP_le {L : Str} {i b e : Nat} (h : escP L i = some (b, e)) : i + 2 ≤ e ∧ e ≤ L.length ∧ b < 256 := by
  unfold escP at h
  split at h
  · rename_i h1
    split at h
    · rename_i b' hp
      cases h
      refine ⟨by omega, by omega, ?_⟩
      unfold plainP at hp
      (repeat' split at hp) <;> first | (cases hp; omega) | cases hp
    · split at h
      · split at h
        · split at h
          · cases h
          · rename_i x hx
            split at h
            · split at h
              · cases h
              · rename_i y hy
                cases h
                have hx1 : x ≤ 15 := by unfold hexP at hx; (repeat' split at hx) <;> first | (cases hx; omega) | cases hx
                have hy1 : y ≤ 15 := by unfold hexP at hy; (repeat' split at hy) <;> first | (cases hy; omega) | cases hy
                omega
            · cases h
        · cases h
      · split at h
        · cases h
        · split at h
          · cases h
          · cases h
            have := byt_lt L (i + 1)
            omega
  · cases h
theorem thingP_le {L : Str} {i b e : Nat} (h : thingP L i = some (b, e)) : i + 1 ≤ e ∧ e ≤ L.length ∧ b < 256 := by
  unfold thingP at h
  split at h
  · split at h
    · have := escP_le h; omega
    · cases h
      have := byt_lt L i
      omega
  · cases h
theorem findP_le {t : Str} : ∀ {l : Str} {k : Nat}, findP t l = some k → k + t.length ≤ l.length
  | [], k, h => by
    unfold findP at h
    split at h
    · rename_i hp
      cases h
      have := List.IsPrefix.length_le (List.isPrefixOf_iff_prefix.1 hp)
      simpa using this
    · cases h
  | c :: l, k, h => by
    unfold findP at h
    split at h
    · rename_i hp
      cases h
      have := List.IsPrefix.length_le (List.isPrefixOf_iff_prefix.1 hp)
      omega
    · obtain ⟨k', hk, rfl⟩ := Option.map_eq_some_iff.1 h
      have := findP_le hk
      simp; omega
theorem at_le {L t : Str} {i : Nat} (h : atP L i t = true) (ht : t ≠ []) : i + t.length ≤ L.length := by
  by_cases hc : i + t.length ≤ L.length
  · exact hc
  · rw [at_out (by omega) ht] at h; cases h
theorem nameP_le {L : Str} {i e : Nat} {s : Nat → Nat} (h : nameP L i = some (some (s, e))) : i + 4 ≤ e ∧ e ≤ L.length ∧ SetOk s := by
  unfold nameP at h
  split at h
  · rename_i ha
    have hl := at_le ha (by simp)
    simp at hl
    split at h
    · cases h
    · rename_i k hf
      have hk := findP_le hf
      simp at hk
      simp only [] at h
      split at h
      · cases h
      · rename_i s' hn
        simp only [Option.some.injEq, Prod.mk.injEq] at h
        obtain ⟨h1, h2⟩ := h
        refine ⟨by omega, by omega, ?_⟩
        subst h1
        split
        · exact notS_ok _
        · exact namedP_ok hn
  · cases h
theorem itemTail_le {L : Str} {i e : Nat} {s : Nat → Nat} (h : itemTail L i = some (s, e)) : i + 1 ≤ e ∧ e ≤ L.length ∧ SetOk s := by
  unfold itemTail at h
  split at h
  · cases h
  · rename_i lo k ht
    have h1 := thingP_le ht
    split at h
    · split at h
      · cases h
      · rename_i hi e' ht2
        have h2 := thingP_le ht2
        split at h
        · cases h
          exact ⟨by omega, by omega, rangeS_ok _ _⟩
        · cases h
    · cases h
      exact ⟨by omega, by omega, ofS_ok _⟩
theorem itemP_le {L : Str} {i e : Nat} {s : Nat → Nat} (h : itemP L i = some (s, e)) : i + 1 ≤ e ∧ e ≤ L.length ∧ SetOk s := by
  unfold itemP at h
  split at h
  · rename_i r hr
    subst h
    have := nameP_le hr
    exact ⟨by omega, this.2.1, this.2.2⟩
  · split at h
    · rename_i s' hs
      split at hs
      · rename_i hc
        cases h
        exact ⟨by omega, by omega, sortP_ok hs⟩
      · cases hs
    · exact itemTail_le h
theorem name_seg {L : Str} {i k : Nat} : (L.take (k + (i + 2))).drop (i + 2) = (L.drop (i + 2)).take k := by
  rw [List.drop_take]; congr 1; omega

/-! ### the set of a word in memory -/
section
variable {P : Program} {ops : Array Oper} {rest : List Oper} {o : Oper} {a : Act} {w w0 : World} {Q : Exit → Act → World → Prop} {l : List Res}
theorem word_loadS (hg : Region.wanted o (yielded ops a.tmps) = true) (T : TypeId) (x : Operand) (ho : o.op = .load T x) {b : Nat} (hx : a.eval x = .pointer (some ⟨b, 2, none⟩)) (H : Hold w0 w l) {i : Nat} {d : WordD} {U : TypeId} (hi : At l i (.blk b (wordC d) U))
    (hT : rowB P T 4 = true) (h : wpList P ops Q rest (a.put o.dst (setV d.set)) w) : wpList P ops Q (o :: rest) a w :=
  own_loadN hg T x ho hx H hi (setC d.set) hT rfl h
theorem word_storeS (hg : Region.wanted o (yielded ops a.tmps) = true) (T : TypeId) (x y : Operand) (ho : o.op = .store T x y) {b : Nat} (hx : a.eval x = .pointer (some ⟨b, 2, none⟩)) {s : Nat → Nat} (hy : a.eval y = setV s) (H : Hold w0 w l) {i : Nat} {d : WordD} {U : TypeId} (hi : At l i (.blk b (wordC d) U))
    (hT : sizeB P T 4 = true) (h : ∀ w', Hold w0 w' (l.set i (.blk b (wordC { d with set := s }) U)) → wpList P ops Q rest (a.put o.dst undef) w') : wpList P ops Q (o :: rest) a w :=
  own_storeN hg T x y ho hx (vs := setC s) hy H hi hT rfl rfl (show 2 + 4 ≤ 17 by omega) h
end

def WordR (o : Option (WordD × Nat)) (e : Ending) : Prop := match o with
  | some (w, k) => e = .returned (.tuple #[wordV w, .int .i64 k])
  | none => ∃ w, e = .returned (.tuple #[wordV w, .int .i64 (-1)])
theorem WordR.ok {o : Option (WordD × Nat)} {w : WordD} {k : Nat} (h : o = some (w, k)) : WordR o (.returned (.tuple #[wordV w, .int .i64 k])) := by subst h; rfl
theorem WordR.no {o : Option (WordD × Nat)} {w : WordD} (h : o = none) : WordR o (.returned (.tuple #[wordV w, .int .i64 (-1)])) := by subst h; exact ⟨w, rfl⟩
def brW (i : Nat) (o : Option (Nat × Int × Nat)) : Option (WordD × Nat) := o.map (fun p => ({ kind := 11, place := i, lo := p.1, hi := p.2.1 }, p.2.2))
theorem numberP_le {L : Str} {i n k : Nat} (h : numberP L i = some (n, k)) (hi : i ≤ L.length) : i + 1 ≤ k ∧ k ≤ L.length ∧ n ≤ 101 := by
  unfold numberP at h
  simp only [] at h
  split at h
  · cases h
  · rename_i hc
    simp only [Option.some.injEq, Prod.mk.injEq] at h
    obtain ⟨rfl, rfl⟩ := h
    have h1 : ((L.drop i).takeWhile isDigit).length ≤ (L.drop i).length := (List.takeWhile_prefix _).length_le
    have h2 : ((L.drop i).takeWhile isDigit).length ≠ 0 := fun e => hc (.inl (List.length_eq_zero_iff.1 e))
    simp at h1
    exact ⟨by omega, by omega, numF_le _⟩

/-! ### where words end -/
theorem classGo_le {L : Str} : ∀ (f k : Nat) (b : Bool) (S S' : Nat → Nat) (e : Nat), k ≤ L.length → classGo L f k b S = some (S', e) → k + 1 ≤ e ∧ e ≤ L.length
  | 0, _, _, _, _, _, _, h => by cases h
  | f + 1, k, b, S, S', e, hk, h => by
    rw [classGo] at h
    split at h
    · rename_i hc
      have := at_le hc.2 (by simp)
      simp at this
      cases h
      omega
    · split at h
      · cases h
      · rename_i t e' hi
        have h1 := itemP_le hi
        have := classGo_le f e' false _ S' e h1.2.1 h
        omega
theorem classP_le {L : Str} {i e : Nat} {d : WordD} (hi : i < L.length) (h : classP L i = some (d, e)) : i + 1 ≤ e ∧ e ≤ L.length := by
  unfold classP at h
  obtain ⟨⟨S, e'⟩, h1, h2⟩ := Option.map_eq_some_iff.1 h
  cases h2
  split at h1
  · rename_i ha
    have := at_le ha (by simp)
    simp at this
    have := classGo_le _ _ _ _ _ _ (by omega) h1
    omega
  · have := classGo_le _ _ _ _ _ _ (by omega) h1
    omega
theorem flagsGo_le {L : Str} : ∀ (f k : Nat) (a b : Bool) (d d' : WordD) (e : Nat), flagsGo L f k a b d = some (d', e) → k + 1 ≤ e ∧ e ≤ L.length
  | 0, _, _, _, _, _, _, h => by cases h
  | f + 1, k, a, b, d, d', e, h => by
    rw [flagsGo] at h
    split at h
    · rename_i hk
      simp only [] at h
      split at h
      · have := flagsGo_le f _ _ _ _ _ _ h; omega
      · split at h
        · have := flagsGo_le f _ _ _ _ _ _ h; omega
        · split at h
          · have := flagsGo_le f _ _ _ _ _ _ h; omega
          · split at h
            · split at h
              · cases h
              · have := flagsGo_le f _ _ _ _ _ _ h; omega
            · split at h
              · split at h
                · cases h; omega
                · cases h
              · split at h
                · split at h
                  · cases h; omega
                  · cases h
                · cases h
    · cases h
theorem slashP_le {L : Str} {i e : Nat} {d : WordD} (h : slashP L i = some (d, e)) : i + 1 ≤ e ∧ e ≤ L.length := by
  unfold slashP at h
  split at h
  · rename_i s hs
    split at hs
    · cases h; omega
    · cases hs
  · split at h
    · rename_i k hk
      split at hk
      · cases h; omega
      · cases hk
    · obtain ⟨⟨b, e'⟩, h1, h2⟩ := Option.map_eq_some_iff.1 h
      cases h2
      have := escP_le h1
      omega
theorem repeatP_le {L : Str} {i e k : Nat} {lo hi : Int} {d : WordD} (he : e ≤ L.length) (h : repeatP L i lo hi e = .ok (d, k)) : e ≤ k ∧ k ≤ L.length := by
  unfold repeatP at h
  split at h
  · cases h
  · split at h
    · rename_i ha
      have := at_le ha (by simp)
      simp at this
      cases h; omega
    · cases h; omega
theorem orErr_ok {α : Type} {o : Option α} {x : α} (h : orErr o = .ok x) : o = some x := by cases o <;> cases h; rfl
theorem bracesP_in {L : Str} {i lo e : Nat} {hi : Int} (h : bracesP L i = some (lo, hi, e)) (hi2 : i < L.length) : i + 2 ≤ e ∧ e ≤ L.length := by
  unfold bracesP at h
  split at h
  · cases h
  · rename_i n k hn
    have h1 := numberP_le hn (by omega)
    split at h
    · rename_i ha
      have := at_le ha (by simp)
      simp at this
      cases h
      omega
    · split at h
      · rename_i ha
        have h2 := at_le ha (by simp)
        simp at h2
        split at h
        · cases h
        · rename_i m e' hm
          have h3 := numberP_le hm (by omega)
          split at h
          · rename_i hb
            have h4 := at_le hb (by simp)
            simp at h4
            cases h
            omega
          · cases h
      · split at h
        · rename_i hb
          have h4 := at_le hb (by simp)
          simp at h4
          cases h
          omega
        · cases h
theorem wordP_le {L : Str} {i k : Nat} {d : WordD} (hi : i < L.length) (h : wordP L i = .ok (d, k)) : i + 1 ≤ k ∧ k ≤ L.length := by
  unfold wordP at h
  simp only [] at h
  split at h
  · exact slashP_le (orErr_ok h)
  · split at h
    · exact classP_le hi (orErr_ok h)
    · split at h
      · split at h
        · have := flagsGo_le _ _ _ _ _ _ _ (orErr_ok h)
          omega
        · cases h; omega
      · split at h
        · split at h
          · rename_i lo hi2 e hb
            have h1 := bracesP_in hb hi
            have := repeatP_le (by omega) h
            omega
          · cases h; omega
        · split at h
          · have := repeatP_le (by omega) h; omega
          · split at h
            · have := repeatP_le (by omega) h; omega
            · split at h
              · have := repeatP_le (by omega) h; omega
              · split at h
                · cases h; omega
                · cases h; omega

/-- some words, and those behind them -/
def wcat (ws : List WordD) : Except (Nat × Nat) (List WordD) → Except (Nat × Nat) (List WordD)
  | .error x => .error x
  | .ok l => .ok (ws ++ l)
theorem wcat_nil (r : Except (Nat × Nat) (List WordD)) : wcat [] r = r := by cases r <;> rfl
theorem words_ok {L : Str} {f j k : Nat} {d : WordD} {ws : List WordD} (hj : j < L.length) (h : wordP L j = .ok (d, k)) : wcat ws (wordsGo L (f + 1) j) = wcat (ws ++ [d]) (wordsGo L f k) := by
  rw [wordsGo, if_pos hj, h]
  simp only []
  cases wordsGo L f k with
  | error x => rfl
  | ok l => simp [wcat]
theorem words_err {L : Str} {f j x : Nat} {ws : List WordD} (hj : j < L.length) (h : wordP L j = .error x) : wcat ws (wordsGo L (f + 1) j) = .error (j, x) := by
  rw [wordsGo, if_pos hj, h]; rfl
theorem words_end {L : Str} {f j : Nat} {ws : List WordD} (hj : ¬ j < L.length) : wcat ws (wordsGo L f j) = .ok ws := by
  cases f with
  | zero => rw [wordsGo, if_neg hj]; simp [wcat]
  | succ f => rw [wordsGo, if_neg hj]; simp [wcat]
def flatW (ws : List WordD) : List Value := ws.flatMap (fun d => (wordC d).toList)
theorem flatW_snoc (ws : List WordD) (d : WordD) : flatW (ws ++ [d]) = flatW ws ++ (wordC d).toList := by simp [flatW]
theorem repeatP_err {L : Str} {i e x : Nat} {lo hi : Int} (h : repeatP L i lo hi e = .error x) : x = 6 := by
  unfold repeatP at h
  split at h
  · cases h; rfl
  · split at h <;> cases h
theorem orErr_err {α : Type} {o : Option α} {x : Nat} (h : orErr o = .error x) : x = 4 := by cases o <;> cases h; rfl
theorem wordP_err {L : Str} {i x : Nat} (h : wordP L i = .error x) : x = 4 ∨ x = 6 := by
  unfold wordP at h
  simp only [] at h
  split at h
  · exact .inl (orErr_err h)
  · split at h
    · exact .inl (orErr_err h)
    · split at h
      · split at h
        · exact .inl (orErr_err h)
        · cases h
      · split at h
        · split at h
          · exact .inr (repeatP_err h)
          · cases h
        · split at h
          · exact .inr (repeatP_err h)
          · split at h
            · exact .inr (repeatP_err h)
            · split at h
              · exact .inr (repeatP_err h)
              · split at h <;> cases h
end Go.Proofs.YtllmgmfihijejaaGreatDoor
/-
  A region that DRAWS ITS ORDER, makes memory and lays words in it: stores among the head.
-/
namespace Go.Proofs.YtllmgmfihijejaaGreatDoor
open Go.RowKit

structure RelC (C : Array Value) (n0 : Nat) (w w' : World) : Prop where
  os : w'.os = w.os
  tape : w'.tape = w.tape
  output : w'.output = w.output
  size : w.heap.size ≤ w'.heap.size
  block : ∀ k, k < w.heap.size → w'.heap[k]? = w.heap[k]? ∨ (n0 ≤ k ∧ ∃ cs T, w.heap[k]? = some (.cells cs T (0, 0)) ∧ cs.size = C.size ∧ w'.heap[k]? = some (.cells C T (0, 0)))
section
variable {C : Array Value} {n0 : Nat}
theorem RelC.refl (w : World) : RelC C n0 w w := ⟨rfl, rfl, rfl, Nat.le_refl _, fun _ _ => .inl rfl⟩
theorem RelC.trans (u v w : World) (h : RelC C n0 u v) (k : RelC C n0 v w) : RelC C n0 u w := by
  refine ⟨k.os.trans h.os, k.tape.trans h.tape, k.output.trans h.output, Nat.le_trans h.size k.size, fun i hi => ?_⟩
  rcases h.block i hi with e1 | ⟨hn, cs, T, e1, e2, e3⟩
  · rcases k.block i (Nat.lt_of_lt_of_le hi h.size) with e2 | ⟨hn, cs, T, f1, f2, f3⟩
    · exact .inl (e2.trans e1)
    · exact .inr ⟨hn, cs, T, e1 ▸ f1, f2, f3⟩
  · rcases k.block i (Nat.lt_of_lt_of_le hi h.size) with f1 | ⟨_, cs', T', f1, f2, f3⟩
    · exact .inr ⟨hn, cs, T, e1, e2, f1.trans e3⟩
    · rw [e3] at f1; cases f1
      exact .inr ⟨hn, cs, T, e1, e2, f3⟩
theorem RelC.drew (w : World) : RelC C n0 w { w with drawn := w.drawn + 1 } := ⟨rfl, rfl, rfl, Nat.le_refl _, fun _ _ => .inl rfl⟩
theorem RelC.of_below {w w' : World} (h : Below w.heap.size w w') : RelC C n0 w w' := ⟨h.os, h.tape, h.output, h.size, fun k hk => .inl (h.block k hk)⟩
theorem RelC.below {w w' : World} (h : RelC C w.heap.size w w') : Below w.heap.size w w' :=
  ⟨h.os, h.tape, h.output, h.size, fun k hk => by rcases h.block k hk with e | ⟨hn, _⟩; exact e; omega⟩
theorem RelC.below' {w w' : World} (h : RelC C w.heap.size w w') : Below w.heap.size w w' := h.below
/-- new memory of that size -/
def InBlk (C : Array Value) (n0 : Nat) (T : TypeId) (v : Value) (w : World) : Prop := ∃ b cs, v = .pointer (some ⟨b, 0, none⟩) ∧ n0 ≤ b ∧ w.heap[b]? = some (.cells cs T (0, 0)) ∧ cs.size = C.size
/-- .. that holds it -/
def IsBlk (C : Array Value) (n0 : Nat) (T : TypeId) (v : Value) (w : World) : Prop := ∃ b, v = .pointer (some ⟨b, 0, none⟩) ∧ n0 ≤ b ∧ w.heap[b]? = some (.cells C T (0, 0))
theorem stable_inBlk (T : TypeId) : StableR (RelC C n0) (InBlk C n0 T) := fun v w w' ⟨b, cs, e, hn, hb, hs⟩ hr => by
  rcases hr.block b (Array.getElem?_eq_some_iff.1 hb).1 with e1 | ⟨_, cs', T', f1, f2, f3⟩
  · exact ⟨b, cs, e, hn, e1.trans hb, hs⟩
  · rw [hb] at f1; cases f1
    exact ⟨b, C, e, hn, f3, rfl⟩
theorem stable_isBlk (T : TypeId) : StableR (RelC C n0) (IsBlk C n0 T) := fun v w w' ⟨b, e, hn, hb⟩ hr => by
  rcases hr.block b (Array.getElem?_eq_some_iff.1 hb).1 with e1 | ⟨_, cs', T', f1, f2, f3⟩
  · exact ⟨b, e, hn, e1.trans hb⟩
  · rw [hb] at f1; cases f1
    exact ⟨b, e, hn, f3⟩
end
section
variable {P : Program} {ops : Array Oper} {o : Oper} {a : Act} {w : World} {C : Array Value} {n0 : Nat}
theorem rc_alloc {T : TypeId} (hg : Region.wanted o (yielded ops a.tmps) = true) (hop : o.op = .alloc T) (hi : ((P.info? T).bind (·.zero)).isSome = true) (hz : (zeroC P T).size = C.size) (hn : n0 ≤ w.heap.size) : QStep P ops (RelC C n0) o a w (InBlk C n0 T) := by
  unfold QStep; rw [if_pos hg]
  unfold Oper.wp execOp
  cases hi1 : P.info? T with
  | none => simp [hi1] at hi
  | some i0 =>
    cases hz0 : i0.zero with
    | none => simp [hi1, hz0] at hi
    | some z =>
      have hzc : zeroC P T = z.cells := by simp [zeroC, hi1, hz0]
      simp [hop, Instr.alloc, zeroValue, typeInfo, hi1, hz0, newVar, newRow]
      exact ⟨_, rfl, RelC.of_below ((Below.refl _ w).alloc (Nat.le_refl _) _), w.heap.size, z.cells, rfl, hn, World.alloc_heap_new w _, hzc ▸ hz⟩
theorem rc_store {T U : TypeId} {m : Tmp} {y : Operand} (hg : Region.wanted o (yielded ops a.tmps) = true) (hop : o.op = .store T (.tmp m) y) (hdst : o.dst = none) (hm : InBlk C n0 U (a.eval (.tmp m)) w) (hy : a.eval y = .agg C) (hT : sizeB P T C.size = true) (h1 : C.all (·.oneCell') = true) :
    QStep P ops (RelC C n0) o a w (fun v w' => IsBlk C n0 U v w' ∧ (o.dst = none → v = ghost o a)) := by
  obtain ⟨b, cs, e, hn, hb, hs⟩ := hm
  have hth : w.there b 0 C.size := fun j hj => by
    rw [cell_of_row w b (0 + j) cs U (0, 0) hb]
    simp [World.frozen?, hb]; omega
  unfold QStep; rw [if_pos hg]
  unfold Oper.wp
  have hr' : (execOp a.eval o).run P w = .ok .skip (w.setCells b 0 C.toList) := by
    unfold execOp
    simp only [hop, e, hy, Instr.storeAt, Instr.sureAddr, Sem.run_bind, Sem.run_pure, Result.andThen_ok, run_storeVar_mid (P := P) w b 0 T C hth (by simpa [sizeB] using hT) h1]
  rw [hr']
  simp only [Oper.upon]
  have hg2 := setCells_grown C.toList 0 w b
  have hh := heap_setCells C.toList 0 w b cs U _ hb
  rw [setSeg_whole (by omega)] at hh
  refine ⟨.pointer (some ⟨b, 0, none⟩), (by rw [hdst]; rfl), ⟨hg2.os, hg2.tape, hg2.output, hg2.size, fun j hj => ?_⟩, ⟨b, rfl, hn, hh⟩, fun _ => ?_⟩
  · by_cases hjb : j = b
    · subst hjb
      exact .inr ⟨hn, cs, U, hb, hs, hh⟩
    · exact .inl (hg2.block j hj (fun e => by cases e; exact hjb rfl))
  · unfold ghost ownT; rw [hop]; exact e.symm
end

/-! ### rows of words -/
/-- the value reads as a row of words, below b0 -/
def RdW (w : World) (b0 : Nat) (v : Value) (ws : List WordD) : Prop := ∃ q cap, v = .slice q ws.length cap ∧ ws.length ≤ 1000 ∧
  ∀ j d, ws[j]? = some d → ∃ g cs T, q = some ⟨g, 0, none⟩ ∧ g < b0 ∧ w.heap[g]? = some (.cells cs T (0, 0)) ∧ ∀ k, k < 17 → cs[j * 17 + k]? = (wordC d)[k]?
theorem RdW.below {w w' : World} {b0 : Nat} {v : Value} {ws : List WordD} (h : RdW w b0 v ws) (hb : Below b0 w w') : RdW w' b0 v ws := by
  obtain ⟨q, cap, e, hl, h⟩ := h
  refine ⟨q, cap, e, hl, fun j d hj => ?_⟩
  obtain ⟨g, cs, T, hq, hg, hh, hk⟩ := h j d hj
  exact ⟨g, cs, T, hq, hg, (hb.block g hg).trans hh, hk⟩
theorem RdW.up {w : World} {b0 b1 : Nat} {v : Value} {ws : List WordD} (h : RdW w b0 v ws) (hb : b0 ≤ b1) : RdW w b1 v ws := by
  obtain ⟨q, cap, e, hl, h⟩ := h
  refine ⟨q, cap, e, hl, fun j d hj => ?_⟩
  obtain ⟨g, cs, T, hq, hg, hh, hk⟩ := h j d hj
  exact ⟨g, cs, T, hq, Nat.lt_of_lt_of_le hg hb, hh, hk⟩
theorem flatW_get : ∀ (ws : List WordD) (j : Nat) (d : WordD) (k : Nat), ws[j]? = some d → k < 17 → (flatW ws)[j * 17 + k]? = (wordC d)[k]?
  | [], _, _, _, h, _ => by simp at h
  | x :: r, 0, d, k, h, hk => by
    simp at h; subst h
    have hx : (wordC x).toList.length = 17 := rfl
    show ((wordC x).toList ++ flatW r)[0 * 17 + k]? = _
    rw [List.getElem?_append_left (by omega), Nat.zero_mul, Nat.zero_add, Array.getElem?_toList]
  | x :: r, j + 1, d, k, h, hk => by
    have hx : (wordC x).toList.length = 17 := rfl
    show ((wordC x).toList ++ flatW r)[(j + 1) * 17 + k]? = _
    rw [List.getElem?_append_right (by omega), hx, show (j + 1) * 17 + k - 17 = j * 17 + k from by omega]
    exact flatW_get r j d k (by simpa using h) hk
theorem flatW_len : ∀ (ws : List WordD), (flatW ws).length = ws.length * 17
  | [] => rfl
  | x :: r => by
    show ((wordC x).toList ++ flatW r).length = _
    rw [List.length_append, flatW_len r, List.length_cons, show (wordC x).toList.length = 17 from rfl]; omega
theorem RdW.of_own {w : World} {base : Nat} {e : TypeId} {v : Value} {ws : List WordD} (h : w.ownsRow base e 17 v ws.length (flatW ws)) (hl : ws.length ≤ 1000) : RdW w w.heap.size v ws := by
  obtain ⟨_, ⟨hv, hx⟩ | ⟨g, cap, cur, hv, hb, hg, hn, hc, hs, ht⟩⟩ := h
  · have h0 : ws = [] := by
      have := flatW_len ws
      cases ws with
      | nil => rfl
      | cons x r => simp_all
    subst h0
    exact ⟨none, 0, hv, by simp, fun j d h => by simp at h⟩
  · refine ⟨some ⟨g, 0, none⟩, cap, hv, hl, fun j d hj => ⟨g, cur, e, rfl, (Array.getElem?_eq_some_iff.1 hg).1, hg, fun k hk => ?_⟩⟩
    rw [← flatW_get ws j d k hj hk, ← Array.getElem?_toList]
    have hjl : j < ws.length := (List.getElem?_eq_some_iff.1 hj).1
    have hfl := flatW_len ws
    rw [← ht]
    rw [List.getElem?_take]
    split
    · rfl
    · omega
end Go.Proofs.YtllmgmfihijejaaGreatDoor
/-
  Facts on the types; the arms of the walks as laws whose premises find themselves.
-/
namespace Go.Proofs.YtllmgmfihijejaaGreatDoor
open Go.RowKit Go.Shelf
set_option linter.unusedSimpArgs false
set_option linter.unusedVariables false
theorem one_int : oneB Tryz.prog 3 = true := by kernel_rfl
theorem one_u8 : oneB Tryz.prog 5 = true := by kernel_rfl
theorem one_u64 : oneB Tryz.prog 35 = true := by kernel_rfl
theorem one_bool : oneB Tryz.prog 4 = true := by kernel_rfl
theorem one_str : oneB Tryz.prog 9 = true := by kernel_rfl
theorem one_spot : oneB Tryz.prog 38 = true := by kernel_rfl
theorem row_Set : rowB Tryz.prog 37 4 = true := by kernel_rfl
theorem row_Word : rowB Tryz.prog 53 17 = true := by kernel_rfl
theorem zSet : zeroC Tryz.prog 37 = setC emptyS := by kernel_rfl
theorem zWord : zeroC Tryz.prog 53 = wordC { kind := 0, place := 0 } := by kernel_rfl
theorem one_kind : oneB Tryz.prog 34 = true := by kernel_rfl
theorem row_LWord : rowB Tryz.prog 42 17 = true := by kernel_rfl
theorem zLWord : zeroC Tryz.prog 42 = wordC { kind := 0, place := 0 } := by kernel_rfl
theorem one_ptr : oneB Tryz.prog 44 = true := by kernel_rfl
theorem one_words : oneB Tryz.prog 25 = true := by kernel_rfl
theorem one_errno : oneB Tryz.prog 26 = true := by kernel_rfl
theorem zWords : zeroC Tryz.prog 25 = #[.slice none 0 0] := by kernel_rfl
theorem zInt : zeroC Tryz.prog 3 = #[.int .i64 0] := by kernel_rfl
theorem zErrno : zeroC Tryz.prog 26 = #[.int .i64 0] := by kernel_rfl
theorem zPtr : zeroC Tryz.prog 44 = #[.pointer none] := by kernel_rfl
/-- what the walks set right behind each step -/
theorem nrm : zeroC Tryz.prog 37 = setC emptyS ∧ zeroC Tryz.prog 53 = wordC { kind := 0, place := 0 } ∧ zeroC Tryz.prog 42 = wordC { kind := 0, place := 0 } ∧ zeroC Tryz.prog 25 = #[.slice none 0 0] ∧ zeroC Tryz.prog 3 = #[.int .i64 0] ∧ zeroC Tryz.prog 26 = #[.int .i64 0] ∧ zeroC Tryz.prog 44 = #[.pointer none] := ⟨zSet, zWord, zLWord, zWords, zInt, zErrno, zPtr⟩
theorem nrl {α : Type} : (∀ (a : α) (l r : List α), a :: l ++ r = a :: (l ++ r)) ∧ (∀ l : List α, [] ++ l = l) ∧ (∀ l : List α, l ++ [] = l) ∧ (∀ (a b : α) (l : List α), (a :: l).set 0 b = b :: l) ∧ (∀ (a b : α) (l : List α) (n : Nat), (a :: l).set (n + 1) b = a :: l.set n b) ∧ ∀ (a : α) (l : List α) (n : Nat), l.toArray.setIfInBounds n a = (l.set n a).toArray :=
  ⟨fun _ _ _ => rfl, fun _ => rfl, List.append_nil, fun _ _ _ => rfl, fun _ _ _ _ => rfl, fun _ _ _ => List.setIfInBounds_toArray ..⟩
/-- a call that only makes memory -/
theorem ch {M : Nat → Prop} {P : Program} {f : FuncId} {args : Array Value} {w w0 : World} {l : List Res} {e0 : Ending} {R : Ending → World → Prop} (c : Calls P f args w fun e w' => e = e0 ∧ Below w.heap.size w w') (H : HoldG M w0 w l)
    (k : ∀ w', HoldG M w0 w' l → R e0 w') : Calls P f args w R := c.mono fun _ w' h => h.1 ▸ k w' (H.call h.2)
section
variable {M : Nat → Prop} {ops : Array Oper} {dst : Option Tmp} {ty : TypeId} {pos : String} {aft : Array Edge} {grd : Option (Nat × Bool)} {rest : List Oper} {a : Act} {w w0 : World} {l : List Res} {Q : Exit → Act → World → Prop}
/-! ### guards: the goal is at an operation of this kind -/
theorem gT {T : TypeId} {x y : Operand} (h : wpList Tryz.prog ops Q ((⟨dst, .store T x y, ty, pos, aft, grd⟩ : Oper) :: rest) a w) : wpList Tryz.prog ops Q ((⟨dst, .store T x y, ty, pos, aft, grd⟩ : Oper) :: rest) a w := h
theorem gL {T : TypeId} {x : Operand} (h : wpList Tryz.prog ops Q ((⟨dst, .load T x, ty, pos, aft, grd⟩ : Oper) :: rest) a w) : wpList Tryz.prog ops Q ((⟨dst, .load T x, ty, pos, aft, grd⟩ : Oper) :: rest) a w := h
theorem gX {T : TypeId} {x : Operand} (h : wpList Tryz.prog ops Q ((⟨dst, .box T x, ty, pos, aft, grd⟩ : Oper) :: rest) a w) : wpList Tryz.prog ops Q ((⟨dst, .box T x, ty, pos, aft, grd⟩ : Oper) :: rest) a w := h
theorem gA {T : TypeId} (h : wpList Tryz.prog ops Q ((⟨dst, .alloc T, ty, pos, aft, grd⟩ : Oper) :: rest) a w) : wpList Tryz.prog ops Q ((⟨dst, .alloc T, ty, pos, aft, grd⟩ : Oper) :: rest) a w := h
theorem gZ {T : TypeId} {parts : Array (Nat × Operand)} (h : wpList Tryz.prog ops Q ((⟨dst, .build T parts, ty, pos, aft, grd⟩ : Oper) :: rest) a w) : wpList Tryz.prog ops Q ((⟨dst, .build T parts, ty, pos, aft, grd⟩ : Oper) :: rest) a w := h
theorem gI {T : TypeId} {x y : Operand} (h : wpList Tryz.prog ops Q ((⟨dst, .index T x y, ty, pos, aft, grd⟩ : Oper) :: rest) a w) : wpList Tryz.prog ops Q ((⟨dst, .index T x y, ty, pos, aft, grd⟩ : Oper) :: rest) a w := h
theorem gC {T : TypeId} {x y z : Operand} (h : wpList Tryz.prog ops Q ((⟨dst, .slice T x (some y) (some z) none, ty, pos, aft, grd⟩ : Oper) :: rest) a w) : wpList Tryz.prog ops Q ((⟨dst, .slice T x (some y) (some z) none, ty, pos, aft, grd⟩ : Oper) :: rest) a w := h
theorem gF {T : TypeId} {x y : Operand} (h : wpList Tryz.prog ops Q ((⟨dst, .slice T x (some y) none none, ty, pos, aft, grd⟩ : Oper) :: rest) a w) : wpList Tryz.prog ops Q ((⟨dst, .slice T x (some y) none none, ty, pos, aft, grd⟩ : Oper) :: rest) a w := h
theorem gU {T : TypeId} {x y : Operand} (h : wpList Tryz.prog ops Q ((⟨dst, .slice T x none (some y) none, ty, pos, aft, grd⟩ : Oper) :: rest) a w) : wpList Tryz.prog ops Q ((⟨dst, .slice T x none (some y) none, ty, pos, aft, grd⟩ : Oper) :: rest) a w := h
theorem gE {T U : TypeId} {x y : Operand} (h : wpList Tryz.prog ops Q ((⟨dst, .binOp .eql T x y U, ty, pos, aft, grd⟩ : Oper) :: rest) a w) : wpList Tryz.prog ops Q ((⟨dst, .binOp .eql T x y U, ty, pos, aft, grd⟩ : Oper) :: rest) a w := h
theorem gQ {T U : TypeId} {x y : Operand} (h : wpList Tryz.prog ops Q ((⟨dst, .binOp .neq T x y U, ty, pos, aft, grd⟩ : Oper) :: rest) a w) : wpList Tryz.prog ops Q ((⟨dst, .binOp .neq T x y U, ty, pos, aft, grd⟩ : Oper) :: rest) a w := h
theorem kgX (k : Tmp) {T : TypeId} {x : Operand} (h : wpList Tryz.prog ops Q ((⟨some k, .box T x, ty, pos, aft, grd⟩ : Oper) :: rest) a w) : wpList Tryz.prog ops Q ((⟨some k, .box T x, ty, pos, aft, grd⟩ : Oper) :: rest) a w := h
theorem kgA (k : Tmp) {T : TypeId} (h : wpList Tryz.prog ops Q ((⟨some k, .alloc T, ty, pos, aft, grd⟩ : Oper) :: rest) a w) : wpList Tryz.prog ops Q ((⟨some k, .alloc T, ty, pos, aft, grd⟩ : Oper) :: rest) a w := h
theorem aS (H : HoldG M w0 w l) {T : TypeId} {x y : Operand} {i b : Nat} {cs : Array Value} {U : TypeId} {s : Nat → Nat} (h : ∀ w', HoldG M w0 w' (l.set i (.blk b (setC s) U)) → wpList Tryz.prog ops Q rest (a.put dst undef) w') (hg : Region.wanted (⟨dst, .store T x y, ty, pos, aft, grd⟩ : Oper) (yielded ops a.tmps) = true := by first | rfl | exact wanted_g rfl (yielded_of rfl (by first | rfl | (simp only [put_lit, put_no, List.setIfInBounds_toArray, List.set_cons_succ, List.set_cons_zero, ev_tmp, ev_const, ev_glob, ev_func, List.getD_cons_succ, List.getD_cons_zero]; rfl)))) (hx : a.eval x = .pointer (some ⟨b, 0, none⟩) := by exact rfl) (hy : a.eval y = setV s := by (try simp only [put_lit, put_no, List.setIfInBounds_toArray, List.set_cons_succ, List.set_cons_zero, ev_tmp, ev_const, ev_glob, ev_func, List.getD_cons_succ, List.getD_cons_zero]); with_reducible rfl) (hi : At l i (.blk b cs U) := by repeat (first | (with_reducible exact At.zero) | apply At.succ)) (hT : sizeB Tryz.prog T 4 = true := by with_reducible exact row_size row_Set) (hn : cs.size = 4 := by rfl) : wpList Tryz.prog ops Q ((⟨dst, .store T x y, ty, pos, aft, grd⟩ : Oper) :: rest) a w :=
  own_storeS hg T x y rfl hx hy H hi hT hn h
theorem aW (H : HoldG M w0 w l) {T : TypeId} {x y : Operand} {i b : Nat} {d : WordD} {U : TypeId} {s : Nat → Nat} (h : ∀ w', HoldG M w0 w' (l.set i (.blk b (wordC { d with set := s }) U)) → wpList Tryz.prog ops Q rest (a.put dst undef) w') (hg : Region.wanted (⟨dst, .store T x y, ty, pos, aft, grd⟩ : Oper) (yielded ops a.tmps) = true := by first | rfl | exact wanted_g rfl (yielded_of rfl (by first | rfl | (simp only [put_lit, put_no, List.setIfInBounds_toArray, List.set_cons_succ, List.set_cons_zero, ev_tmp, ev_const, ev_glob, ev_func, List.getD_cons_succ, List.getD_cons_zero]; rfl)))) (hx : a.eval x = .pointer (some ⟨b, 2, none⟩) := by exact rfl) (hy : a.eval y = setV s := by (try simp only [put_lit, put_no, List.setIfInBounds_toArray, List.set_cons_succ, List.set_cons_zero, ev_tmp, ev_const, ev_glob, ev_func, List.getD_cons_succ, List.getD_cons_zero]); with_reducible rfl) (hi : At l i (.blk b (wordC d) U) := by repeat (first | (with_reducible exact At.zero) | apply At.succ)) (hT : sizeB Tryz.prog T 4 = true := by with_reducible exact row_size row_Set) : wpList Tryz.prog ops Q ((⟨dst, .store T x y, ty, pos, aft, grd⟩ : Oper) :: rest) a w :=
  own_storeN hg T x y rfl hx (vs := setC s) hy H hi hT rfl rfl (show 2 + 4 ≤ 17 by omega) h
theorem aV (H : HoldG M w0 w l) {T : TypeId} {x : Operand} {i b : Nat} {d : WordD} {U : TypeId} (h : wpList Tryz.prog ops Q rest (a.put dst (setV d.set)) w) (hg : Region.wanted (⟨dst, .load T x, ty, pos, aft, grd⟩ : Oper) (yielded ops a.tmps) = true := by first | rfl | exact wanted_g rfl (yielded_of rfl (by first | rfl | (simp only [put_lit, put_no, List.setIfInBounds_toArray, List.set_cons_succ, List.set_cons_zero, ev_tmp, ev_const, ev_glob, ev_func, List.getD_cons_succ, List.getD_cons_zero]; rfl)))) (hx : a.eval x = .pointer (some ⟨b, 2, none⟩) := by exact rfl) (hi : At l i (.blk b (wordC d) U) := by repeat (first | (with_reducible exact At.zero) | apply At.succ)) (hT : rowB Tryz.prog T 4 = true := by with_reducible exact row_Set) : wpList Tryz.prog ops Q ((⟨dst, .load T x, ty, pos, aft, grd⟩ : Oper) :: rest) a w :=
  own_loadN hg T x rfl hx H hi (setC d.set) hT rfl h
theorem aZ  (h : wpList Tryz.prog ops Q rest (a.put dst (setV emptyS)) w) (hg : Region.wanted (⟨dst, .build 37 #[], ty, pos, aft, grd⟩ : Oper) (yielded ops a.tmps) = true := by first | rfl | exact wanted_g rfl (yielded_of rfl (by first | rfl | (simp only [put_lit, put_no, List.setIfInBounds_toArray, List.set_cons_succ, List.set_cons_zero, ev_tmp, ev_const, ev_glob, ev_func, List.getD_cons_succ, List.getD_cons_zero]; rfl)))) : wpList Tryz.prog ops Q ((⟨dst, .build 37 #[], ty, pos, aft, grd⟩ : Oper) :: rest) a w :=
  own_set0 hg rfl h
theorem aL (H : HoldG M w0 w l) {T : TypeId} {x : Operand} {i b : Nat} {s : Nat → Nat} {U : TypeId} (h : wpList Tryz.prog ops Q rest (a.put dst (setV s)) w) (hg : Region.wanted (⟨dst, .load T x, ty, pos, aft, grd⟩ : Oper) (yielded ops a.tmps) = true := by first | rfl | exact wanted_g rfl (yielded_of rfl (by first | rfl | (simp only [put_lit, put_no, List.setIfInBounds_toArray, List.set_cons_succ, List.set_cons_zero, ev_tmp, ev_const, ev_glob, ev_func, List.getD_cons_succ, List.getD_cons_zero]; rfl)))) (hx : a.eval x = .pointer (some ⟨b, 0, none⟩) := by exact rfl) (hi : At l i (.blk b (setC s) U) := by repeat (first | (with_reducible exact At.zero) | apply At.succ)) (hT : rowB Tryz.prog T 4 = true := by with_reducible exact row_Set) : wpList Tryz.prog ops Q ((⟨dst, .load T x, ty, pos, aft, grd⟩ : Oper) :: rest) a w :=
  own_loadS hg T x rfl hx H hi hT h
theorem bS (H : HoldG M w0 w l) {T : TypeId} {x : Operand} {s : Nat → Nat} (h : ∀ b w', HoldG M w0 w' (l ++ [.blk b (setC s) T]) → wpList Tryz.prog ops Q rest (a.put dst (.pointer (some ⟨b, 0, none⟩))) w') (hg : Region.wanted (⟨dst, .box T x, ty, pos, aft, grd⟩ : Oper) (yielded ops a.tmps) = true := by first | rfl | exact wanted_g rfl (yielded_of rfl (by first | rfl | (simp only [put_lit, put_no, List.setIfInBounds_toArray, List.set_cons_succ, List.set_cons_zero, ev_tmp, ev_const, ev_glob, ev_func, List.getD_cons_succ, List.getD_cons_zero]; rfl)))) (hx : a.eval x = setV s := by (try simp only [put_lit, put_no, List.setIfInBounds_toArray, List.set_cons_succ, List.set_cons_zero, ev_tmp, ev_const, ev_glob, ev_func, List.getD_cons_succ, List.getD_cons_zero]); with_reducible rfl) : wpList Tryz.prog ops Q ((⟨dst, .box T x, ty, pos, aft, grd⟩ : Oper) :: rest) a w :=
  own_boxS hg T x rfl hx H h
theorem bA (H : HoldG M w0 w l) {T : TypeId} (h : ∀ b w', HoldG M w0 w' (l ++ [.blk b (zeroC Tryz.prog T) T]) → wpList Tryz.prog ops Q rest (a.put dst (.pointer (some ⟨b, 0, none⟩))) w') (hg : Region.wanted (⟨dst, .alloc T, ty, pos, aft, grd⟩ : Oper) (yielded ops a.tmps) = true := by first | rfl | exact wanted_g rfl (yielded_of rfl (by first | rfl | (simp only [put_lit, put_no, List.setIfInBounds_toArray, List.set_cons_succ, List.set_cons_zero, ev_tmp, ev_const, ev_glob, ev_func, List.getD_cons_succ, List.getD_cons_zero]; rfl)))) (hi : ((Tryz.prog.info? T).bind (·.zero)).isSome = true := by kernel_rfl) : wpList Tryz.prog ops Q ((⟨dst, .alloc T, ty, pos, aft, grd⟩ : Oper) :: rest) a w :=
  own_alloc hg T rfl H hi h
theorem bB (H : HoldG M w0 w l) {T : TypeId} {x : Operand} {v : Value} (h : ∀ b w', HoldG M w0 w' (l ++ [.blk b v.cells T]) → wpList Tryz.prog ops Q rest (a.put dst (.pointer (some ⟨b, 0, none⟩))) w') (hg : Region.wanted (⟨dst, .box T x, ty, pos, aft, grd⟩ : Oper) (yielded ops a.tmps) = true := by first | rfl | exact wanted_g rfl (yielded_of rfl (by first | rfl | (simp only [put_lit, put_no, List.setIfInBounds_toArray, List.set_cons_succ, List.set_cons_zero, ev_tmp, ev_const, ev_glob, ev_func, List.getD_cons_succ, List.getD_cons_zero]; rfl)))) (hx : a.eval x = v := by first | (simp only [put_lit, put_no, List.setIfInBounds_toArray, List.set_cons_succ, List.set_cons_zero, ev_tmp, ev_const, ev_glob, ev_func, List.getD_cons_succ, List.getD_cons_zero]; done) | (simp only [put_lit, put_no, List.setIfInBounds_toArray, List.set_cons_succ, List.set_cons_zero, ev_tmp, ev_const, ev_glob, ev_func, List.getD_cons_succ, List.getD_cons_zero]; rfl)) : wpList Tryz.prog ops Q ((⟨dst, .box T x, ty, pos, aft, grd⟩ : Oper) :: rest) a w :=
  own_box hg T x rfl hx H h
theorem kS (k : Tmp) (H : HoldG M w0 w l) {T : TypeId} {x : Operand} {s : Nat → Nat} (h : ∀ b w', HoldG M w0 w' (l ++ [.blk b (setC s) T]) → wpList Tryz.prog ops Q rest (a.put (some k) (.pointer (some ⟨b, 0, none⟩))) w') (hg : Region.wanted (⟨some k, .box T x, ty, pos, aft, grd⟩ : Oper) (yielded ops a.tmps) = true := by first | rfl | exact wanted_g rfl (yielded_of rfl (by first | rfl | (simp only [put_lit, put_no, List.setIfInBounds_toArray, List.set_cons_succ, List.set_cons_zero, ev_tmp, ev_const, ev_glob, ev_func, List.getD_cons_succ, List.getD_cons_zero]; rfl)))) (hx : a.eval x = setV s := by (try simp only [put_lit, put_no, List.setIfInBounds_toArray, List.set_cons_succ, List.set_cons_zero, ev_tmp, ev_const, ev_glob, ev_func, List.getD_cons_succ, List.getD_cons_zero]); with_reducible rfl) : wpList Tryz.prog ops Q ((⟨some k, .box T x, ty, pos, aft, grd⟩ : Oper) :: rest) a w :=
  own_boxS hg T x rfl hx H h
theorem kA (k : Tmp) (H : HoldG M w0 w l) {T : TypeId} (h : ∀ b w', HoldG M w0 w' (l ++ [.blk b (zeroC Tryz.prog T) T]) → wpList Tryz.prog ops Q rest (a.put (some k) (.pointer (some ⟨b, 0, none⟩))) w') (hg : Region.wanted (⟨some k, .alloc T, ty, pos, aft, grd⟩ : Oper) (yielded ops a.tmps) = true := by first | rfl | exact wanted_g rfl (yielded_of rfl (by first | rfl | (simp only [put_lit, put_no, List.setIfInBounds_toArray, List.set_cons_succ, List.set_cons_zero, ev_tmp, ev_const, ev_glob, ev_func, List.getD_cons_succ, List.getD_cons_zero]; rfl)))) (hi : ((Tryz.prog.info? T).bind (·.zero)).isSome = true := by kernel_rfl) : wpList Tryz.prog ops Q ((⟨some k, .alloc T, ty, pos, aft, grd⟩ : Oper) :: rest) a w :=
  own_alloc hg T rfl H hi h
theorem kB (k : Tmp) (H : HoldG M w0 w l) {T : TypeId} {x : Operand} {v : Value} (h : ∀ b w', HoldG M w0 w' (l ++ [.blk b v.cells T]) → wpList Tryz.prog ops Q rest (a.put (some k) (.pointer (some ⟨b, 0, none⟩))) w') (hg : Region.wanted (⟨some k, .box T x, ty, pos, aft, grd⟩ : Oper) (yielded ops a.tmps) = true := by first | rfl | exact wanted_g rfl (yielded_of rfl (by first | rfl | (simp only [put_lit, put_no, List.setIfInBounds_toArray, List.set_cons_succ, List.set_cons_zero, ev_tmp, ev_const, ev_glob, ev_func, List.getD_cons_succ, List.getD_cons_zero]; rfl)))) (hx : a.eval x = v := by first | (simp only [put_lit, put_no, List.setIfInBounds_toArray, List.set_cons_succ, List.set_cons_zero, ev_tmp, ev_const, ev_glob, ev_func, List.getD_cons_succ, List.getD_cons_zero]; done) | (simp only [put_lit, put_no, List.setIfInBounds_toArray, List.set_cons_succ, List.set_cons_zero, ev_tmp, ev_const, ev_glob, ev_func, List.getD_cons_succ, List.getD_cons_zero]; rfl)) : wpList Tryz.prog ops Q ((⟨some k, .box T x, ty, pos, aft, grd⟩ : Oper) :: rest) a w :=
  own_box hg T x rfl hx H h
theorem aO (H : HoldG M w0 w l) {T : TypeId} {x y : Operand} {i b : Nat} {cs : Array Value} {U : TypeId} {k : Nat} {v : Value} (h : ∀ w', HoldG M w0 w' (l.set i (.blk b (cs.setIfInBounds k v) U)) → wpList Tryz.prog ops Q rest (a.put dst undef) w') (hg : Region.wanted (⟨dst, .store T x y, ty, pos, aft, grd⟩ : Oper) (yielded ops a.tmps) = true := by first | rfl | exact wanted_g rfl (yielded_of rfl (by first | rfl | (simp only [put_lit, put_no, List.setIfInBounds_toArray, List.set_cons_succ, List.set_cons_zero, ev_tmp, ev_const, ev_glob, ev_func, List.getD_cons_succ, List.getD_cons_zero]; rfl)))) (hx : a.eval x = .pointer (some ⟨b, k, none⟩) := by exact rfl) (hy : a.eval y = v := by first | (simp only [put_lit, put_no, List.setIfInBounds_toArray, List.set_cons_succ, List.set_cons_zero, ev_tmp, ev_const, ev_glob, ev_func, List.getD_cons_succ, List.getD_cons_zero]; done) | (simp only [put_lit, put_no, List.setIfInBounds_toArray, List.set_cons_succ, List.set_cons_zero, ev_tmp, ev_const, ev_glob, ev_func, List.getD_cons_succ, List.getD_cons_zero]; rfl)) (hi : At l i (.blk b cs U) := by repeat (first | (with_reducible exact At.zero) | apply At.succ)) (h1 : v.oneCell' = true := by rfl) (hk : k < cs.size := by first | (simp; done) | (simp [wordC]; done)) (hT : sizeB Tryz.prog T 1 = true := by first | (with_reducible exact one_size one_words) | (with_reducible exact one_size one_errno) | (with_reducible exact one_size one_ptr) | (with_reducible exact one_size one_kind) | (with_reducible exact one_size one_int) | (with_reducible exact one_size one_u8) | (with_reducible exact one_size one_bool) | (with_reducible exact one_size one_str) | (with_reducible exact one_size one_spot) | (with_reducible exact one_size one_u64)) : wpList Tryz.prog ops Q ((⟨dst, .store T x y, ty, pos, aft, grd⟩ : Oper) :: rest) a w :=
  own_store1 hg T x y rfl hx hy H hi h1 hk hT h
theorem aT (H : HoldG M w0 w l) {T : TypeId} {x y : Operand} {i b : Nat} {cs : Array Value} {U : TypeId} {n : Nat} {vs : Array Value} (h : ∀ w', HoldG M w0 w' (l.set i (.blk b vs U)) → wpList Tryz.prog ops Q rest (a.put dst undef) w') (hg : Region.wanted (⟨dst, .store T x y, ty, pos, aft, grd⟩ : Oper) (yielded ops a.tmps) = true := by first | rfl | exact wanted_g rfl (yielded_of rfl (by first | rfl | (simp only [put_lit, put_no, List.setIfInBounds_toArray, List.set_cons_succ, List.set_cons_zero, ev_tmp, ev_const, ev_glob, ev_func, List.getD_cons_succ, List.getD_cons_zero]; rfl)))) (hx : a.eval x = .pointer (some ⟨b, 0, none⟩) := by exact rfl) (hy : a.eval y = .agg vs := by first | (simp only [put_lit, put_no, List.setIfInBounds_toArray, List.set_cons_succ, List.set_cons_zero, ev_tmp, ev_const, ev_glob, ev_func, List.getD_cons_succ, List.getD_cons_zero]; done) | (simp only [put_lit, put_no, List.setIfInBounds_toArray, List.set_cons_succ, List.set_cons_zero, ev_tmp, ev_const, ev_glob, ev_func, List.getD_cons_succ, List.getD_cons_zero]; rfl)) (hi : At l i (.blk b cs U) := by repeat (first | (with_reducible exact At.zero) | apply At.succ)) (hT : sizeB Tryz.prog T n = true := by first | (with_reducible exact row_size row_LWord) | (with_reducible exact row_size row_Word) | (with_reducible exact row_size row_Set)) (hv : vs.size = n := by rfl) (hn : cs.size = n := by rfl) (h1 : vs.toList.all (·.oneCell') = true := by rfl) : wpList Tryz.prog ops Q ((⟨dst, .store T x y, ty, pos, aft, grd⟩ : Oper) :: rest) a w :=
  own_store hg T x y rfl hx hy H hi hT hv hn h1 h
theorem aN (H : HoldG M w0 w l) {T : TypeId} {x y : Operand} {i b : Nat} {cs : Array Value} {U : TypeId} {n k : Nat} {vs : Array Value} (h : ∀ w', HoldG M w0 w' (l.set i (.blk b (setSeg cs k vs.toList) U)) → wpList Tryz.prog ops Q rest (a.put dst undef) w') (hg : Region.wanted (⟨dst, .store T x y, ty, pos, aft, grd⟩ : Oper) (yielded ops a.tmps) = true := by first | rfl | exact wanted_g rfl (yielded_of rfl (by first | rfl | (simp only [put_lit, put_no, List.setIfInBounds_toArray, List.set_cons_succ, List.set_cons_zero, ev_tmp, ev_const, ev_glob, ev_func, List.getD_cons_succ, List.getD_cons_zero]; rfl)))) (hx : a.eval x = .pointer (some ⟨b, k, none⟩) := by exact rfl) (hy : a.eval y = .agg vs := by first | (simp only [put_lit, put_no, List.setIfInBounds_toArray, List.set_cons_succ, List.set_cons_zero, ev_tmp, ev_const, ev_glob, ev_func, List.getD_cons_succ, List.getD_cons_zero]; done) | (simp only [put_lit, put_no, List.setIfInBounds_toArray, List.set_cons_succ, List.set_cons_zero, ev_tmp, ev_const, ev_glob, ev_func, List.getD_cons_succ, List.getD_cons_zero]; rfl)) (hi : At l i (.blk b cs U) := by repeat (first | (with_reducible exact At.zero) | apply At.succ)) (hT : sizeB Tryz.prog T n = true := by first | (with_reducible exact row_size row_LWord) | (with_reducible exact row_size row_Word) | (with_reducible exact row_size row_Set)) (hv : vs.size = n := by rfl) (h1 : vs.toList.all (·.oneCell') = true := by rfl) (hk : k + n ≤ cs.size := by first | (simp; done) | (simp [wordC]; done)) : wpList Tryz.prog ops Q ((⟨dst, .store T x y, ty, pos, aft, grd⟩ : Oper) :: rest) a w :=
  own_storeN hg T x y rfl hx hy H hi hT hv h1 hk h
theorem aG (H : HoldG M w0 w l) {T : TypeId} {x : Operand} {i b : Nat} {cs : Array Value} {U : TypeId} {k : Nat} {v : Value} (h : wpList Tryz.prog ops Q rest (a.put dst v) w) (hg : Region.wanted (⟨dst, .load T x, ty, pos, aft, grd⟩ : Oper) (yielded ops a.tmps) = true := by first | rfl | exact wanted_g rfl (yielded_of rfl (by first | rfl | (simp only [put_lit, put_no, List.setIfInBounds_toArray, List.set_cons_succ, List.set_cons_zero, ev_tmp, ev_const, ev_glob, ev_func, List.getD_cons_succ, List.getD_cons_zero]; rfl)))) (hx : a.eval x = .pointer (some ⟨b, k, none⟩) := by exact rfl) (hi : At l i (.blk b cs U) := by repeat (first | (with_reducible exact At.zero) | apply At.succ)) (hT : oneB Tryz.prog T = true := by first | (with_reducible exact one_words) | (with_reducible exact one_errno) | (with_reducible exact one_ptr) | (with_reducible exact one_kind) | (with_reducible exact one_int) | (with_reducible exact one_u8) | (with_reducible exact one_bool) | (with_reducible exact one_str) | (with_reducible exact one_spot) | (with_reducible exact one_u64)) (hv : cs[k]? = some v := by first | (with_reducible exact wg0 _) | (with_reducible exact wg1 _) | (with_reducible exact wg2 _) | (with_reducible exact wg3 _) | (with_reducible exact wg4 _) | (with_reducible exact wg5 _) | (with_reducible exact wg6 _) | (with_reducible exact wg7 _) | (with_reducible exact wg8 _) | (with_reducible exact wg9 _) | (with_reducible exact wg10 _) | (with_reducible exact wg11 _) | (with_reducible exact wg12 _) | (with_reducible exact wg13 _) | (with_reducible exact wg14 _) | (with_reducible exact wg15 _) | (with_reducible exact wg16 _) | rfl) : wpList Tryz.prog ops Q ((⟨dst, .load T x, ty, pos, aft, grd⟩ : Oper) :: rest) a w :=
  own_load1 hg T x rfl hx H hi hT hv h
theorem aD (H : HoldG M w0 w l) {T : TypeId} {x : Operand} {i b : Nat} {cs : Array Value} {U : TypeId} {n : Nat} (h : wpList Tryz.prog ops Q rest (a.put dst (.agg cs)) w) (hg : Region.wanted (⟨dst, .load T x, ty, pos, aft, grd⟩ : Oper) (yielded ops a.tmps) = true := by first | rfl | exact wanted_g rfl (yielded_of rfl (by first | rfl | (simp only [put_lit, put_no, List.setIfInBounds_toArray, List.set_cons_succ, List.set_cons_zero, ev_tmp, ev_const, ev_glob, ev_func, List.getD_cons_succ, List.getD_cons_zero]; rfl)))) (hx : a.eval x = .pointer (some ⟨b, 0, none⟩) := by exact rfl) (hi : At l i (.blk b cs U) := by repeat (first | (with_reducible exact At.zero) | apply At.succ)) (hT : rowB Tryz.prog T n = true := by first | (with_reducible exact row_LWord) | (with_reducible exact row_Word) | (with_reducible exact row_Set)) (hn : cs.size = n := by rfl) : wpList Tryz.prog ops Q ((⟨dst, .load T x, ty, pos, aft, grd⟩ : Oper) :: rest) a w :=
  own_load hg T x rfl hx H hi hT hn h
theorem aI {T : TypeId} {x lo : Operand} {L : Str} {y : Int} {i : Nat} (h : wpList Tryz.prog ops Q rest (a.put dst (.int .u8 (byt L i))) w) (hg : Region.wanted (⟨dst, .index T x lo, ty, pos, aft, grd⟩ : Oper) (yielded ops a.tmps) = true := by first | rfl | exact wanted_g rfl (yielded_of rfl (by first | rfl | (simp only [put_lit, put_no, List.setIfInBounds_toArray, List.set_cons_succ, List.set_cons_zero, ev_tmp, ev_const, ev_glob, ev_func, List.getD_cons_succ, List.getD_cons_zero]; rfl)))) (hT : Tryz.prog.underlying T = some .string := by exact Tryz.underlying9) (hx : a.eval x = .string ⟨L.toArray⟩ := by exact rfl) (hl : a.eval lo = .int .i64 y := by first | (simp only [put_lit, put_no, List.setIfInBounds_toArray, List.set_cons_succ, List.set_cons_zero, ev_tmp, ev_const, ev_glob, ev_func, List.getD_cons_succ, List.getD_cons_zero]; done) | (simp only [put_lit, put_no, List.setIfInBounds_toArray, List.set_cons_succ, List.set_cons_zero, ev_tmp, ev_const, ev_glob, ev_func, List.getD_cons_succ, List.getD_cons_zero]; rfl)) (hy : y = (i : Int) := by first | with_reducible exact hNC | with_reducible exact nc1 _ | with_reducible exact nc2 _ | with_reducible exact nc3 _ | with_reducible exact nca _ _ | with_reducible exact nc0 _ | with_reducible exact ncl0 | with_reducible exact ncl1 | rfl) (h1 : i < L.length := by first | omega | (simp only [List.length_cons, List.length_nil]; omega)) : wpList Tryz.prog ops Q ((⟨dst, .index T x lo, ty, pos, aft, grd⟩ : Oper) :: rest) a w :=
  str_index hg T x lo rfl hT hx hl hy h1 h
theorem aC {T : TypeId} {x lo hi : Operand} {L : Str} {y z : Int} {i j : Nat} (h : wpList Tryz.prog ops Q rest (a.put dst (.string ⟨((L.take j).drop i).toArray⟩)) w) (hg : Region.wanted (⟨dst, .slice T x (some lo) (some hi) none, ty, pos, aft, grd⟩ : Oper) (yielded ops a.tmps) = true := by first | rfl | exact wanted_g rfl (yielded_of rfl (by first | rfl | (simp only [put_lit, put_no, List.setIfInBounds_toArray, List.set_cons_succ, List.set_cons_zero, ev_tmp, ev_const, ev_glob, ev_func, List.getD_cons_succ, List.getD_cons_zero]; rfl)))) (hT : Tryz.prog.underlying T = some .string := by exact Tryz.underlying9) (hx : a.eval x = .string ⟨L.toArray⟩ := by exact rfl) (hl : a.eval lo = .int .i64 y := by first | (simp only [put_lit, put_no, List.setIfInBounds_toArray, List.set_cons_succ, List.set_cons_zero, ev_tmp, ev_const, ev_glob, ev_func, List.getD_cons_succ, List.getD_cons_zero]; done) | (simp only [put_lit, put_no, List.setIfInBounds_toArray, List.set_cons_succ, List.set_cons_zero, ev_tmp, ev_const, ev_glob, ev_func, List.getD_cons_succ, List.getD_cons_zero]; rfl)) (hy : y = (i : Int) := by first | with_reducible exact hNC | with_reducible exact nc1 _ | with_reducible exact nc2 _ | with_reducible exact nc3 _ | with_reducible exact nca _ _ | with_reducible exact nc0 _ | with_reducible exact ncl0 | with_reducible exact ncl1 | rfl) (hh : a.eval hi = .int .i64 z := by first | (simp only [put_lit, put_no, List.setIfInBounds_toArray, List.set_cons_succ, List.set_cons_zero, ev_tmp, ev_const, ev_glob, ev_func, List.getD_cons_succ, List.getD_cons_zero]; done) | (simp only [put_lit, put_no, List.setIfInBounds_toArray, List.set_cons_succ, List.set_cons_zero, ev_tmp, ev_const, ev_glob, ev_func, List.getD_cons_succ, List.getD_cons_zero]; rfl)) (hz : z = (j : Int) := by first | with_reducible exact hNC | with_reducible exact nc1 _ | with_reducible exact nc2 _ | with_reducible exact nc3 _ | with_reducible exact nca _ _ | with_reducible exact nc0 _ | with_reducible exact ncl0 | with_reducible exact ncl1 | rfl) (h1 : i ≤ j := by first | omega | (simp only [List.length_cons, List.length_nil]; omega)) (h2 : j ≤ L.length := by first | omega | (simp only [List.length_cons, List.length_nil]; omega)) : wpList Tryz.prog ops Q ((⟨dst, .slice T x (some lo) (some hi) none, ty, pos, aft, grd⟩ : Oper) :: rest) a w :=
  str_slice hg T x lo hi rfl hT hx hl hy hh hz h1 h2 h
theorem aF {T : TypeId} {x lo : Operand} {L : Str} {y : Int} {i : Nat} (h : wpList Tryz.prog ops Q rest (a.put dst (.string ⟨(L.drop i).toArray⟩)) w) (hg : Region.wanted (⟨dst, .slice T x (some lo) none none, ty, pos, aft, grd⟩ : Oper) (yielded ops a.tmps) = true := by first | rfl | exact wanted_g rfl (yielded_of rfl (by first | rfl | (simp only [put_lit, put_no, List.setIfInBounds_toArray, List.set_cons_succ, List.set_cons_zero, ev_tmp, ev_const, ev_glob, ev_func, List.getD_cons_succ, List.getD_cons_zero]; rfl)))) (hT : Tryz.prog.underlying T = some .string := by exact Tryz.underlying9) (hx : a.eval x = .string ⟨L.toArray⟩ := by exact rfl) (hl : a.eval lo = .int .i64 y := by first | (simp only [put_lit, put_no, List.setIfInBounds_toArray, List.set_cons_succ, List.set_cons_zero, ev_tmp, ev_const, ev_glob, ev_func, List.getD_cons_succ, List.getD_cons_zero]; done) | (simp only [put_lit, put_no, List.setIfInBounds_toArray, List.set_cons_succ, List.set_cons_zero, ev_tmp, ev_const, ev_glob, ev_func, List.getD_cons_succ, List.getD_cons_zero]; rfl)) (hy : y = (i : Int) := by first | with_reducible exact hNC | with_reducible exact nc1 _ | with_reducible exact nc2 _ | with_reducible exact nc3 _ | with_reducible exact nca _ _ | with_reducible exact nc0 _ | with_reducible exact ncl0 | with_reducible exact ncl1 | rfl) (h1 : i ≤ L.length := by first | omega | (simp only [List.length_cons, List.length_nil]; omega)) : wpList Tryz.prog ops Q ((⟨dst, .slice T x (some lo) none none, ty, pos, aft, grd⟩ : Oper) :: rest) a w :=
  str_from hg T x lo rfl hT hx hl hy h1 h
theorem aU {T : TypeId} {x hi : Operand} {L : Str} {y : Int} {i : Nat} (h : wpList Tryz.prog ops Q rest (a.put dst (.string ⟨(L.take i).toArray⟩)) w) (hg : Region.wanted (⟨dst, .slice T x none (some hi) none, ty, pos, aft, grd⟩ : Oper) (yielded ops a.tmps) = true := by first | rfl | exact wanted_g rfl (yielded_of rfl (by first | rfl | (simp only [put_lit, put_no, List.setIfInBounds_toArray, List.set_cons_succ, List.set_cons_zero, ev_tmp, ev_const, ev_glob, ev_func, List.getD_cons_succ, List.getD_cons_zero]; rfl)))) (hT : Tryz.prog.underlying T = some .string := by exact Tryz.underlying9) (hx : a.eval x = .string ⟨L.toArray⟩ := by exact rfl) (hl : a.eval hi = .int .i64 y := by first | (simp only [put_lit, put_no, List.setIfInBounds_toArray, List.set_cons_succ, List.set_cons_zero, ev_tmp, ev_const, ev_glob, ev_func, List.getD_cons_succ, List.getD_cons_zero]; done) | (simp only [put_lit, put_no, List.setIfInBounds_toArray, List.set_cons_succ, List.set_cons_zero, ev_tmp, ev_const, ev_glob, ev_func, List.getD_cons_succ, List.getD_cons_zero]; rfl)) (hy : y = (i : Int) := by first | with_reducible exact hNC | with_reducible exact nc1 _ | with_reducible exact nc2 _ | with_reducible exact nc3 _ | with_reducible exact nca _ _ | with_reducible exact nc0 _ | with_reducible exact ncl0 | with_reducible exact ncl1 | rfl) (h1 : i ≤ L.length := by first | omega | (simp only [List.length_cons, List.length_nil]; omega)) : wpList Tryz.prog ops Q ((⟨dst, .slice T x none (some hi) none, ty, pos, aft, grd⟩ : Oper) :: rest) a w :=
  str_to hg T x hi rfl hT hx hl hy h1 h
theorem aE {T : TypeId} {x y : Operand} {U : TypeId} {L L' : Str} (h : wpList Tryz.prog ops Q rest (a.put dst (.bool (L == L'))) w) (hg : Region.wanted (⟨dst, .binOp .eql T x y U, ty, pos, aft, grd⟩ : Oper) (yielded ops a.tmps) = true := by first | rfl | exact wanted_g rfl (yielded_of rfl (by first | rfl | (simp only [put_lit, put_no, List.setIfInBounds_toArray, List.set_cons_succ, List.set_cons_zero, ev_tmp, ev_const, ev_glob, ev_func, List.getD_cons_succ, List.getD_cons_zero]; rfl)))) (hx : a.eval x = .string ⟨L.toArray⟩ := by exact rfl) (hy : a.eval y = .string ⟨L'.toArray⟩ := by exact rfl) (hq : ∀ w : World, (eqGuard .eql T x y (.string ⟨L.toArray⟩) (.string ⟨L'.toArray⟩)).run Tryz.prog w = .ok () w := by exact fun _ => rfl) : wpList Tryz.prog ops Q ((⟨dst, .binOp .eql T x y U, ty, pos, aft, grd⟩ : Oper) :: rest) a w :=
  str_eql hg T x y U rfl hx hy hq h
theorem aQ {T : TypeId} {x y : Operand} {U : TypeId} {L L' : Str} (h : wpList Tryz.prog ops Q rest (a.put dst (.bool (!(L == L')))) w) (hg : Region.wanted (⟨dst, .binOp .neq T x y U, ty, pos, aft, grd⟩ : Oper) (yielded ops a.tmps) = true := by first | rfl | exact wanted_g rfl (yielded_of rfl (by first | rfl | (simp only [put_lit, put_no, List.setIfInBounds_toArray, List.set_cons_succ, List.set_cons_zero, ev_tmp, ev_const, ev_glob, ev_func, List.getD_cons_succ, List.getD_cons_zero]; rfl)))) (hx : a.eval x = .string ⟨L.toArray⟩ := by exact rfl) (hy : a.eval y = .string ⟨L'.toArray⟩ := by exact rfl) (hq : ∀ w : World, (eqGuard .neq T x y (.string ⟨L.toArray⟩) (.string ⟨L'.toArray⟩)).run Tryz.prog w = .ok () w := by exact fun _ => rfl) : wpList Tryz.prog ops Q ((⟨dst, .binOp .neq T x y U, ty, pos, aft, grd⟩ : Oper) :: rest) a w :=
  str_neq hg T x y U rfl hx hy hq h
end
end Go.Proofs.YtllmgmfihijejaaGreatDoor
/-
  The walks of the sets' reference: Has, with, Of, Range.
-/
namespace Go.Proofs.YtllmgmfihijejaaGreatDoor
open Go.RowKit Go.Shelf
attribute [local go_sem] Oper.semAt_some
set_option linter.unusedSimpArgs false

theorem half_pow (x j : Nat) : x / 2 ^ (j + 1) = x / 2 ^ j / 2 := by rw [Nat.pow_succ, Nat.div_div_eq_div_mul]

theorem half_bit (x j : Nat) : (((x : Int) / 2 ^ j).tmod 2 == 1) = x.testBit j := by
  have e : (x : Int) / 2 ^ j = ((x / 2 ^ j : Nat) : Int) := by push_cast; rfl
  rw [e, Int.tmod_eq_emod_of_nonneg (Int.natCast_nonneg _), Bool.eq_iff_iff, ← bit_nat]
  simp
  omega

set_option maxHeartbeats 1000000 in
theorem ref_Has (s : Nat → Nat) (hs : SetOk s) (b : Nat) (hb : b < 256) (w : World) :
    Calls Tryz.prog 70 #[setV s, .int .u8 b] w fun e w' => e = .returned (.bool (hasB s b)) ∧ Below w.heap.size w w' := by
  obtain ⟨r, hr, hr1, hr2, h⟩ := bdiv_cases hb
  have hlt : s (b / 64) < 2 ^ 64 := hs _ (by omega)
  unfold setV
  rcases h with ⟨h1, hq⟩ | ⟨h1, hq⟩ | ⟨h1, hq⟩ | ⟨h1, hq⟩
  all_goals
    rw [h1] at hlt
    have H1 := Lib.hid h1; clear h1
    have HR := Lib.hid hr1; clear hr1
    go_enter Tryz.func70, Tryz.ntmps70
    go_wp2_with fail
    go_loop [5, 6] (fun n i => ∃ j : Nat, j ≤ r ∧ i = .int .u8 j ∧ n = .int .u64 ((s (b / 64) / 2 ^ j : Nat) : Int)) (fun _ i => r - (intOf i).toNat)
    case atStart => exact ⟨0, by omega, rfl, by rw [H1.out]; simp⟩
    case round =>
      obtain ⟨j, hj, rfl, rfl⟩ := hrel
      rw [H1.out]
      by_cases hlt2 : j < r
      · obtain ⟨y, hy⟩ : ∃ y, y = s (b / 64) / 2 ^ j := ⟨_, rfl⟩
        have hn := half_pow (s (b / 64)) j
        rw [H1.out] at hn hy
        rw [← hy] at hn ⊢
        have hyb : y ≤ 18446744073709551615 := by have := Nat.div_le_self (s (b / 64)) (2 ^ j); rw [H1.out] at this; rw [hy]; omega
        have HN := Lib.hid hn; clear hn
        have HY := Lib.hid hy; clear hy
        go_wp2
        go_round
        case rel => exact ⟨j + 1, by omega, by go_num, by rw [HN.out]; first | rfl | (congr 1)⟩
        case measure => simp [intOf]; omega
      · obtain rfl : j = r := by omega
        have ht := bit_nat (s (b / 64)) j
        rw [H1.out] at ht
        have HT := Lib.hid ht; clear ht
        have hyb := Nat.div_le_self (s (b / 64)) (2 ^ j)
        rw [H1.out] at hyb
        go_wp2
        go_ret
        refine ⟨?_, (Below.refl _ _).alloc (Nat.le_refl _) _⟩
        unfold hasB
        rw [H1.out, HR.out]
        exact congrArg (fun x => Ending.returned (Value.bool x)) (half_bit _ _)

theorem add_or {x r : Nat} (hx : x < 2 ^ 64) (hr : r < 64) (h : x.testBit r = false) : x + 2 ^ r = x ||| 2 ^ r := by
  have hr2 : 2 ^ r < 2 ^ 64 := Nat.pow_lt_pow_right (by omega) hr
  have e := BitVec.add_eq_or_of_and_eq_zero (BitVec.ofNat 64 x) (BitVec.ofNat 64 (2 ^ r)) (by
    apply BitVec.eq_of_getLsbD_eq
    intro i hi
    simp only [BitVec.getLsbD_and, BitVec.getLsbD_ofNat, BitVec.getLsbD_zero, Nat.testBit_two_pow]
    by_cases e : r = i
    · subst e; simp [h]
    · simp [e])
  have e2 := congrArg BitVec.toNat e
  rw [BitVec.toNat_add, BitVec.toNat_or, BitVec.toNat_ofNat, BitVec.toNat_ofNat, Nat.mod_eq_of_lt hx, Nat.mod_eq_of_lt hr2] at e2
  have hor : x ||| 2 ^ r < 2 ^ 64 := Nat.or_lt_two_pow hx hr2
  have hle : x + 2 ^ r < 2 ^ 64 + 2 ^ 64 := by omega
  by_cases hc : x + 2 ^ r < 2 ^ 64
  · rwa [Nat.mod_eq_of_lt hc] at e2
  · exfalso
    have h1 : (x + 2 ^ r) % 2 ^ 64 = x + 2 ^ r - 2 ^ 64 := by omega
    rw [h1] at e2
    have h2 : x ≤ x ||| 2 ^ r := Nat.left_le_or
    omega

theorem with_has {s : Nat → Nat} (hs : SetOk s) {b : Nat} (h : hasB s b = true) : setV s = setV (addS s b) :=
  setV_ext hs (addS_ok hs b) fun c _ => by
    rw [has_add]
    by_cases e : c = b
    · subst e; simp [h]
    · simp [e]

set_option maxRecDepth 100000 in
set_option maxHeartbeats 2000000 in
theorem ref_with (s : Nat → Nat) (hs : SetOk s) (b : Nat) (hb : b < 256) (w : World) :
    Calls Tryz.prog 75 #[setV s, .int .u8 b] w fun e w' => e = .returned (setV (addS s b)) ∧ Below w.heap.size w w' := by
  obtain ⟨r, hr, hr1, hr2, h⟩ := bdiv_cases hb
  obtain ⟨q, hq4, hq, hqi⟩ : ∃ q : Nat, q < 4 ∧ b / 64 = q ∧ (b : Int) / 64 = q := ⟨b / 64, by omega, rfl, by omega⟩
  clear h
  have h2r : ∀ j, j ≤ r → 2 ^ j ≤ 9223372036854775808 := fun j hj => by
    have : 2 ^ j ≤ 2 ^ 63 := Nat.pow_le_pow_right (by omega) (by omega)
    omega
  rw [show setV s = .agg #[.int .u64 (s 0), .int .u64 (s 1), .int .u64 (s 2), .int .u64 (s 3)] from rfl]
  have b1 : SBox (w.alloc (.cells (setC s) 37)) w.heap.size 37 s := SBox.new w _ _
  have b2 : SBox ((w.alloc (.cells (setC s) 37)).alloc (.cells (setC emptyS) 37)) w.heap.size 37 s := b1.alloc _
  have e2 : SBox ((w.alloc (.cells (setC s) 37)).alloc (.cells (setC emptyS) 37)) (w.heap.size + 1) 37 emptyS := by have := SBox.new (w.alloc (.cells (setC s) 37)) 37 emptyS; rwa [World.size_alloc] at this
  have bel : Below w.heap.size w ((w.alloc (.cells (setC s) 37)).alloc (.cells (setC emptyS) 37)) := ((Below.refl _ w).alloc (Nat.le_refl _) _).alloc (by simp) _
  have HS := Lib.hid hs; clear hs
  have HQ := Lib.hid hq; clear hq
  have HR := Lib.hid hr1; clear hr1
  have H2R := Lib.hid h2r; clear h2r
  clear b1
  go_enter Tryz.func75, Tryz.ntmps75
  go_wp2_with fail
  refine (ref_Has s HS.out b hb _).mono ?_
  rintro e w1 ⟨rfl, bel1⟩
  have sz1 := bel1.size
  simp at sz1
  have b3 := b2.below bel1 b2.lt
  have e3 := e2.below bel1 e2.lt
  have bel2 : Below w.heap.size w w1 := bel.trans (bel1.mono (by simp; omega))
  clear b2 e2 bel bel1
  have f0 := e3.frozen 0; have f1 := e3.frozen 1; have f2 := e3.frozen 2; have f3 := e3.frozen 3
  have r0 := e3.cell (k := 0) (by omega); have r1 := e3.cell (k := 1) (by omega); have r2 := e3.cell (k := 2) (by omega); have r3 := e3.cell (k := 3) (by omega)
  have E3 := Lib.hid e3; clear e3
  have BEL2 := Lib.hid bel2; clear bel2
  cases hh : hasB s b with
  | true =>
    have HH := Lib.hid hh; clear hh
    have c0 := b3.cell (k := 0) (by omega); have c1 := b3.cell (k := 1) (by omega); have c2 := b3.cell (k := 2) (by omega); have c3 := b3.cell (k := 3) (by omega)
    clear b3
    go_wp2
    have b4 := E3.out.set4 s
    have g0 := b4.cell (k := 0) (by omega); have g1 := b4.cell (k := 1) (by omega); have g2 := b4.cell (k := 2) (by omega); have g3 := b4.cell (k := 3) (by omega)
    exact bodyPost_ret (v := setV s) (by unfold setV; simp [results, Tryz.results75, go_sem, g0, g1, g2, g3]) rfl ⟨by rw [with_has HS.out HH.out], below_set4 BEL2.out (by omega) _ _ _ _⟩
  | false =>
    have HH := Lib.hid hh; clear hh
    have B3 := Lib.hid b3
    have k1 := b3.cell hq4
    have k2 := b3.frozen q
    clear b3
    go_wp2_with fail
    go_loop [5, 6] (fun n i => ∃ j : Nat, j ≤ r ∧ i = .int .u8 j ∧ n = .int .u64 ((2 ^ j : Nat) : Int)) (fun _ i => r - (intOf i).toNat)
    case atStart => exact ⟨0, by omega, rfl, rfl⟩
    case round =>
      obtain ⟨j, hj, rfl, rfl⟩ := hrel
      by_cases hlt : j < r
      · have hp := H2R.out (j + 1) (by omega)
        rw [Nat.pow_succ] at hp
        have hs2 : 2 ^ (j + 1) = 2 ^ j * 2 := Nat.pow_succ ..
        have HS2 := Lib.hid hs2; clear hs2
        obtain ⟨y, hy⟩ : ∃ y, y = 2 ^ j := ⟨_, rfl⟩
        rw [← hy] at hp HS2 ⊢
        clear hy
        have hw : IntKind.u64.wrap (2 * (y : Int)) = 2 * (y : Int) := by rw [IntKind.wrap_u64]; omega
        go_wp2
        go_round
        case rel => exact ⟨j + 1, by omega, by go_num, by rw [HS2.out]; go_num⟩
        case measure => simp [intOf]; omega
      · obtain rfl : j = r := by omega
        have hadd := add_or (HS.out q hq4) hr (by have := HH.out; unfold hasB at this; rwa [HQ.out, HR.out] at this)
        have hp := H2R.out j (Nat.le_refl _)
        have hor : s q ||| 2 ^ j < 2 ^ 64 := Nat.or_lt_two_pow (HS.out q hq4) (by omega)
        rw [← hadd] at hor
        have HADD := Lib.hid hadd; clear hadd
        obtain ⟨y, hy⟩ : ∃ y, y = 2 ^ j := ⟨_, rfl⟩
        rw [← hy] at hp hor HADD ⊢
        have HY := Lib.hid hy; clear hy
        have hw : IntKind.u64.wrap (((s q : Nat) : Int) + (y : Int)) = ((s q + y : Nat) : Int) := by rw [IntKind.wrap_u64]; omega
        have b5 : SBox (w1.setCell ⟨w.heap.size, q, none⟩ (.int .u64 (((s q : Nat) : Int) + (y : Int)))) w.heap.size 37 (addS s b) := by
          have h1 := B3.out.set hq4 (s q + y)
          rw [HADD.out, HY.out, addS_at HQ.out HR.out, ← HY.out, ← HADD.out] at h1
          simpa using h1
        have e5 : SBox (w1.setCell ⟨w.heap.size, q, none⟩ (.int .u64 (((s q : Nat) : Int) + (y : Int)))) (w.heap.size + 1) 37 emptyS := E3.out.other (by omega) _ _
        have bel5 : Below w.heap.size w (w1.setCell ⟨w.heap.size, q, none⟩ (.int .u64 (((s q : Nat) : Int) + (y : Int)))) := BEL2.out.setCell (p := ⟨w.heap.size, q, none⟩) (Nat.le_refl _) _
        have B5 := Lib.hid bel5; clear bel5
        have c0 := b5.cell (k := 0) (by omega); have c1 := b5.cell (k := 1) (by omega); have c2 := b5.cell (k := 2) (by omega); have c3 := b5.cell (k := 3) (by omega)
        clear f0 f1 f2 f3 r0 r1 r2 r3 B3 E3
        have f0 := e5.frozen 0; have f1 := e5.frozen 1; have f2 := e5.frozen 2; have f3 := e5.frozen 3
        have r0 := e5.cell (k := 0) (by omega); have r1 := e5.cell (k := 1) (by omega); have r2 := e5.cell (k := 2) (by omega); have r3 := e5.cell (k := 3) (by omega)
        clear b5
        have E5 := Lib.hid e5; clear e5
        go_wp2
        have b4 := E5.out.set4 (addS s b)
        have g0 := b4.cell (k := 0) (by omega); have g1 := b4.cell (k := 1) (by omega); have g2 := b4.cell (k := 2) (by omega); have g3 := b4.cell (k := 3) (by omega)
        exact bodyPost_ret (v := setV (addS s b)) (by unfold setV; simp [results, Tryz.results75, go_sem, g0, g1, g2, g3]) rfl ⟨rfl, below_set4 B5.out (by omega) _ _ _ _⟩
end Go.Proofs.YtllmgmfihijejaaGreatDoor
/-
  The walks of the sets' reference: Of, Range, Union, Meet.
-/
namespace Go.Proofs.YtllmgmfihijejaaGreatDoor
open Go.RowKit Go.Shelf
attribute [local go_sem] Oper.semAt_some
set_option linter.unusedSimpArgs false

set_option maxRecDepth 100000 in
set_option maxHeartbeats 2000000 in
theorem ref_Of (v : Value) (xs : List Int) (hx : ∀ x ∈ xs, 0 ≤ x ∧ x ≤ 255) (w : World) (h : Rd w w.heap.size v (xs.map (.int .u8))) :
    Calls Tryz.prog 51 #[v] w fun e w' => e = .returned (setV (ofS xs)) ∧ Below w.heap.size w w' := by
  have b1 : SBox (w.alloc (.cells (setC emptyS) 37)) w.heap.size 37 emptyS := SBox.new w _ _
  have b2 : SBox ((w.alloc (.cells (setC emptyS) 37)).alloc (.cells (setC emptyS) 37)) w.heap.size 37 emptyS := b1.alloc _
  have e2 : SBox ((w.alloc (.cells (setC emptyS) 37)).alloc (.cells (setC emptyS) 37)) (w.heap.size + 1) 37 emptyS := by have := SBox.new (w.alloc (.cells (setC emptyS) 37)) 37 emptyS; rwa [World.size_alloc] at this
  have bel : Below w.heap.size w ((w.alloc (.cells (setC emptyS) 37)).alloc (.cells (setC emptyS) 37)) := ((Below.refl _ w).alloc (Nat.le_refl _) _).alloc (by simp) _
  clear b1
  have hl : xs.length ≤ 9223372036854775807 := by simpa using h.len
  obtain ⟨p, cap, rfl⟩ : ∃ p cap, v = .slice p xs.length cap := by rcases h with ⟨⟨q, h⟩, h'⟩ | ⟨b, off, cap, h, _⟩; (obtain rfl : xs = [] := by simpa using h'); exact ⟨_, _, h⟩; exact ⟨some ⟨b, off, none⟩, cap, by simpa using h⟩
  have H := Lib.hid h; clear h
  have HX := Lib.hid hx; clear hx
  go_enter Tryz.func51, Tryz.ntmps51
  go_wp2_with fail
  go_loopw [4] (fun i wr => ∃ k : Nat, k ≤ xs.length ∧ i = .int .i64 k ∧ Hid (SBox wr (w.heap.size + 1) 37 (ofS (xs.take k)) ∧ SBox wr w.heap.size 37 emptyS ∧ Below w.heap.size w wr)) (fun i _ => xs.length - (intOf i).toNat)
  case atStart => exact ⟨0, by omega, rfl, e2, b2, bel⟩
  case round =>
    clear e2 b2 bel
    obtain ⟨k, hk, rfl, G⟩ := hrel
    by_cases hlt : k < xs.length
    · obtain ⟨b0, off, rfl, hb0, hcell⟩ : ∃ b0 off, p = some ⟨b0, off, none⟩ ∧ b0 < w.heap.size ∧ w.cell? ⟨b0, off + k, none⟩ = some (.int .u8 xs[k]) := by
        rcases H.out with ⟨⟨q, h⟩, h'⟩ | ⟨b, off, cap, h, h1, _, _, h4⟩
        · simp at h'; subst h'; simp at hlt
        · injection h with h2 _ _; exact ⟨b, off, h2, h1, by have := h4 k (by simpa using hlt); simpa using this⟩
      have hxk := HX.out xs[k] (List.getElem_mem hlt)
      have hnext : ofS (xs.take (k + 1)) = addS (ofS (xs.take k)) xs[k].toNat := by rw [List.take_succ_eq_append_getElem hlt, ofS_snoc]
      have hS : SetOk (ofS (xs.take k)) := ofS_ok _
      have HN := Lib.hid hnext; clear hnext
      have HS := Lib.hid hS; clear hS
      generalize ofS (xs.take k) = S at G HN HS
      generalize xs[k] = x at hcell hxk HN
      obtain ⟨hx0, hx1⟩ := hxk
      obtain ⟨x, rfl⟩ : ∃ n : Nat, x = n := ⟨x.toNat, by omega⟩
      have HC := Lib.hid hcell; clear hcell
      go_upto_region 5 with fail
      refine wp_region_spec 6 [fun v _ => v = setV S, fun v _ => v = .slice (some ⟨b0, off, none⟩) xs.length cap, fun v _ => v = .int .i64 (k : Int), fun v _ => v = .pointer (some ⟨b0, off + k, none⟩), fun v _ => v = .int .u8 (x : Int), fun v _ => v = setV (addS S x)] (fun _ => false) (by kernel_rfl) (by kernel_rfl) (by kernel_rfl) ⟨stable_eq _, stable_eq _, stable_eq _, stable_eq _, stable_eq _, stable_eq _, trivial⟩ (fun _ _ h => by cases h) ?ob ?en
      case ob =>
        refine ⟨?_, ?_, ?_, ?_, ?_, ?_, trivial⟩ <;> intro A W h
        · exact rs_loadset (s := S) rfl rfl (h.frame 3 rfl) (G.out.1.below h.below G.out.1.lt) (by decide)
        · exact rs_move rfl rfl (h.frame 0 rfl) (by decide)
        · exact rs_move rfl rfl (h.frame 4 rfl) (by decide)
        · exact rs_idx (sz := 1) Tryz.underlying22 (fun w => by kernel_rfl) rfl rfl (h.dep 1 12 rfl rfl) (h.dep 2 13 rfl rfl) (by omega) (by omega) (by decide)
        · (have e14 : A.eval (.tmp 14) = .pointer (some ⟨b0, off + k, none⟩) := h.dep 3 14 rfl rfl; refine rs_pure rfl ?_ (by decide); simp only [execOp, e14]; (have q := ((G.out.2.2.trans (h.below.mono G.out.2.2.size)).cell (p := ⟨b0, off + k, none⟩) hb0).trans HC.out; simp [go_sem, q]))
        · exact rs_calln rfl rfl (enters_of Tryz.func75 (by kernel_rfl) rfl) (args2 ⟨(h.dep 0 11 rfl rfl), (h.dep 4 15 rfl rfl)⟩) (ref_with S HS.out x (by omega) W) (by decide)
      case en =>
        intro vals W hbw hv _
        have v0 : vals 0 = setV S := hv 0 (by omega)
        have v1 : vals 1 = .slice (some ⟨b0, off, none⟩) xs.length cap := hv 1 (by omega)
        have v2 : vals 2 = .int .i64 (k : Int) := hv 2 (by omega)
        have v3 : vals 3 = .pointer (some ⟨b0, off + k, none⟩) := hv 3 (by omega)
        have v4 : vals 4 = .int .u8 (x : Int) := hv 4 (by omega)
        have v5 : vals 5 = setV (addS S x) := hv 5 (by omega)
        simp only [List.take_succ_cons, List.take_zero, List.drop_succ_cons, List.drop_zero, List.drop_nil, List.take_nil, fillAll, Nat.zero_add, Nat.reduceAdd]
        rw [v0, v1, v2, v3, v4, v5]
        clear hv v0 v1 v2 v3 v4 v5
        try simp only [put_lit, List.setIfInBounds_toArray, List.set_cons_succ, List.set_cons_zero]
        have s1 := G.out.1.below hbw G.out.1.lt
        have s2 := G.out.2.1.below hbw G.out.2.1.lt
        have s3 := G.out.2.2.trans (hbw.mono G.out.2.2.size)
        have f0 := s1.frozen 0; have f1 := s1.frozen 1; have f2 := s1.frozen 2; have f3 := s1.frozen 3
        have r0 := s1.cell (k := 0) (by omega); have r1 := s1.cell (k := 1) (by omega); have r2 := s1.cell (k := 2) (by omega); have r3 := s1.cell (k := 3) (by omega)
        have S1 := Lib.hid s1; clear s1
        have S2 := Lib.hid s2; clear s2
        have S3 := Lib.hid s3; clear s3
        have sz := G.out.1.lt
        clear hbw G
        rw [show setV (addS S x) = .agg #[.int .u64 (addS S x 0), .int .u64 (addS S x 1), .int .u64 (addS S x 2), .int .u64 (addS S x 3)] from rfl]
        go_wp2_with fail
        go_roundw
        case rel => exact ⟨k + 1, by omega, by go_num, by rw [HN.out]; exact S1.out.set4 _, (((S2.out.other (by omega) _ _).other (by omega) _ _).other (by omega) _ _).other (by omega) _ _, below_set4 S3.out (by omega) _ _ _ _⟩
        case measure => simp [intOf]; omega
    · obtain rfl : k = xs.length := by omega
      have ⟨s1, s2, s3⟩ := G.out
      rw [List.take_length] at s1
      clear G
      have f0 := s2.frozen 0; have f1 := s2.frozen 1; have f2 := s2.frozen 2; have f3 := s2.frozen 3
      have r0 := s2.cell (k := 0) (by omega); have r1 := s2.cell (k := 1) (by omega); have r2 := s2.cell (k := 2) (by omega); have r3 := s2.cell (k := 3) (by omega)
      have c0 := s1.cell (k := 0) (by omega); have c1 := s1.cell (k := 1) (by omega); have c2 := s1.cell (k := 2) (by omega); have c3 := s1.cell (k := 3) (by omega)
      clear s1
      have S2 := Lib.hid s2; clear s2
      have S3 := Lib.hid s3; clear s3
      go_wp2
      have b4 := S2.out.set4 (ofS xs)
      have g0 := b4.cell (k := 0) (by omega); have g1 := b4.cell (k := 1) (by omega); have g2 := b4.cell (k := 2) (by omega); have g3 := b4.cell (k := 3) (by omega)
      exact bodyPost_ret (v := setV (ofS xs)) (by unfold setV; simp [results, Tryz.results51, go_sem, g0, g1, g2, g3]) rfl ⟨rfl, below_set4 S3.out (by omega) _ _ _ _⟩

end Go.Proofs.YtllmgmfihijejaaGreatDoor
/-
  The walks of the sets' reference: Range, Union, Meet.
-/
namespace Go.Proofs.YtllmgmfihijejaaGreatDoor
open Go.RowKit Go.Shelf
attribute [local go_sem] Oper.semAt_some
set_option linter.unusedSimpArgs false

def UTo (L : List (Nat → Nat)) (b i : Nat) (S : Nat → Nat) : Prop := SetOk S ∧ ∀ c, c < 256 → hasB S c = ((decide (c < b) && L.any (fun t => hasB t c)) || (decide (c = b) && (L.take i).any (fun t => hasB t c)))
theorem UTo.start (L : List (Nat → Nat)) : UTo L 0 0 emptyS := ⟨emptyS_ok, fun c _ => by simp [has_empty]⟩
theorem UTo.hit {L : List (Nat → Nat)} {b i : Nat} {S : Nat → Nat} (h : UTo L b i S) (hi : i < L.length) (hb : hasB L[i] b = true) : UTo L b (i + 1) (addS S b) :=
  ⟨addS_ok h.1 b, fun c hc => by
    rw [has_add, h.2 c hc, List.take_succ_eq_append_getElem hi, List.any_append]
    by_cases e : c = b
    · subst e; simp [hb]
    · simp [e]⟩
theorem UTo.miss {L : List (Nat → Nat)} {b i : Nat} {S : Nat → Nat} (h : UTo L b i S) (hi : i < L.length) (hb : hasB L[i] b = false) : UTo L b (i + 1) S :=
  ⟨h.1, fun c hc => by
    rw [h.2 c hc, List.take_succ_eq_append_getElem hi, List.any_append]
    by_cases e : c = b
    · subst e; simp [hb]
    · simp [e]⟩
theorem UTo.next {L : List (Nat → Nat)} {b : Nat} {S : Nat → Nat} (h : UTo L b L.length S) : UTo L (b + 1) 0 S :=
  ⟨h.1, fun c hc => by
    rw [h.2 c hc, List.take_length]
    by_cases e : c = b
    · subst e; simp
    · by_cases e2 : c < b
      · simp [e, e2, Nat.lt_succ_of_lt e2]
      · simp [e, e2, show ¬ c < b + 1 from by omega]⟩
theorem UTo.done {L : List (Nat → Nat)} {S : Nat → Nat} (hL : ∀ t ∈ L, SetOk t) (h : UTo L 256 0 S) : setV S = setV (unionS L) :=
  setV_ext h.1 (unionS_ok hL) fun c hc => by rw [h.2 c hc, has_union]; simp [hc]
def MTo (L : List (Nat → Nat)) (b : Nat) (S : Nat → Nat) : Prop := SetOk S ∧ ∀ c, c < 256 → hasB S c = (decide (c < b) && L.all (fun t => hasB t c))
theorem MTo.start (L : List (Nat → Nat)) : MTo L 0 emptyS := ⟨emptyS_ok, fun c _ => by simp [has_empty]⟩
theorem MTo.hit {L : List (Nat → Nat)} {b : Nat} {S : Nat → Nat} (h : MTo L b S) (hb : L.all (fun t => hasB t b) = true) : MTo L (b + 1) (addS S b) :=
  ⟨addS_ok h.1 b, fun c hc => by
    rw [has_add, h.2 c hc]
    by_cases e : c = b
    · subst e; rw [hb]; simp
    · by_cases e2 : c < b
      · simp [e, e2, Nat.lt_succ_of_lt e2]
      · simp [e, e2, show ¬ c < b + 1 from by omega]⟩
theorem MTo.miss {L : List (Nat → Nat)} {b : Nat} {S : Nat → Nat} (h : MTo L b S) (hb : L.all (fun t => hasB t b) = false) : MTo L (b + 1) S :=
  ⟨h.1, fun c hc => by
    rw [h.2 c hc]
    by_cases e : c = b
    · subst e; rw [hb]; simp
    · by_cases e2 : c < b
      · simp [e2, Nat.lt_succ_of_lt e2]
      · simp [e2, show ¬ c < b + 1 from by omega]⟩
theorem MTo.done {L : List (Nat → Nat)} {S : Nat → Nat} (hL : ∀ t ∈ L, SetOk t) (h : MTo L 256 S) : setV S = setV (meetS L) :=
  setV_ext h.1 (meetS_ok hL) fun c hc => by rw [h.2 c hc, has_meet]; simp [hc]
theorem all_take {L : List (Nat → Nat)} {b i : Nat} (hi : i < L.length) : (L.take (i + 1)).all (fun t => hasB t b) = ((L.take i).all (fun t => hasB t b) && hasB L[i] b) := by
  rw [List.take_succ_eq_append_getElem hi, List.all_append]; simp

theorem rs_loadcells {ops : Array Oper} {o : Oper} {a : Act} {w : World} {x : Operand} {B off : Nat} {s : Nat → Nat} {D : Prop} (hg : Region.wanted o (yielded ops a.tmps) = true) (hop : o.op = Op.load 37 x)
    (hx : a.eval x = .pointer (some ⟨B, off, none⟩)) (hB : ∀ k, k < 4 → w.cell? ⟨B, off + k, none⟩ = some (.int .u64 (s k))) (hD : ¬ D) : RStep Tryz.prog ops o a w (fun v _ => v = setV s ∧ (D → w.heap.size ≤ blk v)) := by
  have k0 := hB 0 (by omega); have k1 := hB 1 (by omega); have k2 := hB 2 (by omega); have k3 := hB 3 (by omega)
  rw [Nat.add_zero] at k0
  refine rs_val hg (v := setV s) (w' := w) ?_ (Below.refl _ w) ⟨rfl, fun h => (hD h).elim⟩
  unfold setV
  simp only [execOp, hop, hx]
  simp [go_sem, k0, k1, k2, k3]

set_option maxRecDepth 100000 in
set_option maxHeartbeats 2000000 in
theorem ref_Range (lo hi : Nat) (hlo : lo ≤ 255) (hhi : hi ≤ 255) (w : World) :
    Calls Tryz.prog 92 #[.int .u8 lo, .int .u8 hi] w fun e w' => e = .returned (setV (rangeS lo (hi + 1 - lo))) ∧ Below w.heap.size w w' := by
  have b1 : SBox (w.alloc (.cells (setC emptyS) 37)) w.heap.size 37 emptyS := SBox.new w _ _
  have b2 : SBox ((w.alloc (.cells (setC emptyS) 37)).alloc (.cells (setC emptyS) 37)) w.heap.size 37 emptyS := b1.alloc _
  have e2 : SBox ((w.alloc (.cells (setC emptyS) 37)).alloc (.cells (setC emptyS) 37)) (w.heap.size + 1) 37 emptyS := by have := SBox.new (w.alloc (.cells (setC emptyS) 37)) 37 emptyS; rwa [World.size_alloc] at this
  have bel : Below w.heap.size w ((w.alloc (.cells (setC emptyS) 37)).alloc (.cells (setC emptyS) 37)) := ((Below.refl _ w).alloc (Nat.le_refl _) _).alloc (by simp) _
  clear b1
  go_enter Tryz.func92, Tryz.ntmps92
  go_wp2_with fail
  go_loopw [6] (fun i wr => ∃ m : Nat, m ≤ hi + 1 - lo ∧ i = .int .i64 ((lo + m : Nat) : Int) ∧ Hid (SBox wr (w.heap.size + 1) 37 (rangeS lo m) ∧ SBox wr w.heap.size 37 emptyS ∧ Below w.heap.size w wr ∧ True)) (fun i _ => 256 - (intOf i).toNat)
  case atStart => exact ⟨0, by omega, rfl, e2, b2, bel, trivial⟩
  case round =>
    clear e2 b2 bel
    obtain ⟨m, hm, rfl, H⟩ := hrel
    obtain ⟨n, hn⟩ : ∃ n, lo + m = n := ⟨_, rfl⟩
    rw [hn]
    have HN := Lib.hid hn; clear hn
    have hn2 : n ≤ hi + 1 ∨ n = lo := by have := HN.out; omega
    by_cases hlt : n ≤ hi
    · have hnext := rangeS_succ lo m
      rw [HN.out] at hnext
      have hS : SetOk (rangeS lo m) := ofS_ok _
      have Hnext := Lib.hid hnext; clear hnext
      have HS := Lib.hid hS; clear hS
      generalize rangeS lo m = S at H Hnext HS
      go_upto_region 5 with fail
      refine wp_region_seq 4 [fun v _ => v = setV S, fun v _ => v = .int .i64 (n : Int), fun v _ => v = .int .u8 (n : Int), fun v _ => v = setV (addS S n)] (fun _ => false) (by kernel_rfl) (by kernel_rfl) ⟨stable_eq _, stable_eq _, stable_eq _, stable_eq _, trivial⟩ (fun _ _ h => by cases h) ?ob ?en
      case ob =>
        refine ⟨?_, ?_, ?_, ?_, trivial⟩ <;> intro A W h
        · exact rs_loadset (s := S) rfl rfl (h.frame 5 rfl) (H.out.1.below h.below H.out.1.lt) (by decide)
        · exact rs_move rfl rfl (h.frame 6 rfl) (by decide)
        · (have e16 : A.eval (.tmp 16) = .int .i64 (n : Int) := h.dep 1 16 rfl rfl; refine rs_pure rfl ?_ (by decide); simp only [execOp, e16]; (simp [go_sem] <;> first | done | omega | (rw [IntKind.wrap_i64]; omega) | (rw [IntKind.wrap_u8]; omega) | (rw [IntKind.wrap_u64]; omega)))
        · exact rs_calln rfl rfl (enters_of Tryz.func75 (by kernel_rfl) rfl) (args2 ⟨(h.dep 0 15 rfl rfl), (h.dep 2 17 rfl rfl)⟩) (ref_with S HS.out n (by omega) W) (by decide)
      case en =>
        intro vals W hbw hv _
        have v0 : vals 0 = setV S := hv 0 (by omega)
        have v1 : vals 1 = .int .i64 (n : Int) := hv 1 (by omega)
        have v2 : vals 2 = .int .u8 (n : Int) := hv 2 (by omega)
        have v3 : vals 3 = setV (addS S n) := hv 3 (by omega)
        simp only [List.take_succ_cons, List.take_zero, List.drop_succ_cons, List.drop_zero, List.drop_nil, List.take_nil, fillAll, Nat.zero_add, Nat.reduceAdd]
        rw [v0, v1, v2, v3]
        clear hv v0 v1 v2 v3
        try simp only [put_lit, List.setIfInBounds_toArray, List.set_cons_succ, List.set_cons_zero]
        have s1 := H.out.1.below hbw H.out.1.lt
        have s2 := H.out.2.1.below hbw H.out.2.1.lt
        have s3 := H.out.2.2.1.trans (hbw.mono H.out.2.2.1.size)
        have f0 := s1.frozen 0; have f1 := s1.frozen 1; have f2 := s1.frozen 2; have f3 := s1.frozen 3
        have r0 := s1.cell (k := 0) (by omega); have r1 := s1.cell (k := 1) (by omega); have r2 := s1.cell (k := 2) (by omega); have r3 := s1.cell (k := 3) (by omega)
        have S1 := Lib.hid s1; clear s1
        have S2 := Lib.hid s2; clear s2
        have S3 := Lib.hid s3; clear s3
        clear hbw
        rw [show setV (addS S n) = .agg #[.int .u64 (addS S n 0), .int .u64 (addS S n 1), .int .u64 (addS S n 2), .int .u64 (addS S n 3)] from rfl]
        go_wp2_with fail
        have T1 := Lib.hid (S1.out.set4 (addS S n))
        have T2 := Lib.hid ((((S2.out.other (B' := w.heap.size + 1) (by omega) 0 (.int .u64 (addS S n 0))).other (B' := w.heap.size + 1) (by omega) 1 (.int .u64 (addS S n 1))).other (B' := w.heap.size + 1) (by omega) 2 (.int .u64 (addS S n 2))).other (B' := w.heap.size + 1) (by omega) 3 (.int .u64 (addS S n 3)))
        have T3 := Lib.hid (below_set4 S3.out (B := w.heap.size + 1) (by omega) (.int .u64 (addS S n 0)) (.int .u64 (addS S n 1)) (.int .u64 (addS S n 2)) (.int .u64 (addS S n 3)))
        go_roundw
        case rel => exact ⟨m + 1, by have := HN.out; omega, by have := HN.out; go_num, by rw [Hnext.out]; exact T1.out, T2.out, T3.out, trivial⟩
        case measure => simp [intOf]; omega
    · have hm2 : m = hi + 1 - lo := by have := HN.out; omega
      subst hm2
      have ⟨s1, s2, s3, _⟩ := H.out
      clear H
      have f0 := s2.frozen 0; have f1 := s2.frozen 1; have f2 := s2.frozen 2; have f3 := s2.frozen 3
      have r0 := s2.cell (k := 0) (by omega); have r1 := s2.cell (k := 1) (by omega); have r2 := s2.cell (k := 2) (by omega); have r3 := s2.cell (k := 3) (by omega)
      have c0 := s1.cell (k := 0) (by omega); have c1 := s1.cell (k := 1) (by omega); have c2 := s1.cell (k := 2) (by omega); have c3 := s1.cell (k := 3) (by omega)
      clear s1
      have S2 := Lib.hid s2; clear s2
      have S3 := Lib.hid s3; clear s3
      go_wp2
      have b4 := S2.out.set4 (rangeS lo (hi + 1 - lo))
      have g0 := b4.cell (k := 0) (by omega); have g1 := b4.cell (k := 1) (by omega); have g2 := b4.cell (k := 2) (by omega); have g3 := b4.cell (k := 3) (by omega)
      exact bodyPost_ret (v := setV (rangeS lo (hi + 1 - lo))) (by unfold setV; simp [results, Tryz.results92, go_sem, g0, g1, g2, g3]) rfl ⟨rfl, below_set4 S3.out (by omega) _ _ _ _⟩

set_option maxRecDepth 100000 in
set_option maxHeartbeats 4000000 in
theorem ref_Union (v : Value) (L : List (Nat → Nat)) (hL : ∀ t ∈ L, SetOk t) (w : World) (h : RdS w w.heap.size v L) :
    Calls Tryz.prog 74 #[v] w fun e w' => e = .returned (setV (unionS L)) ∧ Below w.heap.size w w' := by
  have b1 : SBox (w.alloc (.cells (setC emptyS) 37)) w.heap.size 37 emptyS := SBox.new w _ _
  have b2 : SBox ((w.alloc (.cells (setC emptyS) 37)).alloc (.cells (setC emptyS) 37)) w.heap.size 37 emptyS := b1.alloc _
  have e2 : SBox ((w.alloc (.cells (setC emptyS) 37)).alloc (.cells (setC emptyS) 37)) (w.heap.size + 1) 37 emptyS := by have := SBox.new (w.alloc (.cells (setC emptyS) 37)) 37 emptyS; rwa [World.size_alloc] at this
  have bel : Below w.heap.size w ((w.alloc (.cells (setC emptyS) 37)).alloc (.cells (setC emptyS) 37)) := ((Below.refl _ w).alloc (Nat.le_refl _) _).alloc (by simp) _
  clear b1
  have hl : L.length ≤ 9223372036854775807 := by
    rcases h with ⟨_, rfl⟩ | ⟨b, off, cap, _, _, h1, h2, _⟩
    · simp
    · unfold maxLen at h2; omega
  obtain ⟨p, cap, rfl⟩ : ∃ p cap, v = .slice p L.length cap := by rcases h with ⟨⟨q, h⟩, rfl⟩ | ⟨b, off, cap, h, _⟩ <;> exact ⟨_, _, h⟩
  have H := Lib.hid h; clear h
  have HL := Lib.hid hL; clear hL
  go_enter Tryz.func74, Tryz.ntmps74
  go_wp2_with fail
  go_loopw [4, 5] (fun n _ wr => ∃ k : Nat, k ≤ 256 ∧ n = .int .i64 k ∧ Hid (∃ S, SBox wr (w.heap.size + 1) 37 S ∧ SBox wr w.heap.size 37 emptyS ∧ Below w.heap.size w wr ∧ UTo L k 0 S)) (fun n _ _ => 256 - (intOf n).toNat)
  case atStart => exact ⟨0, by omega, rfl, _, e2, b2, bel, UTo.start L⟩
  case round =>
    clear e2 b2 bel
    obtain ⟨n, hn, rfl, G⟩ := hrel
    by_cases hlt : n < 256
    · obtain ⟨wo, rfl⟩ : ∃ wo : World, wo = wr := ⟨_, rfl⟩
      go_wp2_with fail
      go_loopw [5] (fun i wr => ∃ k : Nat, k ≤ L.length ∧ i = .int .i64 k ∧ Hid (∃ S, SBox wr (w.heap.size + 1) 37 S ∧ SBox wr w.heap.size 37 emptyS ∧ Below w.heap.size w wr ∧ UTo L n k S)) (fun i _ => L.length - (intOf i).toNat)
      case atStart => exact ⟨0, by omega, rfl, G.out⟩
      case round =>
        clear G
        obtain ⟨i, hi, rfl, G⟩ := hrel
        by_cases hil : i < L.length
        · obtain ⟨b0, off, rfl, hb0, hcell⟩ : ∃ b0 off, p = some ⟨b0, off, none⟩ ∧ b0 < w.heap.size ∧ ∀ k, k < 4 → w.cell? ⟨b0, off + i * 4 + k, none⟩ = some (.int .u64 (L[i] k)) := by
            rcases H.out with ⟨⟨q, h⟩, h'⟩ | ⟨b, off, cap, h, h1, _, _, h4⟩
            · subst h'; simp at hil
            · injection h with h2 _ _; exact ⟨b, off, h2, h1, fun k hk => h4 i hil k hk⟩
          obtain ⟨S, G⟩ : ∃ S, Hid (SBox wr (w.heap.size + 1) 37 S ∧ SBox wr w.heap.size 37 emptyS ∧ Below w.heap.size w wr ∧ UTo L n i S) := by obtain ⟨S, h⟩ := G.out; exact ⟨S, h⟩
          have hOk := HL.out L[i] (List.getElem_mem hil)
          have hHit := fun h : hasB L[i] n = true => G.out.2.2.2.hit hil h
          have hMiss := fun h : hasB L[i] n = false => G.out.2.2.2.miss hil h
          have HOK := Lib.hid hOk; clear hOk
          have HHit := Lib.hid hHit; clear hHit
          have HMiss := Lib.hid hMiss; clear hMiss
          have HC := Lib.hid hcell; clear hcell
          generalize L[i] = t at HOK HHit HMiss HC
          go_upto_region 8 with fail
          refine wp_region_seq 7 [fun v _ => v = .slice (some ⟨b0, off, none⟩) L.length cap, fun v _ => v = .int .i64 (i : Int), fun v _ => v = .pointer (some ⟨b0, off + i * 4, none⟩), fun v _ => v = setV t, fun v _ => v = .int .i64 (n : Int), fun v _ => v = .int .u8 (n : Int), fun v _ => v = .bool (hasB t n)] (fun _ => false) (by kernel_rfl) (by kernel_rfl) ⟨stable_eq _, stable_eq _, stable_eq _, stable_eq _, stable_eq _, stable_eq _, stable_eq _, trivial⟩ (fun _ _ h => by cases h) ?ob ?en
          case ob =>
            refine ⟨?_, ?_, ?_, ?_, ?_, ?_, ?_, trivial⟩ <;> intro A W h
            · exact rs_move rfl rfl (h.frame 0 rfl) (by decide)
            · exact rs_move rfl rfl (h.frame 5 rfl) (by decide)
            · exact rs_idx (sz := 4) Tryz.underlying83 (fun w => by kernel_rfl) rfl rfl (h.dep 0 16 rfl rfl) (h.dep 1 17 rfl rfl) (by omega) (by omega) (by decide)
            · exact rs_loadcells rfl rfl (h.dep 2 18 rfl rfl) (fun k hk => ((G.out.2.2.1.trans (h.below.mono G.out.2.2.1.size)).cell (p := ⟨b0, off + i * 4 + k, none⟩) hb0).trans (HC.out k hk)) (by decide)
            · exact rs_move rfl rfl (h.frame 4 rfl) (by decide)
            · (have e20 : A.eval (.tmp 20) = .int .i64 (n : Int) := h.dep 4 20 rfl rfl; refine rs_pure rfl ?_ (by decide); simp only [execOp, e20]; (simp [go_sem] <;> first | done | omega | (rw [IntKind.wrap_i64]; omega) | (rw [IntKind.wrap_u8]; omega) | (rw [IntKind.wrap_u64]; omega)))
            · exact rs_calln rfl rfl (enters_of Tryz.func70 (by kernel_rfl) rfl) (args2 ⟨(h.dep 3 19 rfl rfl), (h.dep 5 21 rfl rfl)⟩) (ref_Has t HOK.out n (by omega) W) (by decide)
          case en =>
            intro vals W hbw hv _
            have v0 : vals 0 = .slice (some ⟨b0, off, none⟩) L.length cap := hv 0 (by omega)
            have v1 : vals 1 = .int .i64 (i : Int) := hv 1 (by omega)
            have v2 : vals 2 = .pointer (some ⟨b0, off + i * 4, none⟩) := hv 2 (by omega)
            have v3 : vals 3 = setV t := hv 3 (by omega)
            have v4 : vals 4 = .int .i64 (n : Int) := hv 4 (by omega)
            have v5 : vals 5 = .int .u8 (n : Int) := hv 5 (by omega)
            have v6 : vals 6 = .bool (hasB t n) := hv 6 (by omega)
            simp only [List.take_succ_cons, List.take_zero, List.drop_succ_cons, List.drop_zero, List.drop_nil, List.take_nil, fillAll, Nat.zero_add, Nat.reduceAdd]
            rw [v0, v1, v2, v3, v4, v5, v6]
            clear hv v0 v1 v2 v3 v4 v5 v6
            try simp only [put_lit, List.setIfInBounds_toArray, List.set_cons_succ, List.set_cons_zero]
            have G9 : Hid (SBox W (w.heap.size + 1) 37 S ∧ SBox W w.heap.size 37 emptyS ∧ Below w.heap.size w W ∧ UTo L n i S) := ⟨G.out.1.below hbw G.out.1.lt, G.out.2.1.below hbw G.out.2.1.lt, G.out.2.2.1.trans (hbw.mono G.out.2.2.1.size), G.out.2.2.2⟩
            clear G hbw
            cases hb : hasB t n with
            | false =>
              have U := Lib.hid (HMiss.out hb); clear hb
              go_wp2_with fail
              go_roundw
              case rel => exact ⟨i + 1, by omega, by go_num, S, G9.out.1, G9.out.2.1, G9.out.2.2.1, U.out⟩
              case measure => simp [intOf]; omega
            | true =>
              have U := Lib.hid (HHit.out hb); clear hb
              go_upto_region 9 with fail
              refine wp_region_seq 4 [fun v _ => v = setV S, fun v _ => v = .int .i64 (n : Int), fun v _ => v = .int .u8 (n : Int), fun v _ => v = setV (addS S n)] (fun _ => false) (by kernel_rfl) (by kernel_rfl) ⟨stable_eq _, stable_eq _, stable_eq _, stable_eq _, trivial⟩ (fun _ _ h => by cases h) ?ob ?en
              case ob =>
                refine ⟨?_, ?_, ?_, ?_, trivial⟩ <;> intro A W h
                · exact rs_loadset (s := S) rfl rfl (h.frame 3 rfl) (G9.out.1.below h.below G9.out.1.lt) (by decide)
                · exact rs_move rfl rfl (h.frame 4 rfl) (by decide)
                · (have e24 : A.eval (.tmp 24) = .int .i64 (n : Int) := h.dep 1 24 rfl rfl; refine rs_pure rfl ?_ (by decide); simp only [execOp, e24]; (simp [go_sem] <;> first | done | omega | (rw [IntKind.wrap_i64]; omega) | (rw [IntKind.wrap_u8]; omega) | (rw [IntKind.wrap_u64]; omega)))
                · exact rs_calln rfl rfl (enters_of Tryz.func75 (by kernel_rfl) rfl) (args2 ⟨(h.dep 0 23 rfl rfl), (h.dep 2 25 rfl rfl)⟩) (ref_with S G9.out.2.2.2.1 n (by omega) W) (by decide)
              case en =>
                intro vals W hbw hv _
                have v0 : vals 0 = setV S := hv 0 (by omega)
                have v1 : vals 1 = .int .i64 (n : Int) := hv 1 (by omega)
                have v2 : vals 2 = .int .u8 (n : Int) := hv 2 (by omega)
                have v3 : vals 3 = setV (addS S n) := hv 3 (by omega)
                simp only [List.take_succ_cons, List.take_zero, List.drop_succ_cons, List.drop_zero, List.drop_nil, List.take_nil, fillAll, Nat.zero_add, Nat.reduceAdd]
                rw [v0, v1, v2, v3]
                clear hv v0 v1 v2 v3
                try simp only [put_lit, List.setIfInBounds_toArray, List.set_cons_succ, List.set_cons_zero]
                have s1 := G9.out.1.below hbw G9.out.1.lt
                have s2 := G9.out.2.1.below hbw G9.out.2.1.lt
                have s3 := G9.out.2.2.1.trans (hbw.mono G9.out.2.2.1.size)
                have f0 := s1.frozen 0; have f1 := s1.frozen 1; have f2 := s1.frozen 2; have f3 := s1.frozen 3
                have r0 := s1.cell (k := 0) (by omega); have r1 := s1.cell (k := 1) (by omega); have r2 := s1.cell (k := 2) (by omega); have r3 := s1.cell (k := 3) (by omega)
                have S1 := Lib.hid s1; clear s1
                have S2 := Lib.hid s2; clear s2
                have S3 := Lib.hid s3; clear s3
                clear hbw
                rw [show setV (addS S n) = .agg #[.int .u64 (addS S n 0), .int .u64 (addS S n 1), .int .u64 (addS S n 2), .int .u64 (addS S n 3)] from rfl]
                go_wp2_with fail
                have T1 := Lib.hid (S1.out.set4 (addS S n))
                have T2 := Lib.hid ((((S2.out.other (B' := w.heap.size + 1) (by omega) 0 (.int .u64 (addS S n 0))).other (B' := w.heap.size + 1) (by omega) 1 (.int .u64 (addS S n 1))).other (B' := w.heap.size + 1) (by omega) 2 (.int .u64 (addS S n 2))).other (B' := w.heap.size + 1) (by omega) 3 (.int .u64 (addS S n 3)))
                have T3 := Lib.hid (below_set4 S3.out (B := w.heap.size + 1) (by omega) (.int .u64 (addS S n 0)) (.int .u64 (addS S n 1)) (.int .u64 (addS S n 2)) (.int .u64 (addS S n 3)))
                go_roundw
                case rel => exact ⟨i + 1, by omega, by go_num, addS S n, T1.out, T2.out, T3.out, U.out⟩
                case measure => simp [intOf]; omega
        · obtain rfl : i = L.length := by omega
          go_wp2_with fail
          go_roundw
          case rel => obtain ⟨S, g1, g2, g3, g4⟩ := G.out; exact ⟨n + 1, by omega, by go_num, S, g1, g2, g3, g4.next⟩
          case measure => simp [intOf]; omega
    · obtain rfl : n = 256 := by omega
      obtain ⟨S, s1, s2, s3, hu⟩ := G.out
      have HU := Lib.hid (hu.done HL.out); clear hu G
      have f0 := s2.frozen 0; have f1 := s2.frozen 1; have f2 := s2.frozen 2; have f3 := s2.frozen 3
      have r0 := s2.cell (k := 0) (by omega); have r1 := s2.cell (k := 1) (by omega); have r2 := s2.cell (k := 2) (by omega); have r3 := s2.cell (k := 3) (by omega)
      have c0 := s1.cell (k := 0) (by omega); have c1 := s1.cell (k := 1) (by omega); have c2 := s1.cell (k := 2) (by omega); have c3 := s1.cell (k := 3) (by omega)
      clear s1
      have S2 := Lib.hid s2; clear s2
      have S3 := Lib.hid s3; clear s3
      go_wp2
      have b4 := S2.out.set4 (S)
      have g0 := b4.cell (k := 0) (by omega); have g1 := b4.cell (k := 1) (by omega); have g2 := b4.cell (k := 2) (by omega); have g3 := b4.cell (k := 3) (by omega)
      exact bodyPost_ret (v := setV (S)) (by unfold setV; simp [results, Tryz.results74, go_sem, g0, g1, g2, g3]) rfl ⟨by rw [HU.out], below_set4 S3.out (by omega) _ _ _ _⟩

set_option maxRecDepth 100000 in
set_option maxHeartbeats 4000000 in
theorem ref_Meet (v : Value) (L : List (Nat → Nat)) (hL : ∀ t ∈ L, SetOk t) (w : World) (h : RdS w w.heap.size v L) :
    Calls Tryz.prog 91 #[v] w fun e w' => e = .returned (setV (meetS L)) ∧ Below w.heap.size w w' := by
  have b1 : SBox (w.alloc (.cells (setC emptyS) 37)) w.heap.size 37 emptyS := SBox.new w _ _
  have b2 : SBox ((w.alloc (.cells (setC emptyS) 37)).alloc (.cells (setC emptyS) 37)) w.heap.size 37 emptyS := b1.alloc _
  have e2 : SBox ((w.alloc (.cells (setC emptyS) 37)).alloc (.cells (setC emptyS) 37)) (w.heap.size + 1) 37 emptyS := by have := SBox.new (w.alloc (.cells (setC emptyS) 37)) 37 emptyS; rwa [World.size_alloc] at this
  have bel : Below w.heap.size w ((w.alloc (.cells (setC emptyS) 37)).alloc (.cells (setC emptyS) 37)) := ((Below.refl _ w).alloc (Nat.le_refl _) _).alloc (by simp) _
  clear b1
  have hl : L.length ≤ 9223372036854775807 := by
    rcases h with ⟨_, rfl⟩ | ⟨b, off, cap, _, _, h1, h2, _⟩
    · simp
    · unfold maxLen at h2; omega
  obtain ⟨p, cap, rfl⟩ : ∃ p cap, v = .slice p L.length cap := by rcases h with ⟨⟨q, h⟩, rfl⟩ | ⟨b, off, cap, h, _⟩ <;> exact ⟨_, _, h⟩
  have H := Lib.hid h; clear h
  have HL := Lib.hid hL; clear hL
  go_enter Tryz.func91, Tryz.ntmps91
  go_wp2_with fail
  go_loopw [4, 5, 6] (fun n _ _ wr => ∃ k : Nat, k ≤ 256 ∧ n = .int .i64 k ∧ Hid (∃ S, SBox wr (w.heap.size + 1) 37 S ∧ SBox wr w.heap.size 37 emptyS ∧ Below w.heap.size w wr ∧ MTo L k S)) (fun n _ _ _ => 256 - (intOf n).toNat)
  case atStart => exact ⟨0, by omega, rfl, _, e2, b2, bel, MTo.start L⟩
  case round =>
    clear e2 b2 bel
    obtain ⟨n, hn, rfl, G⟩ := hrel
    by_cases hlt : n < 256
    · obtain ⟨wo, rfl⟩ : ∃ wo : World, wo = wr := ⟨_, rfl⟩
      obtain ⟨S, G⟩ : ∃ S, Hid (SBox wo (w.heap.size + 1) 37 S ∧ SBox wo w.heap.size 37 emptyS ∧ Below w.heap.size w wo ∧ MTo L n S) := by obtain ⟨S, h⟩ := G.out; exact ⟨S, h⟩
      go_wp2_with fail
      go_loopw [5, 6] (fun a i wr => ∃ k : Nat, k ≤ L.length ∧ i = .int .i64 k ∧ a = .bool ((L.take k).all (fun t => hasB t n)) ∧ Hid (SBox wr (w.heap.size + 1) 37 S ∧ SBox wr w.heap.size 37 emptyS ∧ Below w.heap.size w wr ∧ MTo L n S)) (fun _ i _ => L.length - (intOf i).toNat)
      case atStart => exact ⟨0, by omega, rfl, by simp, G.out⟩
      case round =>
        clear G
        obtain ⟨i, hi, rfl, rfl, G⟩ := hrel
        by_cases hil : i < L.length
        · obtain ⟨b0, off, rfl, hb0, hcell⟩ : ∃ b0 off, p = some ⟨b0, off, none⟩ ∧ b0 < w.heap.size ∧ ∀ k, k < 4 → w.cell? ⟨b0, off + i * 4 + k, none⟩ = some (.int .u64 (L[i] k)) := by
            rcases H.out with ⟨⟨q, h⟩, h'⟩ | ⟨b, off, cap, h, h1, _, _, h4⟩
            · subst h'; simp at hil
            · injection h with h2 _ _; exact ⟨b, off, h2, h1, fun k hk => h4 i hil k hk⟩
          have hOk := HL.out L[i] (List.getElem_mem hil)
          have HOK := Lib.hid hOk; clear hOk
          have HA := Lib.hid (all_take (b := n) hil)
          have HC := Lib.hid hcell; clear hcell
          generalize L[i] = t at HOK HA HC
          generalize (L.take i).all (fun t => hasB t n) = fl at HA
          cases fl with
          | true =>
            have HA' := Lib.hid (HA.out.trans (Bool.true_and _)); clear HA
            go_upto_region 9 with fail
            refine wp_region_seq 10 [fun v _ => v = .bool true, fun v _ => v = .bool true, fun v _ => v = .slice (some ⟨b0, off, none⟩) L.length cap, fun v _ => v = .int .i64 (i : Int), fun v _ => v = .pointer (some ⟨b0, off + i * 4, none⟩), fun v _ => v = setV t, fun v _ => v = .int .i64 (n : Int), fun v _ => v = .int .u8 (n : Int), fun v _ => v = .bool (hasB t n), fun v _ => v = .bool (hasB t n)] (fun _ => false) (by kernel_rfl) (by kernel_rfl) ⟨stable_eq _, stable_eq _, stable_eq _, stable_eq _, stable_eq _, stable_eq _, stable_eq _, stable_eq _, stable_eq _, stable_eq _, trivial⟩ (fun _ _ h => by cases h) ?ob ?en
            case ob =>
              refine ⟨?_, ?_, ?_, ?_, ?_, ?_, ?_, ?_, ?_, ?_, trivial⟩ <;> intro A W h
              · exact rs_move rfl rfl (h.frame 5 rfl) (by decide)
              · exact rs_move rfl rfl (h.dep 0 17 rfl rfl) (by decide)
              · exact rs_move (wanted_g rfl (yielded_of (d := 18) rfl (h.dep 1 18 rfl rfl))) rfl (h.frame 0 rfl) (by decide)
              · exact rs_move (wanted_g rfl (yielded_of (d := 18) rfl (h.dep 1 18 rfl rfl))) rfl (h.frame 6 rfl) (by decide)
              · exact rs_idx (sz := 4) Tryz.underlying83 (fun w => by kernel_rfl) (wanted_g rfl (yielded_of (d := 18) rfl (h.dep 1 18 rfl rfl))) rfl (h.dep 2 19 rfl rfl) (h.dep 3 20 rfl rfl) (by omega) (by omega) (by decide)
              · exact rs_loadcells (wanted_g rfl (yielded_of (d := 18) rfl (h.dep 1 18 rfl rfl))) rfl (h.dep 4 21 rfl rfl) (fun k hk => ((G.out.2.2.1.trans (h.below.mono G.out.2.2.1.size)).cell (p := ⟨b0, off + i * 4 + k, none⟩) hb0).trans (HC.out k hk)) (by decide)
              · exact rs_move (wanted_g rfl (yielded_of (d := 18) rfl (h.dep 1 18 rfl rfl))) rfl (h.frame 4 rfl) (by decide)
              · (have e23 : A.eval (.tmp 23) = .int .i64 (n : Int) := h.dep 6 23 rfl rfl; refine rs_pure (wanted_g rfl (yielded_of (d := 18) rfl (h.dep 1 18 rfl rfl))) ?_ (by decide); simp only [execOp, e23]; (simp [go_sem] <;> first | done | omega | (rw [IntKind.wrap_i64]; omega) | (rw [IntKind.wrap_u8]; omega) | (rw [IntKind.wrap_u64]; omega)))
              · exact rs_calln (wanted_g rfl (yielded_of (d := 18) rfl (h.dep 1 18 rfl rfl))) rfl (enters_of Tryz.func70 (by kernel_rfl) rfl) (args2 ⟨(h.dep 5 22 rfl rfl), (h.dep 7 24 rfl rfl)⟩) (ref_Has t HOK.out n (by omega) W) (by decide)
              · exact rs_pick rfl rfl (h.dep 1 18 rfl rfl) (h.dep 8 25 rfl rfl) (by decide)
            case en =>
              intro vals W hbw hv _
              have v0 : vals 0 = .bool true := hv 0 (by omega)
              have v1 : vals 1 = .bool true := hv 1 (by omega)
              have v2 : vals 2 = .slice (some ⟨b0, off, none⟩) L.length cap := hv 2 (by omega)
              have v3 : vals 3 = .int .i64 (i : Int) := hv 3 (by omega)
              have v4 : vals 4 = .pointer (some ⟨b0, off + i * 4, none⟩) := hv 4 (by omega)
              have v5 : vals 5 = setV t := hv 5 (by omega)
              have v6 : vals 6 = .int .i64 (n : Int) := hv 6 (by omega)
              have v7 : vals 7 = .int .u8 (n : Int) := hv 7 (by omega)
              have v8 : vals 8 = .bool (hasB t n) := hv 8 (by omega)
              have v9 : vals 9 = .bool (hasB t n) := hv 9 (by omega)
              simp only [List.take_succ_cons, List.take_zero, List.drop_succ_cons, List.drop_zero, List.drop_nil, List.take_nil, fillAll, Nat.zero_add, Nat.reduceAdd]
              rw [v0, v1, v2, v3, v4, v5, v6, v7, v8, v9]
              clear hv v0 v1 v2 v3 v4 v5 v6 v7 v8 v9
              try simp only [put_lit, List.setIfInBounds_toArray, List.set_cons_succ, List.set_cons_zero]
              have G9 : Hid (SBox W (w.heap.size + 1) 37 S ∧ SBox W w.heap.size 37 emptyS ∧ Below w.heap.size w W ∧ MTo L n S) := ⟨G.out.1.below hbw G.out.1.lt, G.out.2.1.below hbw G.out.2.1.lt, G.out.2.2.1.trans (hbw.mono G.out.2.2.1.size), G.out.2.2.2⟩
              clear G hbw
              go_wp2_with fail
              go_roundw
              case rel => exact ⟨i + 1, by omega, by go_num, by rw [HA'.out], G9.out⟩
              case measure => simp [intOf]; omega
          | false =>
            have HA' := Lib.hid (HA.out.trans (Bool.false_and _)); clear HA
            go_upto_region 9 with fail
            refine wp_region_seq 10 [fun v _ => v = .bool false, fun v _ => v = .bool false, fun v _ => v = undef, fun v _ => v = undef, fun v _ => v = undef, fun v _ => v = undef, fun v _ => v = undef, fun v _ => v = undef, fun v _ => v = undef, fun v _ => v = Value.bool false] (fun _ => false) (by kernel_rfl) (by kernel_rfl) ⟨stable_eq _, stable_eq _, stable_eq _, stable_eq _, stable_eq _, stable_eq _, stable_eq _, stable_eq _, stable_eq _, stable_eq _, trivial⟩ (fun _ _ h => by cases h) ?ob ?en
            case ob =>
              refine ⟨?_, ?_, ?_, ?_, ?_, ?_, ?_, ?_, ?_, ?_, trivial⟩ <;> intro A W h
              · exact rs_move rfl rfl (h.frame 5 rfl) (by decide)
              · exact rs_move rfl rfl (h.dep 0 17 rfl rfl) (by decide)
              · exact rs_skip (not_wanted_g rfl (yielded_of (d := 18) rfl (h.dep 1 18 rfl rfl)) (by decide)) ⟨rfl, fun h => by cases h⟩
              · exact rs_skip (not_wanted_g rfl (yielded_of (d := 18) rfl (h.dep 1 18 rfl rfl)) (by decide)) ⟨rfl, fun h => by cases h⟩
              · exact rs_skip (not_wanted_g rfl (yielded_of (d := 18) rfl (h.dep 1 18 rfl rfl)) (by decide)) ⟨rfl, fun h => by cases h⟩
              · exact rs_skip (not_wanted_g rfl (yielded_of (d := 18) rfl (h.dep 1 18 rfl rfl)) (by decide)) ⟨rfl, fun h => by cases h⟩
              · exact rs_skip (not_wanted_g rfl (yielded_of (d := 18) rfl (h.dep 1 18 rfl rfl)) (by decide)) ⟨rfl, fun h => by cases h⟩
              · exact rs_skip (not_wanted_g rfl (yielded_of (d := 18) rfl (h.dep 1 18 rfl rfl)) (by decide)) ⟨rfl, fun h => by cases h⟩
              · exact rs_skip (not_wanted_g rfl (yielded_of (d := 18) rfl (h.dep 1 18 rfl rfl)) (by decide)) ⟨rfl, fun h => by cases h⟩
              · exact rs_pick rfl rfl (h.dep 1 18 rfl rfl) (rfl) (by decide)
            case en =>
              intro vals W hbw hv _
              have v0 : vals 0 = .bool false := hv 0 (by omega)
              have v1 : vals 1 = .bool false := hv 1 (by omega)
              have v2 : vals 2 = undef := hv 2 (by omega)
              have v3 : vals 3 = undef := hv 3 (by omega)
              have v4 : vals 4 = undef := hv 4 (by omega)
              have v5 : vals 5 = undef := hv 5 (by omega)
              have v6 : vals 6 = undef := hv 6 (by omega)
              have v7 : vals 7 = undef := hv 7 (by omega)
              have v8 : vals 8 = undef := hv 8 (by omega)
              have v9 : vals 9 = Value.bool false := hv 9 (by omega)
              simp only [List.take_succ_cons, List.take_zero, List.drop_succ_cons, List.drop_zero, List.drop_nil, List.take_nil, fillAll, Nat.zero_add, Nat.reduceAdd]
              rw [v0, v1, v2, v3, v4, v5, v6, v7, v8, v9]
              clear hv v0 v1 v2 v3 v4 v5 v6 v7 v8 v9
              try simp only [put_lit, List.setIfInBounds_toArray, List.set_cons_succ, List.set_cons_zero]
              have G9 : Hid (SBox W (w.heap.size + 1) 37 S ∧ SBox W w.heap.size 37 emptyS ∧ Below w.heap.size w W ∧ MTo L n S) := ⟨G.out.1.below hbw G.out.1.lt, G.out.2.1.below hbw G.out.2.1.lt, G.out.2.2.1.trans (hbw.mono G.out.2.2.1.size), G.out.2.2.2⟩
              clear G hbw
              go_wp2_with fail
              go_roundw
              case rel => exact ⟨i + 1, by omega, by go_num, by rw [HA'.out], G9.out⟩
              case measure => simp [intOf]; omega
        · obtain rfl : i = L.length := by omega
          rw [List.take_length]
          cases hb : L.all (fun t => hasB t n) with
          | false =>
            have U := Lib.hid (G.out.2.2.2.miss hb); clear hb
            go_wp2_with fail
            go_roundw
            case rel => exact ⟨n + 1, by omega, by go_num, S, G.out.1, G.out.2.1, G.out.2.2.1, U.out⟩
            case measure => simp [intOf]; omega
          | true =>
            have U := Lib.hid (G.out.2.2.2.hit hb); clear hb
            go_upto_region 11 with fail
            refine wp_region_seq 4 [fun v _ => v = setV S, fun v _ => v = .int .i64 (n : Int), fun v _ => v = .int .u8 (n : Int), fun v _ => v = setV (addS S n)] (fun _ => false) (by kernel_rfl) (by kernel_rfl) ⟨stable_eq _, stable_eq _, stable_eq _, stable_eq _, trivial⟩ (fun _ _ h => by cases h) ?ob ?en
            case ob =>
              refine ⟨?_, ?_, ?_, ?_, trivial⟩ <;> intro A W h
              · exact rs_loadset (s := S) rfl rfl (h.frame 3 rfl) (G.out.1.below h.below G.out.1.lt) (by decide)
              · exact rs_move rfl rfl (h.frame 4 rfl) (by decide)
              · (have e29 : A.eval (.tmp 29) = .int .i64 (n : Int) := h.dep 1 29 rfl rfl; refine rs_pure rfl ?_ (by decide); simp only [execOp, e29]; (simp [go_sem] <;> first | done | omega | (rw [IntKind.wrap_i64]; omega) | (rw [IntKind.wrap_u8]; omega) | (rw [IntKind.wrap_u64]; omega)))
              · exact rs_calln rfl rfl (enters_of Tryz.func75 (by kernel_rfl) rfl) (args2 ⟨(h.dep 0 28 rfl rfl), (h.dep 2 30 rfl rfl)⟩) (ref_with S G.out.2.2.2.1 n (by omega) W) (by decide)
            case en =>
              intro vals W hbw hv _
              have v0 : vals 0 = setV S := hv 0 (by omega)
              have v1 : vals 1 = .int .i64 (n : Int) := hv 1 (by omega)
              have v2 : vals 2 = .int .u8 (n : Int) := hv 2 (by omega)
              have v3 : vals 3 = setV (addS S n) := hv 3 (by omega)
              simp only [List.take_succ_cons, List.take_zero, List.drop_succ_cons, List.drop_zero, List.drop_nil, List.take_nil, fillAll, Nat.zero_add, Nat.reduceAdd]
              rw [v0, v1, v2, v3]
              clear hv v0 v1 v2 v3
              try simp only [put_lit, List.setIfInBounds_toArray, List.set_cons_succ, List.set_cons_zero]
              have s1 := G.out.1.below hbw G.out.1.lt
              have s2 := G.out.2.1.below hbw G.out.2.1.lt
              have s3 := G.out.2.2.1.trans (hbw.mono G.out.2.2.1.size)
              have f0 := s1.frozen 0; have f1 := s1.frozen 1; have f2 := s1.frozen 2; have f3 := s1.frozen 3
              have r0 := s1.cell (k := 0) (by omega); have r1 := s1.cell (k := 1) (by omega); have r2 := s1.cell (k := 2) (by omega); have r3 := s1.cell (k := 3) (by omega)
              have S1 := Lib.hid s1; clear s1
              have S2 := Lib.hid s2; clear s2
              have S3 := Lib.hid s3; clear s3
              clear hbw
              rw [show setV (addS S n) = .agg #[.int .u64 (addS S n 0), .int .u64 (addS S n 1), .int .u64 (addS S n 2), .int .u64 (addS S n 3)] from rfl]
              go_wp2_with fail
              have T1 := Lib.hid (S1.out.set4 (addS S n))
              have T2 := Lib.hid ((((S2.out.other (B' := w.heap.size + 1) (by omega) 0 (.int .u64 (addS S n 0))).other (B' := w.heap.size + 1) (by omega) 1 (.int .u64 (addS S n 1))).other (B' := w.heap.size + 1) (by omega) 2 (.int .u64 (addS S n 2))).other (B' := w.heap.size + 1) (by omega) 3 (.int .u64 (addS S n 3)))
              have T3 := Lib.hid (below_set4 S3.out (B := w.heap.size + 1) (by omega) (.int .u64 (addS S n 0)) (.int .u64 (addS S n 1)) (.int .u64 (addS S n 2)) (.int .u64 (addS S n 3)))
              go_roundw
              case rel => exact ⟨n + 1, by omega, by go_num, addS S n, T1.out, T2.out, T3.out, U.out⟩
              case measure => simp [intOf]; omega
    · obtain rfl : n = 256 := by omega
      obtain ⟨S, s1, s2, s3, hu⟩ := G.out
      have HU := Lib.hid (hu.done HL.out); clear hu G
      have f0 := s2.frozen 0; have f1 := s2.frozen 1; have f2 := s2.frozen 2; have f3 := s2.frozen 3
      have r0 := s2.cell (k := 0) (by omega); have r1 := s2.cell (k := 1) (by omega); have r2 := s2.cell (k := 2) (by omega); have r3 := s2.cell (k := 3) (by omega)
      have c0 := s1.cell (k := 0) (by omega); have c1 := s1.cell (k := 1) (by omega); have c2 := s1.cell (k := 2) (by omega); have c3 := s1.cell (k := 3) (by omega)
      clear s1
      have S2 := Lib.hid s2; clear s2
      have S3 := Lib.hid s3; clear s3
      go_wp2
      have b4 := S2.out.set4 (S)
      have g0 := b4.cell (k := 0) (by omega); have g1 := b4.cell (k := 1) (by omega); have g2 := b4.cell (k := 2) (by omega); have g3 := b4.cell (k := 3) (by omega)
      exact bodyPost_ret (v := setV (S)) (by unfold setV; simp [results, Tryz.results91, go_sem, g0, g1, g2, g3]) rfl ⟨by rw [HU.out], below_set4 S3.out (by omega) _ _ _ _⟩

end Go.Proofs.YtllmgmfihijejaaGreatDoor
/-
  The walks of the words' reference: numbers, texts, sets of names.
-/
namespace Go.Proofs.YtllmgmfihijejaaGreatDoor
open Go.RowKit Go.Shelf
attribute [local go_sem] Oper.semAt_some
set_option linter.unusedSimpArgs false

def optI : Option Nat → Int
  | some n => n
  | none => -1

set_option maxRecDepth 100000 in
set_option maxHeartbeats 1000000 in
theorem ref_hex (c : Nat) (hc : c < 256) (w0 : World) : Calls Tryz.prog 69 #[.int .u8 c] w0 fun e w' => e = .returned (.int .i64 (optI (hexP c))) ∧ Below w0.heap.size w0 w' := by
  go_enter Tryz.func69, Tryz.ntmps69
  go_wp2
  all_goals
    go_ret
    refine ⟨reti ?_, Below.refl _ _⟩
    unfold hexP
    (repeat' split) <;> simp only [optI] <;> omega

set_option maxRecDepth 100000 in
set_option maxHeartbeats 1000000 in
theorem ref_span (lo hi : Nat) (hlo : lo ≤ 255) (hhi : hi ≤ 255) (w0 : World) : Calls Tryz.prog 73 #[.int .u8 lo, .int .u8 hi] w0 fun e w' => e = .returned (setV (rangeS lo (hi + 1 - lo))) ∧ Below w0.heap.size w0 w' := by
  have H := Hold.start w0
  go_enter Tryz.func73, Tryz.ntmps73
  go_wp2_with (first | (first | ((with_reducible refine gT ?_); (refine aS H ?_; clear H; intro w H; (try simp only [nrm, nrl, Value.cells] at H))) | ((with_reducible refine gA ?_); (refine bA H ?_; clear H; intro b w H; (try simp only [nrm, nrl, Value.cells] at H)))) | (go_at_call 92; (with_reducible refine ch (ref_Range lo hi hlo hhi _) H ?_); clear H; intro w H))
  (refine ret_cS Tryz.results73 rfl H (by repeat (first | (with_reducible exact At.zero) | apply At.succ)) (by with_reducible exact row_Set) rfl ?_)
  exact ⟨rfl, H.below⟩

set_option maxRecDepth 100000 in
set_option maxHeartbeats 1000000 in
theorem ref_one (c : Nat) (hc : c < 256) (w0 : World) : Calls Tryz.prog 27 #[.int .u8 c] w0 fun e w' => e = .returned (setV (ofS [(c : Int)])) ∧ Below w0.heap.size w0 w' := by
  have H := Hold.start w0
  go_enter Tryz.func27, Tryz.ntmps27
  go_wp2_with (first | (first | ((with_reducible refine gT ?_); (refine aS H ?_; clear H; intro w H; (try simp only [nrm, nrl, Value.cells] at H))) | ((with_reducible refine gA ?_); (refine bA H ?_; clear H; intro b w H; (try simp only [nrm, nrl, Value.cells] at H)))) | ((with_reducible show @wpList _ _ _ ({ dst := _, op := Op.buildSlice _ _ _, type := _, pos := _, after := _, guard := _ } :: _) _ _); refine own_build (by first | rfl | exact wanted_g rfl (yielded_of rfl (by first | rfl | (simp only [put_lit, put_no, List.setIfInBounds_toArray, List.set_cons_succ, List.set_cons_zero, ev_tmp, ev_const, ev_glob, ev_func, List.getD_cons_succ, List.getD_cons_zero]; rfl)))) _ _ _ rfl H (#[.int .u8 c]) 5 (by intro W; simp only [List.map_toArray, List.map_cons, List.map_nil]; (try simp only [put_lit, put_no, List.setIfInBounds_toArray, List.set_cons_succ, List.set_cons_zero, ev_tmp, ev_const, ev_glob, ev_func, List.getD_cons_succ, List.getD_cons_zero]); (try unfold setV); simp [go_sem] <;> rfl) ?_; clear H; intro b w H; (try simp only [nrm, nrl, Value.cells] at H)) | (go_at_call 51; (with_reducible refine ch (ref_Of _ [(c : Int)] (by simp; omega) _ (H.rdn (cs := [.int .u8 c]) (by repeat (first | (with_reducible exact At.zero) | apply At.succ)) (by simp) (by simp [maxLen]))) H ?_); clear H; intro w H))
  (refine ret_cS Tryz.results27 rfl H (by repeat (first | (with_reducible exact At.zero) | apply At.succ)) (by with_reducible exact row_Set) rfl ?_)
  exact ⟨rfl, H.below⟩

theorem sp_0_127 (w0 : World) : Calls Tryz.prog 73 #[.int .u8 0, .int .u8 127] w0 fun e w' => e = .returned (setV (rangeS 0 128)) ∧ Below w0.heap.size w0 w' := ref_span 0 127 (by omega) (by omega) w0
theorem sp_0_31 (w0 : World) : Calls Tryz.prog 73 #[.int .u8 0, .int .u8 31] w0 fun e w' => e = .returned (setV (rangeS 0 32)) ∧ Below w0.heap.size w0 w' := ref_span 0 31 (by omega) (by omega) w0
theorem sp_33_126 (w0 : World) : Calls Tryz.prog 73 #[.int .u8 33, .int .u8 126] w0 fun e w' => e = .returned (setV graphS) ∧ Below w0.heap.size w0 w' := ref_span 33 126 (by omega) (by omega) w0
theorem sp_97_122 (w0 : World) : Calls Tryz.prog 73 #[.int .u8 97, .int .u8 122] w0 fun e w' => e = .returned (setV lowerS) ∧ Below w0.heap.size w0 w' := ref_span 97 122 (by omega) (by omega) w0
theorem sp_32_126 (w0 : World) : Calls Tryz.prog 73 #[.int .u8 32, .int .u8 126] w0 fun e w' => e = .returned (setV (rangeS 32 95)) ∧ Below w0.heap.size w0 w' := ref_span 32 126 (by omega) (by omega) w0
theorem sp_9_13 (w0 : World) : Calls Tryz.prog 73 #[.int .u8 9, .int .u8 13] w0 fun e w' => e = .returned (setV (rangeS 9 5)) ∧ Below w0.heap.size w0 w' := ref_span 9 13 (by omega) (by omega) w0
theorem sp_65_90 (w0 : World) : Calls Tryz.prog 73 #[.int .u8 65, .int .u8 90] w0 fun e w' => e = .returned (setV upperS) ∧ Below w0.heap.size w0 w' := ref_span 65 90 (by omega) (by omega) w0
theorem sp_97_102 (w0 : World) : Calls Tryz.prog 73 #[.int .u8 97, .int .u8 102] w0 fun e w' => e = .returned (setV (rangeS 97 6)) ∧ Below w0.heap.size w0 w' := ref_span 97 102 (by omega) (by omega) w0
theorem sp_65_70 (w0 : World) : Calls Tryz.prog 73 #[.int .u8 65, .int .u8 70] w0 fun e w' => e = .returned (setV (rangeS 65 6)) ∧ Below w0.heap.size w0 w' := ref_span 65 70 (by omega) (by omega) w0
theorem sp_48_57 (w0 : World) : Calls Tryz.prog 73 #[.int .u8 48, .int .u8 57] w0 fun e w' => e = .returned (setV digitS) ∧ Below w0.heap.size w0 w' := ref_span 48 57 (by omega) (by omega) w0
theorem on_127 (w0 : World) : Calls Tryz.prog 27 #[.int .u8 127] w0 fun e w' => e = .returned (setV (ofS [127])) ∧ Below w0.heap.size w0 w' := ref_one 127 (by omega) w0
theorem on_32 (w0 : World) : Calls Tryz.prog 27 #[.int .u8 32] w0 fun e w' => e = .returned (setV (ofS [32])) ∧ Below w0.heap.size w0 w' := ref_one 32 (by omega) w0
theorem on_95 (w0 : World) : Calls Tryz.prog 27 #[.int .u8 95] w0 fun e w' => e = .returned (setV (ofS [95])) ∧ Below w0.heap.size w0 w' := ref_one 95 (by omega) w0

set_option maxRecDepth 100000 in
set_option maxHeartbeats 1000000 in
theorem ref_join (v : Value) (L : List (Nat → Nat)) (hL : ∀ t ∈ L, SetOk t) (w0 : World) (h : RdS w0 w0.heap.size v L) : Calls Tryz.prog 49 #[v] w0 fun e w' => e = .returned (setV (unionS L)) ∧ Below w0.heap.size w0 w' := by
  have H := Hold.start w0
  go_enter Tryz.func49, Tryz.ntmps49
  go_wp2_with (first | (first | ((with_reducible refine gT ?_); (refine aS H ?_; clear H; intro w H; (try simp only [nrm, nrl, Value.cells] at H))) | ((with_reducible refine gA ?_); (refine bA H ?_; clear H; intro b w H; (try simp only [nrm, nrl, Value.cells] at H)))) | (go_at_call 74; (with_reducible refine ch (ref_Union _ L hL _ ((h.below H.below).up H.below.size)) H ?_); clear H; intro w H))
  (refine ret_cS Tryz.results49 rfl H (by repeat (first | (with_reducible exact At.zero) | apply At.succ)) (by with_reducible exact row_Set) rfl ?_)
  exact ⟨rfl, H.below⟩

set_option maxRecDepth 100000 in
set_option maxHeartbeats 1000000 in
theorem ref_digits (w0 : World) : Calls Tryz.prog 67 #[] w0 fun e w' => e = .returned (setV digitS) ∧ Below w0.heap.size w0 w' := by
  have H := Hold.start w0
  go_enter Tryz.func67, Tryz.ntmps67
  go_wp2_with (first | (first | ((with_reducible refine gT ?_); (refine aS H ?_; clear H; intro w H; (try simp only [nrm, nrl, Value.cells] at H))) | ((with_reducible refine gA ?_); (refine bA H ?_; clear H; intro b w H; (try simp only [nrm, nrl, Value.cells] at H)))) | (go_at_call 73; (with_reducible refine ch (sp_48_57 _) H ?_); clear H; intro w H))
  (refine ret_cS Tryz.results67 rfl H (by repeat (first | (with_reducible exact At.zero) | apply At.succ)) (by with_reducible exact row_Set) rfl ?_)
  exact ⟨rfl, H.below⟩

def lettersS : Nat → Nat := unionS [lowerS, upperS]
theorem lettersS_ok : SetOk lettersS := unionS_ok (ok2 lowerS_ok upperS_ok)

set_option maxRecDepth 100000 in
set_option maxHeartbeats 1000000 in
theorem ref_letters (w0 : World) : Calls Tryz.prog 90 #[] w0 fun e w' => e = .returned (setV lettersS) ∧ Below w0.heap.size w0 w' := by
  have H := Hold.start w0
  go_enter Tryz.func90, Tryz.ntmps90
  go_wp2_with (first | (first | ((with_reducible refine gT ?_); (refine aS H ?_; clear H; intro w H; (try simp only [nrm, nrl, Value.cells] at H))) | ((with_reducible refine gA ?_); (refine bA H ?_; clear H; intro b w H; (try simp only [nrm, nrl, Value.cells] at H)))) | ((with_reducible show @wpList _ _ _ ({ dst := _, op := Op.buildSlice _ _ _, type := _, pos := _, after := _, guard := _ } :: _) _ _); refine own_build (by first | rfl | exact wanted_g rfl (yielded_of rfl (by first | rfl | (simp only [put_lit, put_no, List.setIfInBounds_toArray, List.set_cons_succ, List.set_cons_zero, ev_tmp, ev_const, ev_glob, ev_func, List.getD_cons_succ, List.getD_cons_zero]; rfl)))) _ _ _ rfl H (rowC [lowerS, upperS]).toArray 37 (by intro W; simp only [List.map_toArray, List.map_cons, List.map_nil]; (try simp only [put_lit, put_no, List.setIfInBounds_toArray, List.set_cons_succ, List.set_cons_zero, ev_tmp, ev_const, ev_glob, ev_func, List.getD_cons_succ, List.getD_cons_zero]); (with_reducible exact run_sets2 (lowerS) (upperS) W)) ?_; clear H; intro b w H; (try simp only [nrm, nrl, Value.cells] at H)) | (go_at_call 49; (with_reducible refine ch (ref_join _ [lowerS, upperS] (ok2 lowerS_ok upperS_ok) _ (H.rdsn (L := [lowerS, upperS]) (by repeat (first | (with_reducible exact At.zero) | apply At.succ)) (by simp) (by simp [maxLen]))) H ?_); clear H; intro w H) | (go_at_call 73; (with_reducible refine ch (sp_97_122 _) H ?_); clear H; intro w H) | (go_at_call 73; (with_reducible refine ch (sp_65_90 _) H ?_); clear H; intro w H))
  (refine ret_cS Tryz.results90 rfl H (by repeat (first | (with_reducible exact At.zero) | apply At.succ)) (by with_reducible exact row_Set) rfl ?_)
  exact ⟨rfl, H.below⟩

theorem setV_eq4 {s t : Nat → Nat} (h0 : s 0 = t 0) (h1 : s 1 = t 1) (h2 : s 2 = t 2) (h3 : s 3 = t 3) : setV s = setV t := by unfold setV; rw [h0, h1, h2, h3]
theorem alnum_eq : setV (unionS [digitS, lettersS]) = setV alnumS := setV_eq4 (by decide +kernel) (by decide +kernel) (by decide +kernel) (by decide +kernel)
theorem word_eq : setV (unionS [alnumS, ofS [95]]) = setV wordS := rfl

set_option maxRecDepth 100000 in
set_option maxHeartbeats 4000000 in
theorem ref_at (L t : Str) (i : Nat) (hL : L.length ≤ 2000) (ht : t ≠ []) (htl : t.length ≤ 2000) (hi : i ≤ 4000) (w0 : World) :
    Calls Tryz.prog 23 #[.string ⟨L.toArray⟩, .int .i64 i, .string ⟨t.toArray⟩] w0 fun e w' => e = .returned (.bool (atP L i t)) ∧ Below w0.heap.size w0 w' := by
  have H := Hold.start w0
  have HT := Lib.hid ht; clear ht
  by_cases h : i + t.length ≤ L.length
  · have hd : decide ((i : Int) + (t.length : Int) ≤ (L.length : Int)) = true := by simp; omega
    have hw : IntKind.i64.wrap ((i : Int) + (t.length : Int)) = (i : Int) + (t.length : Int) := by rw [IntKind.wrap_i64]; omega
    go_enter Tryz.func23, Tryz.ntmps23
    go_wp2_with (first | (first | ((with_reducible refine gC ?_); refine aC ?_) | ((with_reducible refine gE ?_); refine aE ?_)))
    go_ret
    exact ⟨retb (at_in h), Below.refl _ _⟩
  · have hd : decide ((i : Int) + (t.length : Int) ≤ (L.length : Int)) = false := by simp; omega
    have hw : IntKind.i64.wrap ((i : Int) + (t.length : Int)) = (i : Int) + (t.length : Int) := by rw [IntKind.wrap_i64]; omega
    go_enter Tryz.func23, Tryz.ntmps23
    go_wp2_with (first | fail)
    go_ret
    exact ⟨retb (at_out (by omega) HT.out).symm, Below.refl _ _⟩

set_option maxRecDepth 100000 in
set_option maxHeartbeats 4000000 in
theorem ref_find (L t : Str) (i : Nat) (hL : L.length ≤ 2000) (ht : t ≠ []) (htl : t.length ≤ 2000) (hi : i ≤ L.length) (w0 : World) :
    Calls Tryz.prog 71 #[.string ⟨L.toArray⟩, .int .i64 i, .string ⟨t.toArray⟩] w0 fun e w' => e = .returned (.int .i64 (optI (fnd L i t))) ∧ Below w0.heap.size w0 w' := by
  have H := Hold.start w0
  have HT := Lib.hid ht; clear ht
  have htp : 0 < t.length := List.length_pos_iff.2 HT.out
  go_enter Tryz.func71, Tryz.ntmps71
  go_wp2_with (first | fail)
  go_loopw [7] (fun k wr => ∃ n : Nat, n ≤ L.length ∧ k = .int .i64 n ∧ Hid (fnd L i t = fnd L n t) ∧ Hold w0 wr []) (fun k _ => L.length + 1 - (intOf k).toNat)
  case atStart => exact ⟨i, hi, rfl, Lib.hid rfl, H⟩
  case round =>
    clear H
    obtain ⟨n, hn, rfl, HF, H⟩ := hrel
    have hw : IntKind.i64.wrap ((n : Int) + (t.length : Int)) = (n : Int) + (t.length : Int) := by rw [IntKind.wrap_i64]; omega
    by_cases h : n + t.length ≤ L.length
    · have hd : decide ((n : Int) + (t.length : Int) ≤ (L.length : Int)) = true := by simp; omega
      cases ha : atP L n t with
      | true =>
        have hc := fun w => ref_at L t n hL HT.out htl (by omega) w
        rw [ha] at hc
        have HA := Lib.hid ha; clear ha
        go_wp2_with (first | fail | (go_at_call 23; (with_reducible refine ch (hc _) H ?_); clear H; intro w H))
        go_ret
        exact ⟨reti (by rw [HF.out, fnd_hit HA.out]; rfl), H.below⟩
      | false =>
        have hc := fun w => ref_at L t n hL HT.out htl (by omega) w
        rw [ha] at hc
        have HA := Lib.hid ha; clear ha
        go_wp2_with (first | fail | (go_at_call 23; (with_reducible refine ch (hc _) H ?_); clear H; intro w H))
        go_roundw
        case rel => exact ⟨n + 1, by omega, by go_num, Lib.hid (by rw [HF.out, fnd_miss HA.out (by omega)]), H⟩
        case measure => simp [intOf]; omega
    · have hd : decide ((n : Int) + (t.length : Int) ≤ (L.length : Int)) = false := by simp; omega
      go_wp2_with (first | fail)
      go_ret
      exact ⟨reti (by rw [HF.out, fnd_end (by omega) HT.out]; rfl), H.below⟩

def setO (o : Option (Nat → Nat)) : Value := .tuple #[setV (o.getD emptyS), .bool o.isSome]
theorem setO_some {o : Option (Nat → Nat)} {s : Nat → Nat} (h : o = some s) : Value.tuple #[setV s, .bool true] = setO o := by rw [h]; rfl
theorem setO_none {o : Option (Nat → Nat)} (h : o = none) : Value.tuple #[setV emptyS, .bool false] = setO o := by rw [h]; rfl


theorem NTo_start (s : Nat → Nat) : SetOk emptyS ∧ ∀ c, c < 256 → hasB emptyS c = (decide (c < 0) && !hasB s c) := ⟨emptyS_ok, fun c _ => by simp [has_empty]⟩

set_option maxRecDepth 100000 in
set_option maxHeartbeats 4000000 in
theorem ref_Not (s : Nat → Nat) (hs : SetOk s) (w0 : World) : Calls Tryz.prog 68 #[setV s] w0 fun e w' => e = .returned (setV (notS s)) ∧ Below w0.heap.size w0 w' := by
  have H := Hold.start w0
  go_enter Tryz.func68, Tryz.ntmps68
  go_wp2_with (first | ((first | ((with_reducible refine kgA 1 ?_); refine kA 1 H ?_) | ((with_reducible refine kgX 1 ?_); (first | refine kS 1 H ?_ | refine kB 1 H ?_))); clear H; intro b1 w H; (try simp only [nrm, nrl, Value.cells] at H)) | ((first | ((with_reducible refine kgA 2 ?_); refine kA 2 H ?_) | ((with_reducible refine kgX 2 ?_); (first | refine kS 2 H ?_ | refine kB 2 H ?_))); clear H; intro b2 w H; (try simp only [nrm, nrl, Value.cells] at H)) | ((first | ((with_reducible refine kgA 3 ?_); refine kA 3 H ?_) | ((with_reducible refine kgX 3 ?_); (first | refine kS 3 H ?_ | refine kB 3 H ?_))); clear H; intro b3 w H; (try simp only [nrm, nrl, Value.cells] at H)) | fail)
  go_loopw [4] (fun i wr => ∃ (k : Nat) (S : Nat → Nat), k ≤ 256 ∧ i = .int .i64 k ∧ Hid (SetOk S ∧ ∀ c, c < 256 → hasB S c = (decide (c < k) && !hasB s c)) ∧ Hold w0 wr [.blk b1 (setC s) 37, .blk b2 (setC emptyS) 37, .blk b3 (setC S) 37]) (fun i _ => 256 - (intOf i).toNat)
  case atStart => exact ⟨0, emptyS, by omega, rfl, Lib.hid (NTo_start s), H⟩
  case round =>
    clear H
    obtain ⟨k, S, hk, rfl, G, H⟩ := hrel
    by_cases hlt : k < 256
    · cases hb : hasB s k with
      | true =>
        have hc := fun w => ref_Has s hs k hlt w
        rw [hb] at hc
        have HB := Lib.hid hb; clear hb
        go_wp2_with (first | ((with_reducible refine gL ?_); refine aL H ?_) | (go_at_call 70; (with_reducible refine ch (hc _) H ?_); clear H; intro w H))
        go_roundw
        case rel => exact ⟨k + 1, S, by omega, by go_num, Lib.hid ⟨G.out.1, fun c hc => by
          rw [G.out.2 c hc]
          by_cases e : c = k
          · subst e; simp [HB.out]
          · simp [show c < k + 1 ↔ c < k from by omega]⟩, H⟩
        case measure => simp [intOf]; omega
      | false =>
        have hc := fun w => ref_Has s hs k hlt w
        rw [hb] at hc
        have HB := Lib.hid hb; clear hb
        go_wp2_with (first | (first | ((with_reducible refine gT ?_); (refine aS H ?_; clear H; intro w H; (try simp only [nrm, nrl, Value.cells] at H))) | ((with_reducible refine gL ?_); refine aL H ?_)) | (go_at_call 70; (with_reducible refine ch (hc _) H ?_); clear H; intro w H) | (go_at_call 75; (with_reducible refine ch (ref_with S G.out.1 k hlt _) H ?_); clear H; intro w H))
        go_roundw
        case rel => exact ⟨k + 1, addS S k, by omega, by go_num, Lib.hid ⟨addS_ok G.out.1 k, fun c hc => by
          rw [has_add, G.out.2 c hc]
          by_cases e : c = k
          · subst e; simp [HB.out]
          · simp [e, show c < k + 1 ↔ c < k from by omega]⟩, H⟩
        case measure => simp [intOf]; omega
    · obtain rfl : k = 256 := by omega
      go_wp2_with (first | (first | ((with_reducible refine gT ?_); (refine aS H ?_; clear H; intro w H; (try simp only [nrm, nrl, Value.cells] at H))) | ((with_reducible refine gL ?_); refine aL H ?_)))
      (refine ret_cS Tryz.results68 rfl H (by repeat (first | (with_reducible exact At.zero) | apply At.succ)) (by with_reducible exact row_Set) rfl ?_)
      exact ⟨congrArg Ending.returned (setV_ext G.out.1 (notS_ok s) fun c hc => by rw [G.out.2 c hc, has_not hs hc]; simp [hc]), H.below⟩

theorem jn_alnum (v : Value) (w0 : World) (h : RdS w0 w0.heap.size v [digitS, lettersS]) : Calls Tryz.prog 49 #[v] w0 fun e w' => e = .returned (setV alnumS) ∧ Below w0.heap.size w0 w' :=
  alnum_eq ▸ ref_join v [digitS, lettersS] (ok2 digitS_ok lettersS_ok) w0 h

set_option maxRecDepth 100000 in
set_option maxHeartbeats 2000000 in
theorem ref_named (L : Str) (w0 : World) : Calls Tryz.prog 66 #[.string ⟨L.toArray⟩] w0 fun e w' => e = .returned (setO (namedP L)) ∧ Below w0.heap.size w0 w' := by
  have H := Hold.start w0
  go_enter Tryz.func66, Tryz.ntmps66
  go_wp2_with (first | ((first | ((with_reducible refine kgA 4 ?_); refine kA 4 H ?_) | ((with_reducible refine kgX 4 ?_); (first | refine kS 4 H ?_ | refine kB 4 H ?_))); clear H; intro b4 w H; (try simp only [nrm, nrl, Value.cells] at H)) | (first | ((with_reducible refine gT ?_); (refine aS H ?_; clear H; intro w H; (try simp only [nrm, nrl, Value.cells] at H))) | ((with_reducible refine gL ?_); refine aL H ?_) | ((with_reducible refine gA ?_); (refine bA H ?_; clear H; intro b w H; (try simp only [nrm, nrl, Value.cells] at H))) | ((with_reducible refine gZ ?_); refine aZ ?_) | ((with_reducible refine gE ?_); refine aE ?_)) | ((with_reducible show @wpList _ _ _ ({ dst := _, op := Op.buildSlice _ _ _, type := _, pos := _, after := _, guard := _ } :: _) _ _); refine own_build (by first | rfl | exact wanted_g rfl (yielded_of rfl (by first | rfl | (simp only [put_lit, put_no, List.setIfInBounds_toArray, List.set_cons_succ, List.set_cons_zero, ev_tmp, ev_const, ev_glob, ev_func, List.getD_cons_succ, List.getD_cons_zero]; rfl)))) _ _ _ rfl H (rowC [digitS, lettersS]).toArray 37 (by intro W; simp only [List.map_toArray, List.map_cons, List.map_nil]; (try simp only [put_lit, put_no, List.setIfInBounds_toArray, List.set_cons_succ, List.set_cons_zero, ev_tmp, ev_const, ev_glob, ev_func, List.getD_cons_succ, List.getD_cons_zero]); (with_reducible exact run_sets2 (digitS) (lettersS) W)) ?_; clear H; intro b w H; (try simp only [nrm, nrl, Value.cells] at H)) | ((with_reducible show @wpList _ _ _ ({ dst := _, op := Op.buildSlice _ _ _, type := _, pos := _, after := _, guard := _ } :: _) _ _); refine own_build (by first | rfl | exact wanted_g rfl (yielded_of rfl (by first | rfl | (simp only [put_lit, put_no, List.setIfInBounds_toArray, List.set_cons_succ, List.set_cons_zero, ev_tmp, ev_const, ev_glob, ev_func, List.getD_cons_succ, List.getD_cons_zero]; rfl)))) _ _ _ rfl H (rowC [rangeS 0 32, ofS [127]]).toArray 37 (by intro W; simp only [List.map_toArray, List.map_cons, List.map_nil]; (try simp only [put_lit, put_no, List.setIfInBounds_toArray, List.set_cons_succ, List.set_cons_zero, ev_tmp, ev_const, ev_glob, ev_func, List.getD_cons_succ, List.getD_cons_zero]); (with_reducible exact run_sets2 (rangeS 0 32) (ofS [127]) W)) ?_; clear H; intro b w H; (try simp only [nrm, nrl, Value.cells] at H)) | ((with_reducible show @wpList _ _ _ ({ dst := _, op := Op.buildSlice _ _ _, type := _, pos := _, after := _, guard := _ } :: _) _ _); refine own_build (by first | rfl | exact wanted_g rfl (yielded_of rfl (by first | rfl | (simp only [put_lit, put_no, List.setIfInBounds_toArray, List.set_cons_succ, List.set_cons_zero, ev_tmp, ev_const, ev_glob, ev_func, List.getD_cons_succ, List.getD_cons_zero]; rfl)))) _ _ _ rfl H (rowC [rangeS 9 5, ofS [32]]).toArray 37 (by intro W; simp only [List.map_toArray, List.map_cons, List.map_nil]; (try simp only [put_lit, put_no, List.setIfInBounds_toArray, List.set_cons_succ, List.set_cons_zero, ev_tmp, ev_const, ev_glob, ev_func, List.getD_cons_succ, List.getD_cons_zero]); (with_reducible exact run_sets2 (rangeS 9 5) (ofS [32]) W)) ?_; clear H; intro b w H; (try simp only [nrm, nrl, Value.cells] at H)) | ((with_reducible show @wpList _ _ _ ({ dst := _, op := Op.buildSlice _ _ _, type := _, pos := _, after := _, guard := _ } :: _) _ _); refine own_build (by first | rfl | exact wanted_g rfl (yielded_of rfl (by first | rfl | (simp only [put_lit, put_no, List.setIfInBounds_toArray, List.set_cons_succ, List.set_cons_zero, ev_tmp, ev_const, ev_glob, ev_func, List.getD_cons_succ, List.getD_cons_zero]; rfl)))) _ _ _ rfl H (rowC [alnumS, ofS [95]]).toArray 37 (by intro W; simp only [List.map_toArray, List.map_cons, List.map_nil]; (try simp only [put_lit, put_no, List.setIfInBounds_toArray, List.set_cons_succ, List.set_cons_zero, ev_tmp, ev_const, ev_glob, ev_func, List.getD_cons_succ, List.getD_cons_zero]); (with_reducible exact run_sets2 (alnumS) (ofS [95]) W)) ?_; clear H; intro b w H; (try simp only [nrm, nrl, Value.cells] at H)) | ((with_reducible show @wpList _ _ _ ({ dst := _, op := Op.buildSlice _ _ _, type := _, pos := _, after := _, guard := _ } :: _) _ _); refine own_build (by first | rfl | exact wanted_g rfl (yielded_of rfl (by first | rfl | (simp only [put_lit, put_no, List.setIfInBounds_toArray, List.set_cons_succ, List.set_cons_zero, ev_tmp, ev_const, ev_glob, ev_func, List.getD_cons_succ, List.getD_cons_zero]; rfl)))) _ _ _ rfl H (rowC [digitS, rangeS 97 6, rangeS 65 6]).toArray 37 (by intro W; simp only [List.map_toArray, List.map_cons, List.map_nil]; (try simp only [put_lit, put_no, List.setIfInBounds_toArray, List.set_cons_succ, List.set_cons_zero, ev_tmp, ev_const, ev_glob, ev_func, List.getD_cons_succ, List.getD_cons_zero]); (with_reducible exact run_sets3 (digitS) (rangeS 97 6) (rangeS 65 6) W)) ?_; clear H; intro b w H; (try simp only [nrm, nrl, Value.cells] at H)) | ((with_reducible show @wpList _ _ _ ({ dst := _, op := Op.buildSlice _ _ _, type := _, pos := _, after := _, guard := _ } :: _) _ _); refine own_build (by first | rfl | exact wanted_g rfl (yielded_of rfl (by first | rfl | (simp only [put_lit, put_no, List.setIfInBounds_toArray, List.set_cons_succ, List.set_cons_zero, ev_tmp, ev_const, ev_glob, ev_func, List.getD_cons_succ, List.getD_cons_zero]; rfl)))) _ _ _ rfl H (rowC [graphS, notS alnumS]).toArray 37 (by intro W; simp only [List.map_toArray, List.map_cons, List.map_nil]; (try simp only [put_lit, put_no, List.setIfInBounds_toArray, List.set_cons_succ, List.set_cons_zero, ev_tmp, ev_const, ev_glob, ev_func, List.getD_cons_succ, List.getD_cons_zero]); (with_reducible exact run_sets2 (graphS) (notS alnumS) W)) ?_; clear H; intro b w H; (try simp only [nrm, nrl, Value.cells] at H)) | ((with_reducible show @wpList _ _ _ ({ dst := _, op := Op.buildSlice _ _ _, type := _, pos := _, after := _, guard := _ } :: _) _ _); refine own_build (by first | rfl | exact wanted_g rfl (yielded_of rfl (by first | rfl | (simp only [put_lit, put_no, List.setIfInBounds_toArray, List.set_cons_succ, List.set_cons_zero, ev_tmp, ev_const, ev_glob, ev_func, List.getD_cons_succ, List.getD_cons_zero]; rfl)))) _ _ _ rfl H (#[.int .u8 9, .int .u8 32]) 5 (by intro W; simp only [List.map_toArray, List.map_cons, List.map_nil]; (try simp only [put_lit, put_no, List.setIfInBounds_toArray, List.set_cons_succ, List.set_cons_zero, ev_tmp, ev_const, ev_glob, ev_func, List.getD_cons_succ, List.getD_cons_zero]); (try unfold setV); simp [go_sem] <;> rfl) ?_; clear H; intro b w H; (try simp only [nrm, nrl, Value.cells] at H)) | (go_at_call 51; (with_reducible refine ch (ref_Of _ [9, 32] (by simp) _ (H.rdn (cs := [.int .u8 9, .int .u8 32]) (by repeat (first | (with_reducible exact At.zero) | apply At.succ)) (by simp) (by simp [maxLen]))) H ?_); clear H; intro w H) | (go_at_call 67; (with_reducible refine ch (ref_digits _) H ?_); clear H; intro w H) | (go_at_call 90; (with_reducible refine ch (ref_letters _) H ?_); clear H; intro w H) | (go_at_call 49; (with_reducible refine ch (jn_alnum _ _ (H.rdsn (L := [digitS, lettersS]) (by repeat (first | (with_reducible exact At.zero) | apply At.succ)) (by simp) (by simp [maxLen]))) H ?_); clear H; intro w H) | (go_at_call 49; (with_reducible refine ch (ref_join _ [rangeS 0 32, ofS [127]] (ok2 (rangeS_ok _ _) (ofS_ok _)) _ (H.rdsn (L := [rangeS 0 32, ofS [127]]) (by repeat (first | (with_reducible exact At.zero) | apply At.succ)) (by simp) (by simp [maxLen]))) H ?_); clear H; intro w H) | (go_at_call 49; (with_reducible refine ch (ref_join _ [rangeS 9 5, ofS [32]] (ok2 (rangeS_ok _ _) (ofS_ok _)) _ (H.rdsn (L := [rangeS 9 5, ofS [32]]) (by repeat (first | (with_reducible exact At.zero) | apply At.succ)) (by simp) (by simp [maxLen]))) H ?_); clear H; intro w H) | (go_at_call 49; (with_reducible refine ch (ref_join _ [alnumS, ofS [95]] (ok2 alnumS_ok (ofS_ok _)) _ (H.rdsn (L := [alnumS, ofS [95]]) (by repeat (first | (with_reducible exact At.zero) | apply At.succ)) (by simp) (by simp [maxLen]))) H ?_); clear H; intro w H) | (go_at_call 49; (with_reducible refine ch (ref_join _ [digitS, rangeS 97 6, rangeS 65 6] (ok3 digitS_ok (rangeS_ok _ _) (rangeS_ok _ _)) _ (H.rdsn (L := [digitS, rangeS 97 6, rangeS 65 6]) (by repeat (first | (with_reducible exact At.zero) | apply At.succ)) (by simp) (by simp [maxLen]))) H ?_); clear H; intro w H) | (go_at_call 68; (with_reducible refine ch (ref_Not alnumS alnumS_ok _) H ?_); clear H; intro w H) | (go_at_call 91; (with_reducible refine ch (ref_Meet _ [graphS, notS alnumS] (ok2 graphS_ok (notS_ok _)) _ (H.rdsn (L := [graphS, notS alnumS]) (by repeat (first | (with_reducible exact At.zero) | apply At.succ)) (by simp) (by simp [maxLen]))) H ?_); clear H; intro w H) | (go_at_call 73; (with_reducible refine ch (sp_0_127 _) H ?_); clear H; intro w H) | (go_at_call 73; (with_reducible refine ch (sp_0_31 _) H ?_); clear H; intro w H) | (go_at_call 73; (with_reducible refine ch (sp_33_126 _) H ?_); clear H; intro w H) | (go_at_call 73; (with_reducible refine ch (sp_97_122 _) H ?_); clear H; intro w H) | (go_at_call 73; (with_reducible refine ch (sp_32_126 _) H ?_); clear H; intro w H) | (go_at_call 73; (with_reducible refine ch (sp_9_13 _) H ?_); clear H; intro w H) | (go_at_call 73; (with_reducible refine ch (sp_65_90 _) H ?_); clear H; intro w H) | (go_at_call 73; (with_reducible refine ch (sp_97_102 _) H ?_); clear H; intro w H) | (go_at_call 73; (with_reducible refine ch (sp_65_70 _) H ?_); clear H; intro w H) | (go_at_call 27; (with_reducible refine ch (on_127 _) H ?_); clear H; intro w H) | (go_at_call 27; (with_reducible refine ch (on_32 _) H ?_); clear H; intro w H) | (go_at_call 27; (with_reducible refine ch (on_95 _) H ?_); clear H; intro w H))
  any_goals
    (refine ret_ctS Tryz.results66 rfl (by first | rfl | (simp only [put_lit, put_no, List.setIfInBounds_toArray, List.set_cons_succ, List.set_cons_zero]; rfl)) H (by repeat (first | (with_reducible exact At.zero) | apply At.succ)) (by with_reducible exact row_Set) rfl ?_)
    (first | exact ⟨congrArg _ (setO_none (by simp [namedP, namesL, List.find?_cons, *])), H.below⟩ | exact ⟨congrArg _ (setO_some (by simp [namedP, namesL, List.find?_cons, lettersS, *])), H.below⟩)
  · skip
    refine wp_region_spec 5 [fun v _ => v = setV graphS, fun v _ => v = setV alnumS, fun v _ => v = setV (notS alnumS), fun v w => RdS w w.heap.size v [graphS, notS alnumS], fun v _ => v = setV (meetS [graphS, notS alnumS])] (fun _ => false) (by kernel_rfl) (by kernel_rfl) (by kernel_rfl) ⟨stable_eq _, stable_eq _, stable_eq _, stable_rds _, stable_eq _, trivial⟩ (fun _ _ h => by cases h) ?ob ?en
    case ob =>
      refine ⟨?_, ?_, ?_, ?_, ?_, trivial⟩ <;> intro A W h
      · exact rs_calln rfl rfl (enters_of Tryz.func73 (by kernel_rfl) rfl) (args2 ⟨rfl, rfl⟩) (sp_33_126 W) (by decide)
      · exact rs_loadset (s := alnumS) rfl rfl (h.frame 4 rfl) ((H.call h.below).blk (by repeat (first | (with_reducible exact At.zero) | apply At.succ))).2 (by decide)
      · exact rs_calln rfl rfl (enters_of Tryz.func68 (by kernel_rfl) rfl) (args1 (h.dep 1 44 rfl rfl)) (ref_Not alnumS alnumS_ok W) (by decide)
      · exact rs_build2 rfl rfl (h.dep 0 43 rfl rfl) (h.dep 2 45 rfl rfl) (by decide)
      · exact rs_calln rfl rfl (enters_of Tryz.func91 (by kernel_rfl) rfl) (args1 rfl) (ref_Meet _ [graphS, notS alnumS] (ok2 graphS_ok (notS_ok _)) W (h.dep 3 46 rfl rfl)) (by decide)
    case en =>
      intro vals W hbw hv _
      have v0 : vals 0 = setV graphS := hv 0 (by omega)
      have v1 : vals 1 = setV alnumS := hv 1 (by omega)
      have v2 : vals 2 = setV (notS alnumS) := hv 2 (by omega)
      have v4 : vals 4 = setV (meetS [graphS, notS alnumS]) := hv 4 (by omega)
      have x3 := hv 3 (by omega); simp only [lookS] at x3
      simp only [List.take_succ_cons, List.take_zero, List.drop_succ_cons, List.drop_zero, List.drop_nil, List.take_nil, fillAll, Nat.zero_add, Nat.reduceAdd]
      rw [v0, v1, v2, v4]
      clear hv v0 v1 v2 v4
      try simp only [put_lit, List.setIfInBounds_toArray, List.set_cons_succ, List.set_cons_zero]
      replace H := H.call hbw; clear hbw
      go_wp2_with (first | ((with_reducible refine gT ?_); (refine aS H ?_; clear H; intro w H; (try simp only [nrm, nrl, Value.cells] at H))))
      (refine ret_ctS Tryz.results66 rfl (by first | rfl | (simp only [put_lit, put_no, List.setIfInBounds_toArray, List.set_cons_succ, List.set_cons_zero]; rfl)) H (by repeat (first | (with_reducible exact At.zero) | apply At.succ)) (by with_reducible exact row_Set) rfl ?_)
      (first | exact ⟨congrArg _ (setO_none (by simp [namedP, namesL, List.find?_cons, *])), H.below⟩ | exact ⟨congrArg _ (setO_some (by simp [namedP, namesL, List.find?_cons, lettersS, *])), H.below⟩)
  · skip
    refine wp_region_spec 4 [fun v _ => v = setV alnumS, fun v _ => v = setV (ofS [95]), fun v w => RdS w w.heap.size v [alnumS, ofS [95]], fun v _ => v = setV wordS] (fun _ => false) (by kernel_rfl) (by kernel_rfl) (by kernel_rfl) ⟨stable_eq _, stable_eq _, stable_rds _, stable_eq _, trivial⟩ (fun _ _ h => by cases h) ?ob ?en
    case ob =>
      refine ⟨?_, ?_, ?_, ?_, trivial⟩ <;> intro A W h
      · exact rs_loadset (s := alnumS) rfl rfl (h.frame 4 rfl) ((H.call h.below).blk (by repeat (first | (with_reducible exact At.zero) | apply At.succ))).2 (by decide)
      · exact rs_calln rfl rfl (enters_of Tryz.func27 (by kernel_rfl) rfl) (args1 rfl) (on_95 W) (by decide)
      · exact rs_build2 rfl rfl (h.dep 0 59 rfl rfl) (h.dep 1 60 rfl rfl) (by decide)
      · exact rs_calln rfl rfl (enters_of Tryz.func49 (by kernel_rfl) rfl) (args1 rfl) ((ref_join _ [alnumS, ofS [95]] (ok2 alnumS_ok (ofS_ok _)) W (h.dep 2 61 rfl rfl))) (by decide)
    case en =>
      intro vals W hbw hv _
      have v0 : vals 0 = setV alnumS := hv 0 (by omega)
      have v1 : vals 1 = setV (ofS [95]) := hv 1 (by omega)
      have v3 : vals 3 = setV wordS := hv 3 (by omega)
      have x2 := hv 2 (by omega); simp only [lookS] at x2
      simp only [List.take_succ_cons, List.take_zero, List.drop_succ_cons, List.drop_zero, List.drop_nil, List.take_nil, fillAll, Nat.zero_add, Nat.reduceAdd]
      rw [v0, v1, v3]
      clear hv v0 v1 v3
      try simp only [put_lit, List.setIfInBounds_toArray, List.set_cons_succ, List.set_cons_zero]
      replace H := H.call hbw; clear hbw
      go_wp2_with (first | ((with_reducible refine gT ?_); (refine aS H ?_; clear H; intro w H; (try simp only [nrm, nrl, Value.cells] at H))))
      (refine ret_ctS Tryz.results66 rfl (by first | rfl | (simp only [put_lit, put_no, List.setIfInBounds_toArray, List.set_cons_succ, List.set_cons_zero]; rfl)) H (by repeat (first | (with_reducible exact At.zero) | apply At.succ)) (by with_reducible exact row_Set) rfl ?_)
      (first | exact ⟨congrArg _ (setO_none (by simp [namedP, namesL, List.find?_cons, *])), H.below⟩ | exact ⟨congrArg _ (setO_some (by simp [namedP, namesL, List.find?_cons, lettersS, *])), H.below⟩)
end Go.Proofs.YtllmgmfihijejaaGreatDoor
