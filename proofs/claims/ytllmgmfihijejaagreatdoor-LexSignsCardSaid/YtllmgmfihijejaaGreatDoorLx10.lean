/-
  Laws of walks, and walks: LexSignsA LexSignsB LexSignsC Laid.
-/
import Derived.Test.YtllmgmfihijejaaGreatDoorLx9
import Derived.Test.YtllmgmfihijejaaGreatDoorLx8
import Derived.WalkKit
import Derived.ProofKit
import Derived.Lay
import Derived.HandedShaped
import Derived.SizedLaws
import Derived.LaidOnce
import Derived.SevenTiedAt
import Derived.Shelf.Vars
set_option linter.unusedVariables false
set_option linter.unusedSimpArgs false
/-
  The walk of mudlarklaw09: names.
-/
namespace Go.Proofs.YtllmgmfihijejaaGreatDoor
open Go.RowKit Go.Shelf Go.MapKept
attribute [local go_sem] Oper.semAt_some
set_option linter.unusedSimpArgs false

def namesB : ByteArray := ⟨#[97, 108, 110, 117, 109, 32, 97, 108, 112, 104, 97, 32, 97, 115, 99, 105, 105, 32, 98, 108, 97, 110, 107, 32, 99, 110, 116, 114, 108, 32, 100, 105, 103, 105, 116, 32, 103, 114, 97, 112, 104, 32, 108, 111, 119, 101, 114, 32, 112, 114, 105, 110, 116, 32, 112, 117, 110, 99, 116, 32, 115, 112, 97, 99, 101, 32, 117, 112, 112, 101, 114, 32, 119, 111, 114, 100, 32, 120, 100, 105, 103, 105, 116, 32, 65, 108, 112, 104, 97, 32, 97, 108, 112, 104, 97, 115, 32, 32, 94, 32, 94, 94, 97, 108, 112, 104, 97, 32, 120]⟩
theorem names_split : (Lib.splitB ⟨#[32]⟩ 0 (Lib.countB namesB ⟨#[32]⟩) namesB).length = 20 ∧ (Lib.splitB ⟨#[32]⟩ 0 (Lib.countB namesB ⟨#[32]⟩) namesB).all (fun s => s.size ≤ 30) = true ∧ Lib.countB namesB ⟨#[32]⟩ + 1 = 20 := by decide +kernel
theorem names_rows : ∃ cs : Array Value, ((Lib.splitB ⟨#[32]⟩ 0 (Lib.countB namesB ⟨#[32]⟩) namesB).map Value.string).toArray = cs ∧ StrB cs 20 30 := by
  obtain ⟨h1, h2, _⟩ := names_split
  refine ⟨_, rfl, fun i hi => ?_⟩
  have hi' : i < (Lib.splitB ⟨#[32]⟩ 0 (Lib.countB namesB ⟨#[32]⟩) namesB).length := by rw [h1]; exact hi
  refine ⟨(Lib.splitB ⟨#[32]⟩ 0 (Lib.countB namesB ⟨#[32]⟩) namesB)[i].data.toList, ?_, ?_⟩
  · rw [List.getElem?_toArray, List.getElem?_map, List.getElem?_eq_getElem hi']
    simp
  · have := List.all_eq_true.1 h2 _ (List.getElem_mem hi')
    simpa using this
theorem sh_names (w : World) (hz : MaxL w) : Calls Tryz.prog 14 #[.string namesB, .string ⟨#[32]⟩] w fun e w' => ∃ cs b, StrB cs 20 30 ∧ e = .returned (.slice (some ⟨b, 0, none⟩) 20 20) ∧ ∀ (M : Nat → Prop) (v : World) (l : List Res), HoldG M v w l → HoldG M v w' (l ++ [.blk b cs 9]) := by
  obtain ⟨m, hm⟩ := hz
  obtain ⟨cs, hcs, hS⟩ := names_rows
  refine (Tryz.strings_Split namesB ⟨#[32]⟩ m w (by decide +kernel) hm (by decide +kernel)).mono fun e w' h => ?_
  obtain ⟨rfl, rfl⟩ := h
  rw [hcs, names_split.2.2]
  exact ⟨cs, _, hS, rfl, fun _ _ _ H => H.alloc cs _⟩

set_option maxRecDepth 100000 in
set_option maxHeartbeats 16000000 in
theorem law_names (w0 : World) (hz : MaxL w0) : Calls Tryz.prog 8 #[] w0 fun e w' => e = .returned (.bool true) ∧ Below w0.heap.size w0 w' := by
  have H := Hold.start w0
  have hT := fun (L : Str) w (hb : Below w0.heap.size w0 w) => law_LexTells L w (hz.block (hb.block 0 hz.lt))
  have hsp := fun w (hb : Below w0.heap.size w0 w) => sh_names w (hz.block (hb.block 0 hz.lt))
  clear hz
  go_enter Tryz.func8, Tryz.ntmps8
  go_wp2_with (first | (first | ((with_reducible refine gT ?_); (first | ((first | refine aS H ?_ | refine aW H ?_ | refine aO H ?_ | refine aT H ?_); clear H; intro w H; (try simp only [nrm, nrl, Value.cells] at H)) | (refine aN H ?_; clear H; intro w H; (try simp only [nrm, nrl, Value.cells] at H); (try simp only [setSeg, nrl] at H)))) | ((with_reducible refine gL ?_); (first | refine aV H ?_ | refine aL H ?_ | refine aG H ?_ | refine aD H ?_)) | ((with_reducible refine gX ?_); ((first | refine bS H ?_ | refine bB H ?_); clear H; intro b w H; (try simp only [nrm, nrl, Value.cells] at H))) | ((with_reducible refine gA ?_); (refine bA H ?_; clear H; intro b w H; (try simp only [nrm, nrl, Value.cells] at H))) | ((with_reducible refine gZ ?_); refine aZ ?_) | ((with_reducible refine gI ?_); refine aI ?_) | ((with_reducible refine gC ?_); refine aC ?_) | ((with_reducible refine gF ?_); refine aF ?_) | ((with_reducible refine gU ?_); refine aU ?_) | ((with_reducible refine gE ?_); refine aE ?_) | ((with_reducible refine gQ ?_); refine aQ ?_)) | (go_at_call 14; (refine (hsp _ H.below).mono ?_); rintro e w ⟨cs, b1, hcs, rfl, hH⟩; replace H := hH _ _ _ H; clear hH; (try simp only [nrl] at H)))
  clear hsp
  go_loopw [2] (fun k wr => ∃ i : Nat, k = .int .i64 i ∧ i ≤ 20 ∧ Hold w0 wr [.blk b1 cs 9]) (fun k _ => 21 - (intOf k).toNat)
  case atStart => exact ⟨0, rfl, by omega, H⟩
  case round =>
    clear H
    obtain ⟨i, rfl, hi, H⟩ := hrel
    by_cases hlt : i < 20
    · have di : decide ((i : Int) < 20) = true := by simp; omega
      obtain ⟨S, hS, hSl⟩ := hcs i hlt
      have hc1 : ∀ W, Below wr.heap.size wr W → W.cell? ⟨b1, i, none⟩ = some (.string ⟨S.toArray⟩) := fun W hb => ((H.call hb).cell .zero i).trans hS
      clear hcs hS
      go_upto_region 5 with (first | (first | ((with_reducible refine gT ?_); (first | ((first | refine aS H ?_ | refine aW H ?_ | refine aO H ?_ | refine aT H ?_); clear H; intro w H; (try simp only [nrm, nrl, Value.cells] at H)) | (refine aN H ?_; clear H; intro w H; (try simp only [nrm, nrl, Value.cells] at H); (try simp only [setSeg, nrl] at H)))) | ((with_reducible refine gL ?_); (first | refine aV H ?_ | refine aL H ?_ | refine aG H ?_ | refine aD H ?_)) | ((with_reducible refine gX ?_); ((first | refine bS H ?_ | refine bB H ?_); clear H; intro b w H; (try simp only [nrm, nrl, Value.cells] at H))) | ((with_reducible refine gA ?_); (refine bA H ?_; clear H; intro b w H; (try simp only [nrm, nrl, Value.cells] at H))) | ((with_reducible refine gZ ?_); refine aZ ?_) | ((with_reducible refine gI ?_); refine aI ?_) | ((with_reducible refine gC ?_); refine aC ?_) | ((with_reducible refine gF ?_); refine aF ?_) | ((with_reducible refine gU ?_); refine aU ?_) | ((with_reducible refine gE ?_); refine aE ?_) | ((with_reducible refine gQ ?_); refine aQ ?_)))
      have HS8 : StrB (strRow [91 :: 91 :: 58 :: (S ++ [58, 93, 93]), 91 :: 91 :: 58 :: 94 :: (S ++ [58, 93, 93]), 91 :: 94 :: 91 :: 58 :: (S ++ [58, 93, 120, 45, 122, 93]), 91 :: 91 :: 58 :: (S ++ [58, 93]), 91 :: 91 :: 58 :: (S ++ [93, 58, 93]), 91 :: 97 :: 45 :: 91 :: 58 :: (S ++ [58, 93, 93]), 91 :: 91 :: 58 :: (S ++ [58, 93, 45, 122, 93]), 91 :: 58 :: (S ++ [58, 93])]) 8 100 := strB_of _ _ (by intro s hs; simp only [List.mem_cons, List.not_mem_nil, or_false] at hs; rcases hs with rfl | rfl | rfl | rfl | rfl | rfl | rfl | rfl <;> (simp only [List.length_append, List.length_cons, List.length_nil]; omega)) rfl
      refine wp_region_spec 51 [fun v _ => v = .slice (some ⟨b1, 0, none⟩) 20 20, fun v _ => v = .int .i64 (i : Int), fun v _ => v = .pointer (some ⟨b1, i, none⟩), fun v _ => v = .string ⟨S.toArray⟩, fun v _ => v = .string ⟨(91 :: 91 :: 58 :: S).toArray⟩, fun v _ => v = .string ⟨(91 :: 91 :: 58 :: (S ++ [58, 93, 93])).toArray⟩, fun v _ => v = .slice (some ⟨b1, 0, none⟩) 20 20, fun v _ => v = .int .i64 (i : Int), fun v _ => v = .pointer (some ⟨b1, i, none⟩), fun v _ => v = .string ⟨S.toArray⟩, fun v _ => v = .string ⟨(91 :: 91 :: 58 :: 94 :: S).toArray⟩, fun v _ => v = .string ⟨(91 :: 91 :: 58 :: 94 :: (S ++ [58, 93, 93])).toArray⟩, fun v _ => v = .slice (some ⟨b1, 0, none⟩) 20 20, fun v _ => v = .int .i64 (i : Int), fun v _ => v = .pointer (some ⟨b1, i, none⟩), fun v _ => v = .string ⟨S.toArray⟩, fun v _ => v = .string ⟨(91 :: 94 :: 91 :: 58 :: S).toArray⟩, fun v _ => v = .string ⟨(91 :: 94 :: 91 :: 58 :: (S ++ [58, 93, 120, 45, 122, 93])).toArray⟩, fun v _ => v = .slice (some ⟨b1, 0, none⟩) 20 20, fun v _ => v = .int .i64 (i : Int), fun v _ => v = .pointer (some ⟨b1, i, none⟩), fun v _ => v = .string ⟨S.toArray⟩, fun v _ => v = .string ⟨(91 :: 91 :: 58 :: S).toArray⟩, fun v _ => v = .string ⟨(91 :: 91 :: 58 :: (S ++ [58, 93])).toArray⟩, fun v _ => v = .slice (some ⟨b1, 0, none⟩) 20 20, fun v _ => v = .int .i64 (i : Int), fun v _ => v = .pointer (some ⟨b1, i, none⟩), fun v _ => v = .string ⟨S.toArray⟩, fun v _ => v = .string ⟨(91 :: 91 :: 58 :: S).toArray⟩, fun v _ => v = .string ⟨(91 :: 91 :: 58 :: (S ++ [93, 58, 93])).toArray⟩, fun v _ => v = .slice (some ⟨b1, 0, none⟩) 20 20, fun v _ => v = .int .i64 (i : Int), fun v _ => v = .pointer (some ⟨b1, i, none⟩), fun v _ => v = .string ⟨S.toArray⟩, fun v _ => v = .string ⟨(91 :: 97 :: 45 :: 91 :: 58 :: S).toArray⟩, fun v _ => v = .string ⟨(91 :: 97 :: 45 :: 91 :: 58 :: (S ++ [58, 93, 93])).toArray⟩, fun v _ => v = .slice (some ⟨b1, 0, none⟩) 20 20, fun v _ => v = .int .i64 (i : Int), fun v _ => v = .pointer (some ⟨b1, i, none⟩), fun v _ => v = .string ⟨S.toArray⟩, fun v _ => v = .string ⟨(91 :: 91 :: 58 :: S).toArray⟩, fun v _ => v = .string ⟨(91 :: 91 :: 58 :: (S ++ [58, 93, 45, 122, 93])).toArray⟩, fun v _ => v = .slice (some ⟨b1, 0, none⟩) 20 20, fun v _ => v = .int .i64 (i : Int), fun v _ => v = .pointer (some ⟨b1, i, none⟩), fun v _ => v = .string ⟨S.toArray⟩, fun v _ => v = .string ⟨(91 :: 58 :: S).toArray⟩, fun v _ => v = .string ⟨(91 :: 58 :: (S ++ [58, 93])).toArray⟩, StrW 8 100 wr.heap.size, fun v _ => v = .int .i64 8, fun v _ => v = Value.int IntKind.i64 0] (fun _ => false) (by kernel_rfl) (by kernel_rfl) (by kernel_rfl) ⟨stable_eq _, stable_eq _, stable_eq _, stable_eq _, stable_eq _, stable_eq _, stable_eq _, stable_eq _, stable_eq _, stable_eq _, stable_eq _, stable_eq _, stable_eq _, stable_eq _, stable_eq _, stable_eq _, stable_eq _, stable_eq _, stable_eq _, stable_eq _, stable_eq _, stable_eq _, stable_eq _, stable_eq _, stable_eq _, stable_eq _, stable_eq _, stable_eq _, stable_eq _, stable_eq _, stable_eq _, stable_eq _, stable_eq _, stable_eq _, stable_eq _, stable_eq _, stable_eq _, stable_eq _, stable_eq _, stable_eq _, stable_eq _, stable_eq _, stable_eq _, stable_eq _, stable_eq _, stable_eq _, stable_eq _, stable_eq _, stable_strW _ _ _, stable_eq _, stable_eq _, trivial⟩ (fun _ _ h => by cases h) ?ob ?en
      case ob =>
        refine ⟨?_, ?_, ?_, ?_, ?_, ?_, ?_, ?_, ?_, ?_, ?_, ?_, ?_, ?_, ?_, ?_, ?_, ?_, ?_, ?_, ?_, ?_, ?_, ?_, ?_, ?_, ?_, ?_, ?_, ?_, ?_, ?_, ?_, ?_, ?_, ?_, ?_, ?_, ?_, ?_, ?_, ?_, ?_, ?_, ?_, ?_, ?_, ?_, ?_, ?_, ?_, trivial⟩ <;> intro A W h
        · exact rs_move rfl rfl (h.frame 1 rfl) (by decide)
        · exact rs_move rfl rfl (h.frame 2 rfl) (by decide)
        · exact rs_pure rfl (idx1_run Tryz.underlying23 (fun W => by kernel_rfl) rfl (h.dep 0 12 rfl rfl) (h.dep 1 13 rfl rfl) hlt) (by decide)
        · exact rs_pure rfl (load_run rfl one_str (h.dep 2 14 rfl rfl) (hc1 W h.below)) (by decide)
        · exact rs_pure rfl (str_addB_run (A := [91, 91, 58]) (B := S) (by simp only [List.length_cons, List.length_nil]; omega) rfl rfl (h.dep 3 15 rfl rfl)) (by decide)
        · exact rs_pure rfl (str_addB_run (A := 91 :: 91 :: 58 :: S) (B := [58, 93, 93]) (by simp only [List.length_append, List.length_cons, List.length_nil]; omega) rfl (h.dep 4 16 rfl rfl) rfl) (by decide)
        · exact rs_move rfl rfl (h.frame 1 rfl) (by decide)
        · exact rs_move rfl rfl (h.frame 2 rfl) (by decide)
        · exact rs_pure rfl (idx1_run Tryz.underlying23 (fun W => by kernel_rfl) rfl (h.dep 6 18 rfl rfl) (h.dep 7 19 rfl rfl) hlt) (by decide)
        · exact rs_pure rfl (load_run rfl one_str (h.dep 8 20 rfl rfl) (hc1 W h.below)) (by decide)
        · exact rs_pure rfl (str_addB_run (A := [91, 91, 58, 94]) (B := S) (by simp only [List.length_cons, List.length_nil]; omega) rfl rfl (h.dep 9 21 rfl rfl)) (by decide)
        · exact rs_pure rfl (str_addB_run (A := 91 :: 91 :: 58 :: 94 :: S) (B := [58, 93, 93]) (by simp only [List.length_append, List.length_cons, List.length_nil]; omega) rfl (h.dep 10 22 rfl rfl) rfl) (by decide)
        · exact rs_move rfl rfl (h.frame 1 rfl) (by decide)
        · exact rs_move rfl rfl (h.frame 2 rfl) (by decide)
        · exact rs_pure rfl (idx1_run Tryz.underlying23 (fun W => by kernel_rfl) rfl (h.dep 12 24 rfl rfl) (h.dep 13 25 rfl rfl) hlt) (by decide)
        · exact rs_pure rfl (load_run rfl one_str (h.dep 14 26 rfl rfl) (hc1 W h.below)) (by decide)
        · exact rs_pure rfl (str_addB_run (A := [91, 94, 91, 58]) (B := S) (by simp only [List.length_cons, List.length_nil]; omega) rfl rfl (h.dep 15 27 rfl rfl)) (by decide)
        · exact rs_pure rfl (str_addB_run (A := 91 :: 94 :: 91 :: 58 :: S) (B := [58, 93, 120, 45, 122, 93]) (by simp only [List.length_append, List.length_cons, List.length_nil]; omega) rfl (h.dep 16 28 rfl rfl) rfl) (by decide)
        · exact rs_move rfl rfl (h.frame 1 rfl) (by decide)
        · exact rs_move rfl rfl (h.frame 2 rfl) (by decide)
        · exact rs_pure rfl (idx1_run Tryz.underlying23 (fun W => by kernel_rfl) rfl (h.dep 18 30 rfl rfl) (h.dep 19 31 rfl rfl) hlt) (by decide)
        · exact rs_pure rfl (load_run rfl one_str (h.dep 20 32 rfl rfl) (hc1 W h.below)) (by decide)
        · exact rs_pure rfl (str_addB_run (A := [91, 91, 58]) (B := S) (by simp only [List.length_cons, List.length_nil]; omega) rfl rfl (h.dep 21 33 rfl rfl)) (by decide)
        · exact rs_pure rfl (str_addB_run (A := 91 :: 91 :: 58 :: S) (B := [58, 93]) (by simp only [List.length_append, List.length_cons, List.length_nil]; omega) rfl (h.dep 22 34 rfl rfl) rfl) (by decide)
        · exact rs_move rfl rfl (h.frame 1 rfl) (by decide)
        · exact rs_move rfl rfl (h.frame 2 rfl) (by decide)
        · exact rs_pure rfl (idx1_run Tryz.underlying23 (fun W => by kernel_rfl) rfl (h.dep 24 36 rfl rfl) (h.dep 25 37 rfl rfl) hlt) (by decide)
        · exact rs_pure rfl (load_run rfl one_str (h.dep 26 38 rfl rfl) (hc1 W h.below)) (by decide)
        · exact rs_pure rfl (str_addB_run (A := [91, 91, 58]) (B := S) (by simp only [List.length_cons, List.length_nil]; omega) rfl rfl (h.dep 27 39 rfl rfl)) (by decide)
        · exact rs_pure rfl (str_addB_run (A := 91 :: 91 :: 58 :: S) (B := [93, 58, 93]) (by simp only [List.length_append, List.length_cons, List.length_nil]; omega) rfl (h.dep 28 40 rfl rfl) rfl) (by decide)
        · exact rs_move rfl rfl (h.frame 1 rfl) (by decide)
        · exact rs_move rfl rfl (h.frame 2 rfl) (by decide)
        · exact rs_pure rfl (idx1_run Tryz.underlying23 (fun W => by kernel_rfl) rfl (h.dep 30 42 rfl rfl) (h.dep 31 43 rfl rfl) hlt) (by decide)
        · exact rs_pure rfl (load_run rfl one_str (h.dep 32 44 rfl rfl) (hc1 W h.below)) (by decide)
        · exact rs_pure rfl (str_addB_run (A := [91, 97, 45, 91, 58]) (B := S) (by simp only [List.length_cons, List.length_nil]; omega) rfl rfl (h.dep 33 45 rfl rfl)) (by decide)
        · exact rs_pure rfl (str_addB_run (A := 91 :: 97 :: 45 :: 91 :: 58 :: S) (B := [58, 93, 93]) (by simp only [List.length_append, List.length_cons, List.length_nil]; omega) rfl (h.dep 34 46 rfl rfl) rfl) (by decide)
        · exact rs_move rfl rfl (h.frame 1 rfl) (by decide)
        · exact rs_move rfl rfl (h.frame 2 rfl) (by decide)
        · exact rs_pure rfl (idx1_run Tryz.underlying23 (fun W => by kernel_rfl) rfl (h.dep 36 48 rfl rfl) (h.dep 37 49 rfl rfl) hlt) (by decide)
        · exact rs_pure rfl (load_run rfl one_str (h.dep 38 50 rfl rfl) (hc1 W h.below)) (by decide)
        · exact rs_pure rfl (str_addB_run (A := [91, 91, 58]) (B := S) (by simp only [List.length_cons, List.length_nil]; omega) rfl rfl (h.dep 39 51 rfl rfl)) (by decide)
        · exact rs_pure rfl (str_addB_run (A := 91 :: 91 :: 58 :: S) (B := [58, 93, 45, 122, 93]) (by simp only [List.length_append, List.length_cons, List.length_nil]; omega) rfl (h.dep 40 52 rfl rfl) rfl) (by decide)
        · exact rs_move rfl rfl (h.frame 1 rfl) (by decide)
        · exact rs_move rfl rfl (h.frame 2 rfl) (by decide)
        · exact rs_pure rfl (idx1_run Tryz.underlying23 (fun W => by kernel_rfl) rfl (h.dep 42 54 rfl rfl) (h.dep 43 55 rfl rfl) hlt) (by decide)
        · exact rs_pure rfl (load_run rfl one_str (h.dep 44 56 rfl rfl) (hc1 W h.below)) (by decide)
        · exact rs_pure rfl (str_addB_run (A := [91, 58]) (B := S) (by simp only [List.length_cons, List.length_nil]; omega) rfl rfl (h.dep 45 57 rfl rfl)) (by decide)
        · exact rs_pure rfl (str_addB_run (A := 91 :: 58 :: S) (B := [58, 93]) (by simp only [List.length_append, List.length_cons, List.length_nil]; omega) rfl (h.dep 46 58 rfl rfl) rfl) (by decide)
        · exact rs_strs rfl rfl (by intro W; simp only [List.map_toArray, List.map_cons, List.map_nil]; rw [h.dep 5 17 rfl rfl, h.dep 11 23 rfl rfl, h.dep 17 29 rfl rfl, h.dep 23 35 rfl rfl, h.dep 29 41 rfl rfl, h.dep 35 47 rfl rfl, h.dep 41 53 rfl rfl, h.dep 47 59 rfl rfl]; exact build_strs8 (91 :: 91 :: 58 :: (S ++ [58, 93, 93])) (91 :: 91 :: 58 :: 94 :: (S ++ [58, 93, 93])) (91 :: 94 :: 91 :: 58 :: (S ++ [58, 93, 120, 45, 122, 93])) (91 :: 91 :: 58 :: (S ++ [58, 93])) (91 :: 91 :: 58 :: (S ++ [93, 58, 93])) (91 :: 97 :: 45 :: 91 :: 58 :: (S ++ [58, 93, 93])) (91 :: 91 :: 58 :: (S ++ [58, 93, 45, 122, 93])) (91 :: 58 :: (S ++ [58, 93])) W) h.below.size HS8 (by decide)
        · obtain ⟨b, cs, e, _⟩ := h.dep 48 60 rfl rfl; exact rs_len Tryz.underlying23 rfl rfl e (by decide)
        · exact rs_move rfl rfl (rfl) (by decide)
      case en =>
        intro vals W hbw hv _
        have v0 : vals 0 = .slice (some ⟨b1, 0, none⟩) 20 20 := hv 0 (by omega)
        have v1 : vals 1 = .int .i64 (i : Int) := hv 1 (by omega)
        have v2 : vals 2 = .pointer (some ⟨b1, i, none⟩) := hv 2 (by omega)
        have v3 : vals 3 = .string ⟨S.toArray⟩ := hv 3 (by omega)
        have v4 : vals 4 = .string ⟨(91 :: 91 :: 58 :: S).toArray⟩ := hv 4 (by omega)
        have v5 : vals 5 = .string ⟨(91 :: 91 :: 58 :: (S ++ [58, 93, 93])).toArray⟩ := hv 5 (by omega)
        have v6 : vals 6 = .slice (some ⟨b1, 0, none⟩) 20 20 := hv 6 (by omega)
        have v7 : vals 7 = .int .i64 (i : Int) := hv 7 (by omega)
        have v8 : vals 8 = .pointer (some ⟨b1, i, none⟩) := hv 8 (by omega)
        have v9 : vals 9 = .string ⟨S.toArray⟩ := hv 9 (by omega)
        have v10 : vals 10 = .string ⟨(91 :: 91 :: 58 :: 94 :: S).toArray⟩ := hv 10 (by omega)
        have v11 : vals 11 = .string ⟨(91 :: 91 :: 58 :: 94 :: (S ++ [58, 93, 93])).toArray⟩ := hv 11 (by omega)
        have v12 : vals 12 = .slice (some ⟨b1, 0, none⟩) 20 20 := hv 12 (by omega)
        have v13 : vals 13 = .int .i64 (i : Int) := hv 13 (by omega)
        have v14 : vals 14 = .pointer (some ⟨b1, i, none⟩) := hv 14 (by omega)
        have v15 : vals 15 = .string ⟨S.toArray⟩ := hv 15 (by omega)
        have v16 : vals 16 = .string ⟨(91 :: 94 :: 91 :: 58 :: S).toArray⟩ := hv 16 (by omega)
        have v17 : vals 17 = .string ⟨(91 :: 94 :: 91 :: 58 :: (S ++ [58, 93, 120, 45, 122, 93])).toArray⟩ := hv 17 (by omega)
        have v18 : vals 18 = .slice (some ⟨b1, 0, none⟩) 20 20 := hv 18 (by omega)
        have v19 : vals 19 = .int .i64 (i : Int) := hv 19 (by omega)
        have v20 : vals 20 = .pointer (some ⟨b1, i, none⟩) := hv 20 (by omega)
        have v21 : vals 21 = .string ⟨S.toArray⟩ := hv 21 (by omega)
        have v22 : vals 22 = .string ⟨(91 :: 91 :: 58 :: S).toArray⟩ := hv 22 (by omega)
        have v23 : vals 23 = .string ⟨(91 :: 91 :: 58 :: (S ++ [58, 93])).toArray⟩ := hv 23 (by omega)
        have v24 : vals 24 = .slice (some ⟨b1, 0, none⟩) 20 20 := hv 24 (by omega)
        have v25 : vals 25 = .int .i64 (i : Int) := hv 25 (by omega)
        have v26 : vals 26 = .pointer (some ⟨b1, i, none⟩) := hv 26 (by omega)
        have v27 : vals 27 = .string ⟨S.toArray⟩ := hv 27 (by omega)
        have v28 : vals 28 = .string ⟨(91 :: 91 :: 58 :: S).toArray⟩ := hv 28 (by omega)
        have v29 : vals 29 = .string ⟨(91 :: 91 :: 58 :: (S ++ [93, 58, 93])).toArray⟩ := hv 29 (by omega)
        have v30 : vals 30 = .slice (some ⟨b1, 0, none⟩) 20 20 := hv 30 (by omega)
        have v31 : vals 31 = .int .i64 (i : Int) := hv 31 (by omega)
        have v32 : vals 32 = .pointer (some ⟨b1, i, none⟩) := hv 32 (by omega)
        have v33 : vals 33 = .string ⟨S.toArray⟩ := hv 33 (by omega)
        have v34 : vals 34 = .string ⟨(91 :: 97 :: 45 :: 91 :: 58 :: S).toArray⟩ := hv 34 (by omega)
        have v35 : vals 35 = .string ⟨(91 :: 97 :: 45 :: 91 :: 58 :: (S ++ [58, 93, 93])).toArray⟩ := hv 35 (by omega)
        have v36 : vals 36 = .slice (some ⟨b1, 0, none⟩) 20 20 := hv 36 (by omega)
        have v37 : vals 37 = .int .i64 (i : Int) := hv 37 (by omega)
        have v38 : vals 38 = .pointer (some ⟨b1, i, none⟩) := hv 38 (by omega)
        have v39 : vals 39 = .string ⟨S.toArray⟩ := hv 39 (by omega)
        have v40 : vals 40 = .string ⟨(91 :: 91 :: 58 :: S).toArray⟩ := hv 40 (by omega)
        have v41 : vals 41 = .string ⟨(91 :: 91 :: 58 :: (S ++ [58, 93, 45, 122, 93])).toArray⟩ := hv 41 (by omega)
        have v42 : vals 42 = .slice (some ⟨b1, 0, none⟩) 20 20 := hv 42 (by omega)
        have v43 : vals 43 = .int .i64 (i : Int) := hv 43 (by omega)
        have v44 : vals 44 = .pointer (some ⟨b1, i, none⟩) := hv 44 (by omega)
        have v45 : vals 45 = .string ⟨S.toArray⟩ := hv 45 (by omega)
        have v46 : vals 46 = .string ⟨(91 :: 58 :: S).toArray⟩ := hv 46 (by omega)
        have v47 : vals 47 = .string ⟨(91 :: 58 :: (S ++ [58, 93])).toArray⟩ := hv 47 (by omega)
        have v49 : vals 49 = .int .i64 8 := hv 49 (by omega)
        have v50 : vals 50 = Value.int IntKind.i64 0 := hv 50 (by omega)
        have x48 := hv 48 (by omega); simp only [lookS] at x48
        simp only [List.take_succ_cons, List.take_zero, List.drop_succ_cons, List.drop_zero, List.drop_nil, List.take_nil, fillAll, Nat.zero_add, Nat.reduceAdd]
        rw [v0, v1, v2, v3, v4, v5, v6, v7, v8, v9, v10, v11, v12, v13, v14, v15, v16, v17, v18, v19, v20, v21, v22, v23, v24, v25, v26, v27, v28, v29, v30, v31, v32, v33, v34, v35, v36, v37, v38, v39, v40, v41, v42, v43, v44, v45, v46, v47, v49, v50]
        clear hv v0 v1 v2 v3 v4 v5 v6 v7 v8 v9 v10 v11 v12 v13 v14 v15 v16 v17 v18 v19 v20 v21 v22 v23 v24 v25 v26 v27 v28 v29 v30 v31 v32 v33 v34 v35 v36 v37 v38 v39 v40 v41 v42 v43 v44 v45 v46 v47 v49 v50
        try simp only [put_lit, List.setIfInBounds_toArray, List.set_cons_succ, List.set_cons_zero]
        clear HS8
        obtain ⟨b, c8, e48, hb48, hh48, HS8⟩ := x48
        rw [e48]
        replace H := H.gainStr hbw hb48 hh48
        simp only [nrl] at H
        clear hc1 hb48 hh48 e48 hbw
        go_wp2_with (first | (first | ((with_reducible refine gT ?_); (first | ((first | refine aS H ?_ | refine aW H ?_ | refine aO H ?_ | refine aT H ?_); clear H; intro w H; (try simp only [nrm, nrl, Value.cells] at H)) | (refine aN H ?_; clear H; intro w H; (try simp only [nrm, nrl, Value.cells] at H); (try simp only [setSeg, nrl] at H)))) | ((with_reducible refine gL ?_); (first | refine aV H ?_ | refine aL H ?_ | refine aG H ?_ | refine aD H ?_)) | ((with_reducible refine gX ?_); ((first | refine bS H ?_ | refine bB H ?_); clear H; intro b w H; (try simp only [nrm, nrl, Value.cells] at H))) | ((with_reducible refine gA ?_); (refine bA H ?_; clear H; intro b w H; (try simp only [nrm, nrl, Value.cells] at H))) | ((with_reducible refine gZ ?_); refine aZ ?_) | ((with_reducible refine gI ?_); refine aI ?_) | ((with_reducible refine gC ?_); refine aC ?_) | ((with_reducible refine gF ?_); refine aF ?_) | ((with_reducible refine gU ?_); refine aU ?_) | ((with_reducible refine gE ?_); refine aE ?_) | ((with_reducible refine gQ ?_); refine aQ ?_)))
        go_loopw [62] (fun k w2 => ∃ j : Nat, k = .int .i64 j ∧ j ≤ 8 ∧ Hold w0 w2 [.blk b1 cs 9, .blk b c8 9]) (fun k _ => 9 - (intOf k).toNat)
        case atStart => exact ⟨0, rfl, by omega, H⟩
        case round =>
          clear H
          obtain ⟨j, rfl, hj, H⟩ := hrel
          by_cases hjlt : j < 8
          · have dj : decide ((j : Int) < 8) = true := by simp; omega
            obtain ⟨Z, hZ, hZl⟩ := HS8 j hjlt
            have hcell := (H.cell (.succ .zero) j).trans hZ
            clear hZ HS8
            go_wp2_with (first | ((with_reducible show wpList _ _ _ ({ op := Op.indexAddr .., .. } :: _) _ _); refine own_pure (by first | rfl | exact wanted_g rfl (yielded_of rfl (by first | rfl | (simp only [put_lit, put_no, List.setIfInBounds_toArray, List.set_cons_succ, List.set_cons_zero, ev_tmp, ev_const, ev_glob, ev_func, List.getD_cons_succ, List.getD_cons_zero]; rfl)))) (idx1_run Tryz.underlying23 (fun W => by kernel_rfl) rfl (by first | (simp only [put_lit, put_no, List.setIfInBounds_toArray, List.set_cons_succ, List.set_cons_zero, ev_tmp, ev_const, ev_glob, ev_func, List.getD_cons_succ, List.getD_cons_zero]; done) | (simp only [put_lit, put_no, List.setIfInBounds_toArray, List.set_cons_succ, List.set_cons_zero, ev_tmp, ev_const, ev_glob, ev_func, List.getD_cons_succ, List.getD_cons_zero]; rfl)) (by first | (simp only [put_lit, put_no, List.setIfInBounds_toArray, List.set_cons_succ, List.set_cons_zero, ev_tmp, ev_const, ev_glob, ev_func, List.getD_cons_succ, List.getD_cons_zero]; done) | (simp only [put_lit, put_no, List.setIfInBounds_toArray, List.set_cons_succ, List.set_cons_zero, ev_tmp, ev_const, ev_glob, ev_func, List.getD_cons_succ, List.getD_cons_zero]; rfl)) hjlt) ?_) | ((with_reducible show wpList _ _ _ ({ op := Op.load 9 .., .. } :: _) _ _); refine own_pure (by first | rfl | exact wanted_g rfl (yielded_of rfl (by first | rfl | (simp only [put_lit, put_no, List.setIfInBounds_toArray, List.set_cons_succ, List.set_cons_zero, ev_tmp, ev_const, ev_glob, ev_func, List.getD_cons_succ, List.getD_cons_zero]; rfl)))) (load_run rfl one_str (by first | (simp only [put_lit, put_no, List.setIfInBounds_toArray, List.set_cons_succ, List.set_cons_zero, ev_tmp, ev_const, ev_glob, ev_func, List.getD_cons_succ, List.getD_cons_zero]; done) | (simp only [put_lit, put_no, List.setIfInBounds_toArray, List.set_cons_succ, List.set_cons_zero, ev_tmp, ev_const, ev_glob, ev_func, List.getD_cons_succ, List.getD_cons_zero]; rfl)) hcell) ?_) | (first | ((with_reducible refine gT ?_); (first | ((first | refine aS H ?_ | refine aW H ?_ | refine aO H ?_ | refine aT H ?_); clear H; intro w H; (try simp only [nrm, nrl, Value.cells] at H)) | (refine aN H ?_; clear H; intro w H; (try simp only [nrm, nrl, Value.cells] at H); (try simp only [setSeg, nrl] at H)))) | ((with_reducible refine gL ?_); (first | refine aV H ?_ | refine aL H ?_ | refine aG H ?_ | refine aD H ?_)) | ((with_reducible refine gX ?_); ((first | refine bS H ?_ | refine bB H ?_); clear H; intro b w H; (try simp only [nrm, nrl, Value.cells] at H))) | ((with_reducible refine gA ?_); (refine bA H ?_; clear H; intro b w H; (try simp only [nrm, nrl, Value.cells] at H))) | ((with_reducible refine gZ ?_); refine aZ ?_) | ((with_reducible refine gI ?_); refine aI ?_) | ((with_reducible refine gC ?_); refine aC ?_) | ((with_reducible refine gF ?_); refine aF ?_) | ((with_reducible refine gU ?_); refine aU ?_) | ((with_reducible refine gE ?_); refine aE ?_) | ((with_reducible refine gQ ?_); refine aQ ?_)) | (go_at_call 4; (with_reducible refine ch (hT _ _ H.below) H ?_); clear H; intro w H))
            go_roundw
            case rel => exact ⟨j + 1, rfl, by omega, H⟩
            case measure => simp [intOf]; omega
          · have dj : decide ((j : Int) < 8) = false := by simp; omega
            replace H := H.take 1
            go_wp2_with (first | (first | ((with_reducible refine gT ?_); (first | ((first | refine aS H ?_ | refine aW H ?_ | refine aO H ?_ | refine aT H ?_); clear H; intro w H; (try simp only [nrm, nrl, Value.cells] at H)) | (refine aN H ?_; clear H; intro w H; (try simp only [nrm, nrl, Value.cells] at H); (try simp only [setSeg, nrl] at H)))) | ((with_reducible refine gL ?_); (first | refine aV H ?_ | refine aL H ?_ | refine aG H ?_ | refine aD H ?_)) | ((with_reducible refine gX ?_); ((first | refine bS H ?_ | refine bB H ?_); clear H; intro b w H; (try simp only [nrm, nrl, Value.cells] at H))) | ((with_reducible refine gA ?_); (refine bA H ?_; clear H; intro b w H; (try simp only [nrm, nrl, Value.cells] at H))) | ((with_reducible refine gZ ?_); refine aZ ?_) | ((with_reducible refine gI ?_); refine aI ?_) | ((with_reducible refine gC ?_); refine aC ?_) | ((with_reducible refine gF ?_); refine aF ?_) | ((with_reducible refine gU ?_); refine aU ?_) | ((with_reducible refine gE ?_); refine aE ?_) | ((with_reducible refine gQ ?_); refine aQ ?_)))
            go_roundw
            case rel => exact ⟨i + 1, rfl, by omega, H⟩
            case measure => simp [intOf]; omega
    · have di : decide ((i : Int) < 20) = false := by simp; omega
      go_wp2_with (first | (first | ((with_reducible refine gT ?_); (first | ((first | refine aS H ?_ | refine aW H ?_ | refine aO H ?_ | refine aT H ?_); clear H; intro w H; (try simp only [nrm, nrl, Value.cells] at H)) | (refine aN H ?_; clear H; intro w H; (try simp only [nrm, nrl, Value.cells] at H); (try simp only [setSeg, nrl] at H)))) | ((with_reducible refine gL ?_); (first | refine aV H ?_ | refine aL H ?_ | refine aG H ?_ | refine aD H ?_)) | ((with_reducible refine gX ?_); ((first | refine bS H ?_ | refine bB H ?_); clear H; intro b w H; (try simp only [nrm, nrl, Value.cells] at H))) | ((with_reducible refine gA ?_); (refine bA H ?_; clear H; intro b w H; (try simp only [nrm, nrl, Value.cells] at H))) | ((with_reducible refine gZ ?_); refine aZ ?_) | ((with_reducible refine gI ?_); refine aI ?_) | ((with_reducible refine gC ?_); refine aC ?_) | ((with_reducible refine gF ?_); refine aF ?_) | ((with_reducible refine gU ?_); refine aU ?_) | ((with_reducible refine gE ?_); refine aE ?_) | ((with_reducible refine gQ ?_); refine aQ ?_)))
      go_ret
      exact ⟨rfl, H.below⟩
end Go.Proofs.YtllmgmfihijejaaGreatDoor
/-
  The walk of mudlarklaw09: repeats.
-/
namespace Go.Proofs.YtllmgmfihijejaaGreatDoor
open Go.RowKit Go.Shelf Go.MapKept
attribute [local go_sem] Oper.semAt_some
set_option linter.unusedSimpArgs false

theorem sh_repeat (c : UInt8) (m : Nat) (hm : m ≤ 2000) (w : World) : Calls Tryz.prog 15 #[.string ⟨#[c]⟩, .int .i64 m] w fun e w' => e = .returned (.string ⟨(Lib.repeatL [c] m).toArray⟩) ∧ Below w.heap.size w w' :=
  Tryz.strings_Repeat ⟨#[c]⟩ m w (by omega) (by show 1 * m ≤ _; omega)

set_option maxRecDepth 100000 in
set_option maxHeartbeats 16000000 in
theorem law_repeats (w0 : World) (hz : MaxL w0) : Calls Tryz.prog 9 #[] w0 fun e w' => e = .returned (.bool true) ∧ Below w0.heap.size w0 w' := by
  have H := Hold.start w0
  have hT := fun (L : Str) w (hb : Below w0.heap.size w0 w) => law_LexTells L w (hz.block (hb.block 0 hz.lt))
  clear hz
  go_enter Tryz.func9, Tryz.ntmps9
  go_wp2_with (first | ((with_reducible show wpList _ _ _ ({ op := Op.buildSlice .., .. } :: _) _ _); refine own_strs10 30 (by first | rfl | exact wanted_g rfl (yielded_of rfl (by first | rfl | (simp only [put_lit, put_no, List.setIfInBounds_toArray, List.set_cons_succ, List.set_cons_zero, ev_tmp, ev_const, ev_glob, ev_func, List.getD_cons_succ, List.getD_cons_zero]; rfl)))) rfl H ⟨_, rfl, (by first | omega | (simp only [List.length_cons, List.length_nil]; omega))⟩ ⟨_, rfl, (by first | omega | (simp only [List.length_cons, List.length_nil]; omega))⟩ ⟨_, rfl, (by first | omega | (simp only [List.length_cons, List.length_nil]; omega))⟩ ⟨_, rfl, (by first | omega | (simp only [List.length_cons, List.length_nil]; omega))⟩ ⟨_, rfl, (by first | omega | (simp only [List.length_cons, List.length_nil]; omega))⟩ ⟨_, rfl, (by first | omega | (simp only [List.length_cons, List.length_nil]; omega))⟩ ⟨_, rfl, (by first | omega | (simp only [List.length_cons, List.length_nil]; omega))⟩ ⟨_, rfl, (by first | omega | (simp only [List.length_cons, List.length_nil]; omega))⟩ ⟨_, rfl, (by first | omega | (simp only [List.length_cons, List.length_nil]; omega))⟩ ⟨_, rfl, (by first | omega | (simp only [List.length_cons, List.length_nil]; omega))⟩ ?_; clear H; intro b cs w HS H; (try simp only [nrl] at H)) | (first | ((with_reducible refine gT ?_); (first | ((first | refine aS H ?_ | refine aW H ?_ | refine aO H ?_ | refine aT H ?_); clear H; intro w H; (try simp only [nrm, nrl, Value.cells] at H)) | (refine aN H ?_; clear H; intro w H; (try simp only [nrm, nrl, Value.cells] at H); (try simp only [setSeg, nrl] at H)))) | ((with_reducible refine gL ?_); (first | refine aV H ?_ | refine aL H ?_ | refine aG H ?_ | refine aD H ?_)) | ((with_reducible refine gX ?_); ((first | refine bS H ?_ | refine bB H ?_); clear H; intro b w H; (try simp only [nrm, nrl, Value.cells] at H))) | ((with_reducible refine gA ?_); (refine bA H ?_; clear H; intro b w H; (try simp only [nrm, nrl, Value.cells] at H))) | ((with_reducible refine gZ ?_); refine aZ ?_) | ((with_reducible refine gI ?_); refine aI ?_) | ((with_reducible refine gC ?_); refine aC ?_) | ((with_reducible refine gF ?_); refine aF ?_) | ((with_reducible refine gU ?_); refine aU ?_) | ((with_reducible refine gE ?_); refine aE ?_) | ((with_reducible refine gQ ?_); refine aQ ?_)))
  go_loopw [2] (fun k wr => ∃ i : Nat, k = .int .i64 i ∧ i ≤ 10 ∧ Hold w0 wr [.blk b cs 9]) (fun k _ => 11 - (intOf k).toNat)
  case atStart => exact ⟨0, rfl, by omega, H⟩
  case round =>
    clear H
    obtain ⟨i, rfl, hi, H⟩ := hrel
    by_cases hlt : i < 10
    · have di : decide ((i : Int) < 10) = true := by simp; omega
      obtain ⟨X, hX, hXl⟩ := HS i hlt
      go_wp2_with (first | (first | ((with_reducible refine gT ?_); (first | ((first | refine aS H ?_ | refine aW H ?_ | refine aO H ?_ | refine aT H ?_); clear H; intro w H; (try simp only [nrm, nrl, Value.cells] at H)) | (refine aN H ?_; clear H; intro w H; (try simp only [nrm, nrl, Value.cells] at H); (try simp only [setSeg, nrl] at H)))) | ((with_reducible refine gL ?_); (first | refine aV H ?_ | refine aL H ?_ | refine aG H ?_ | refine aD H ?_)) | ((with_reducible refine gX ?_); ((first | refine bS H ?_ | refine bB H ?_); clear H; intro b w H; (try simp only [nrm, nrl, Value.cells] at H))) | ((with_reducible refine gA ?_); (refine bA H ?_; clear H; intro b w H; (try simp only [nrm, nrl, Value.cells] at H))) | ((with_reducible refine gZ ?_); refine aZ ?_) | ((with_reducible refine gI ?_); refine aI ?_) | ((with_reducible refine gC ?_); refine aC ?_) | ((with_reducible refine gF ?_); refine aF ?_) | ((with_reducible refine gU ?_); refine aU ?_) | ((with_reducible refine gE ?_); refine aE ?_) | ((with_reducible refine gQ ?_); refine aQ ?_)))
      go_loopw [3] (fun k w2 => ∃ j : Nat, k = .int .i64 j ∧ j ≤ 10 ∧ Hold w0 w2 [.blk b cs 9]) (fun k _ => 11 - (intOf k).toNat)
      case atStart => exact ⟨0, rfl, by omega, H⟩
      case round =>
        clear H
        obtain ⟨j, rfl, hj, H⟩ := hrel
        by_cases hjt : j < 10
        · have dj : decide ((j : Int) < 10) = true := by simp; omega
          obtain ⟨Y, hY, hYl⟩ := HS j hjt
          go_upto_region 8 with (first | (first | ((with_reducible refine gT ?_); (first | ((first | refine aS H ?_ | refine aW H ?_ | refine aO H ?_ | refine aT H ?_); clear H; intro w H; (try simp only [nrm, nrl, Value.cells] at H)) | (refine aN H ?_; clear H; intro w H; (try simp only [nrm, nrl, Value.cells] at H); (try simp only [setSeg, nrl] at H)))) | ((with_reducible refine gL ?_); (first | refine aV H ?_ | refine aL H ?_ | refine aG H ?_ | refine aD H ?_)) | ((with_reducible refine gX ?_); ((first | refine bS H ?_ | refine bB H ?_); clear H; intro b w H; (try simp only [nrm, nrl, Value.cells] at H))) | ((with_reducible refine gA ?_); (refine bA H ?_; clear H; intro b w H; (try simp only [nrm, nrl, Value.cells] at H))) | ((with_reducible refine gZ ?_); refine aZ ?_) | ((with_reducible refine gI ?_); refine aI ?_) | ((with_reducible refine gC ?_); refine aC ?_) | ((with_reducible refine gF ?_); refine aF ?_) | ((with_reducible refine gU ?_); refine aU ?_) | ((with_reducible refine gE ?_); refine aE ?_) | ((with_reducible refine gQ ?_); refine aQ ?_)))
          have hcx : ∀ W, Below wr.heap.size wr W → W.cell? ⟨b, i, none⟩ = some (.string ⟨X.toArray⟩) := fun W hb => ((H.call hb).cell .zero i).trans hX
          have hcy : ∀ W, Below wr.heap.size wr W → W.cell? ⟨b, j, none⟩ = some (.string ⟨Y.toArray⟩) := fun W hb => ((H.call hb).cell .zero j).trans hY
          obtain ⟨Z4, hz4, lz4⟩ : ∃ Z : Str, Hid (Z = [97, 123] ++ X) ∧ Z.length ≤ 32 := ⟨_, Lib.hid rfl, by simp only [List.length_append, List.length_cons, List.length_nil]; omega⟩
          obtain ⟨Z5, hz5, lz5⟩ : ∃ Z : Str, Hid (Z = Z4 ++ [44]) ∧ Z.length ≤ 33 := ⟨_, Lib.hid rfl, by simp only [List.length_append, List.length_cons, List.length_nil]; omega⟩
          obtain ⟨Z10, hz10, lz10⟩ : ∃ Z : Str, Hid (Z = Z5 ++ Y) ∧ Z.length ≤ 63 := ⟨_, Lib.hid rfl, by simp only [List.length_append, List.length_cons, List.length_nil]; omega⟩
          obtain ⟨Z11, hz11, lz11⟩ : ∃ Z : Str, Hid (Z = Z10 ++ [125]) ∧ Z.length ≤ 64 := ⟨_, Lib.hid rfl, by simp only [List.length_append, List.length_cons, List.length_nil]; omega⟩
          obtain ⟨Z16, hz16, lz16⟩ : ∃ Z : Str, Hid (Z = [123] ++ X) ∧ Z.length ≤ 31 := ⟨_, Lib.hid rfl, by simp only [List.length_append, List.length_cons, List.length_nil]; omega⟩
          obtain ⟨Z17, hz17, lz17⟩ : ∃ Z : Str, Hid (Z = Z16 ++ [125, 123]) ∧ Z.length ≤ 33 := ⟨_, Lib.hid rfl, by simp only [List.length_append, List.length_cons, List.length_nil]; omega⟩
          obtain ⟨Z22, hz22, lz22⟩ : ∃ Z : Str, Hid (Z = Z17 ++ Y) ∧ Z.length ≤ 63 := ⟨_, Lib.hid rfl, by simp only [List.length_append, List.length_cons, List.length_nil]; omega⟩
          obtain ⟨Z23, hz23, lz23⟩ : ∃ Z : Str, Hid (Z = Z22 ++ [44, 125, 63]) ∧ Z.length ≤ 66 := ⟨_, Lib.hid rfl, by simp only [List.length_append, List.length_cons, List.length_nil]; omega⟩
          obtain ⟨Z28, hz28, lz28⟩ : ∃ Z : Str, Hid (Z = [97, 123] ++ X) ∧ Z.length ≤ 32 := ⟨_, Lib.hid rfl, by simp only [List.length_append, List.length_cons, List.length_nil]; omega⟩
          obtain ⟨Z29, hz29, lz29⟩ : ∃ Z : Str, Hid (Z = Z28 ++ [44]) ∧ Z.length ≤ 33 := ⟨_, Lib.hid rfl, by simp only [List.length_append, List.length_cons, List.length_nil]; omega⟩
          obtain ⟨Z34, hz34, lz34⟩ : ∃ Z : Str, Hid (Z = Z29 ++ Y) ∧ Z.length ≤ 63 := ⟨_, Lib.hid rfl, by simp only [List.length_append, List.length_cons, List.length_nil]; omega⟩
          obtain ⟨Z35, hz35, lz35⟩ : ∃ Z : Str, Hid (Z = Z34 ++ [63, 63]) ∧ Z.length ≤ 65 := ⟨_, Lib.hid rfl, by simp only [List.length_append, List.length_cons, List.length_nil]; omega⟩
          have HS3 : StrB (strRow [Z11, Z23, Z35]) 3 100 := strB_of _ _ (by intro s hs; simp only [List.mem_cons, List.not_mem_nil, or_false] at hs; rcases hs with rfl | rfl | rfl <;> omega) rfl
          refine wp_region_spec 39 [fun v _ => v = .slice (some ⟨b, 0, none⟩) 10 10, fun v _ => v = .int .i64 (i : Int), fun v _ => v = .pointer (some ⟨b, i, none⟩), fun v _ => v = .string ⟨X.toArray⟩, fun v _ => v = .string ⟨Z4.toArray⟩, fun v _ => v = .string ⟨Z5.toArray⟩, fun v _ => v = .slice (some ⟨b, 0, none⟩) 10 10, fun v _ => v = .int .i64 (j : Int), fun v _ => v = .pointer (some ⟨b, j, none⟩), fun v _ => v = .string ⟨Y.toArray⟩, fun v _ => v = .string ⟨Z10.toArray⟩, fun v _ => v = .string ⟨Z11.toArray⟩, fun v _ => v = .slice (some ⟨b, 0, none⟩) 10 10, fun v _ => v = .int .i64 (i : Int), fun v _ => v = .pointer (some ⟨b, i, none⟩), fun v _ => v = .string ⟨X.toArray⟩, fun v _ => v = .string ⟨Z16.toArray⟩, fun v _ => v = .string ⟨Z17.toArray⟩, fun v _ => v = .slice (some ⟨b, 0, none⟩) 10 10, fun v _ => v = .int .i64 (j : Int), fun v _ => v = .pointer (some ⟨b, j, none⟩), fun v _ => v = .string ⟨Y.toArray⟩, fun v _ => v = .string ⟨Z22.toArray⟩, fun v _ => v = .string ⟨Z23.toArray⟩, fun v _ => v = .slice (some ⟨b, 0, none⟩) 10 10, fun v _ => v = .int .i64 (i : Int), fun v _ => v = .pointer (some ⟨b, i, none⟩), fun v _ => v = .string ⟨X.toArray⟩, fun v _ => v = .string ⟨Z28.toArray⟩, fun v _ => v = .string ⟨Z29.toArray⟩, fun v _ => v = .slice (some ⟨b, 0, none⟩) 10 10, fun v _ => v = .int .i64 (j : Int), fun v _ => v = .pointer (some ⟨b, j, none⟩), fun v _ => v = .string ⟨Y.toArray⟩, fun v _ => v = .string ⟨Z34.toArray⟩, fun v _ => v = .string ⟨Z35.toArray⟩, StrW 3 100 wr.heap.size, fun v _ => v = .int .i64 3, fun v _ => v = Value.int IntKind.i64 0] (fun _ => false) (by kernel_rfl) (by kernel_rfl) (by kernel_rfl) ⟨stable_eq _, stable_eq _, stable_eq _, stable_eq _, stable_eq _, stable_eq _, stable_eq _, stable_eq _, stable_eq _, stable_eq _, stable_eq _, stable_eq _, stable_eq _, stable_eq _, stable_eq _, stable_eq _, stable_eq _, stable_eq _, stable_eq _, stable_eq _, stable_eq _, stable_eq _, stable_eq _, stable_eq _, stable_eq _, stable_eq _, stable_eq _, stable_eq _, stable_eq _, stable_eq _, stable_eq _, stable_eq _, stable_eq _, stable_eq _, stable_eq _, stable_eq _, stable_strW _ _ _, stable_eq _, stable_eq _, trivial⟩ (fun _ _ h => by cases h) ?ob ?en
          case ob =>
            refine ⟨?_, ?_, ?_, ?_, ?_, ?_, ?_, ?_, ?_, ?_, ?_, ?_, ?_, ?_, ?_, ?_, ?_, ?_, ?_, ?_, ?_, ?_, ?_, ?_, ?_, ?_, ?_, ?_, ?_, ?_, ?_, ?_, ?_, ?_, ?_, ?_, ?_, ?_, ?_, trivial⟩ <;> intro A W h
            · exact rs_move rfl rfl (h.frame 1 rfl) (by decide)
            · exact rs_move rfl rfl (h.frame 2 rfl) (by decide)
            · exact rs_pure rfl (idx1_run Tryz.underlying23 (fun W => by kernel_rfl) rfl (h.dep 0 23 rfl rfl) (h.dep 1 24 rfl rfl) hlt) (by decide)
            · exact rs_pure rfl (load_run rfl one_str (h.dep 2 25 rfl rfl) (hcx W h.below)) (by decide)
            · exact rs_pure rfl (str_addZ_run (A := [97, 123]) (B := X) hz4.out (by simp only [List.length_cons, List.length_nil]; omega) rfl rfl (h.dep 3 26 rfl rfl)) (by decide)
            · exact rs_pure rfl (str_addZ_run (A := Z4) (B := [44]) hz5.out (by (try simp only [List.length_cons, List.length_nil]); omega) rfl (h.dep 4 27 rfl rfl) rfl) (by decide)
            · exact rs_move rfl rfl (h.frame 1 rfl) (by decide)
            · exact rs_move rfl rfl (h.frame 3 rfl) (by decide)
            · exact rs_pure rfl (idx1_run Tryz.underlying23 (fun W => by kernel_rfl) rfl (h.dep 6 29 rfl rfl) (h.dep 7 30 rfl rfl) hjt) (by decide)
            · exact rs_pure rfl (load_run rfl one_str (h.dep 8 31 rfl rfl) (hcy W h.below)) (by decide)
            · exact rs_pure rfl (str_addZ_run (A := Z5) (B := Y) hz10.out (by (try simp only [List.length_cons, List.length_nil]); omega) rfl (h.dep 5 28 rfl rfl) (h.dep 9 32 rfl rfl)) (by decide)
            · exact rs_pure rfl (str_addZ_run (A := Z10) (B := [125]) hz11.out (by (try simp only [List.length_cons, List.length_nil]); omega) rfl (h.dep 10 33 rfl rfl) rfl) (by decide)
            · exact rs_move rfl rfl (h.frame 1 rfl) (by decide)
            · exact rs_move rfl rfl (h.frame 2 rfl) (by decide)
            · exact rs_pure rfl (idx1_run Tryz.underlying23 (fun W => by kernel_rfl) rfl (h.dep 12 35 rfl rfl) (h.dep 13 36 rfl rfl) hlt) (by decide)
            · exact rs_pure rfl (load_run rfl one_str (h.dep 14 37 rfl rfl) (hcx W h.below)) (by decide)
            · exact rs_pure rfl (str_addZ_run (A := [123]) (B := X) hz16.out (by simp only [List.length_cons, List.length_nil]; omega) rfl rfl (h.dep 15 38 rfl rfl)) (by decide)
            · exact rs_pure rfl (str_addZ_run (A := Z16) (B := [125, 123]) hz17.out (by (try simp only [List.length_cons, List.length_nil]); omega) rfl (h.dep 16 39 rfl rfl) rfl) (by decide)
            · exact rs_move rfl rfl (h.frame 1 rfl) (by decide)
            · exact rs_move rfl rfl (h.frame 3 rfl) (by decide)
            · exact rs_pure rfl (idx1_run Tryz.underlying23 (fun W => by kernel_rfl) rfl (h.dep 18 41 rfl rfl) (h.dep 19 42 rfl rfl) hjt) (by decide)
            · exact rs_pure rfl (load_run rfl one_str (h.dep 20 43 rfl rfl) (hcy W h.below)) (by decide)
            · exact rs_pure rfl (str_addZ_run (A := Z17) (B := Y) hz22.out (by (try simp only [List.length_cons, List.length_nil]); omega) rfl (h.dep 17 40 rfl rfl) (h.dep 21 44 rfl rfl)) (by decide)
            · exact rs_pure rfl (str_addZ_run (A := Z22) (B := [44, 125, 63]) hz23.out (by (try simp only [List.length_cons, List.length_nil]); omega) rfl (h.dep 22 45 rfl rfl) rfl) (by decide)
            · exact rs_move rfl rfl (h.frame 1 rfl) (by decide)
            · exact rs_move rfl rfl (h.frame 2 rfl) (by decide)
            · exact rs_pure rfl (idx1_run Tryz.underlying23 (fun W => by kernel_rfl) rfl (h.dep 24 47 rfl rfl) (h.dep 25 48 rfl rfl) hlt) (by decide)
            · exact rs_pure rfl (load_run rfl one_str (h.dep 26 49 rfl rfl) (hcx W h.below)) (by decide)
            · exact rs_pure rfl (str_addZ_run (A := [97, 123]) (B := X) hz28.out (by simp only [List.length_cons, List.length_nil]; omega) rfl rfl (h.dep 27 50 rfl rfl)) (by decide)
            · exact rs_pure rfl (str_addZ_run (A := Z28) (B := [44]) hz29.out (by (try simp only [List.length_cons, List.length_nil]); omega) rfl (h.dep 28 51 rfl rfl) rfl) (by decide)
            · exact rs_move rfl rfl (h.frame 1 rfl) (by decide)
            · exact rs_move rfl rfl (h.frame 3 rfl) (by decide)
            · exact rs_pure rfl (idx1_run Tryz.underlying23 (fun W => by kernel_rfl) rfl (h.dep 30 53 rfl rfl) (h.dep 31 54 rfl rfl) hjt) (by decide)
            · exact rs_pure rfl (load_run rfl one_str (h.dep 32 55 rfl rfl) (hcy W h.below)) (by decide)
            · exact rs_pure rfl (str_addZ_run (A := Z29) (B := Y) hz34.out (by (try simp only [List.length_cons, List.length_nil]); omega) rfl (h.dep 29 52 rfl rfl) (h.dep 33 56 rfl rfl)) (by decide)
            · exact rs_pure rfl (str_addZ_run (A := Z34) (B := [63, 63]) hz35.out (by (try simp only [List.length_cons, List.length_nil]); omega) rfl (h.dep 34 57 rfl rfl) rfl) (by decide)
            · exact rs_strs rfl rfl (by intro W; simp only [List.map_toArray, List.map_cons, List.map_nil]; rw [h.dep 11 34 rfl rfl, h.dep 23 46 rfl rfl, h.dep 35 58 rfl rfl]; exact build_strs3 Z11 Z23 Z35 W) h.below.size HS3 (by decide)
            · obtain ⟨b, cs, e, _⟩ := h.dep 36 59 rfl rfl; exact rs_len Tryz.underlying23 rfl rfl e (by decide)
            · exact rs_move rfl rfl (rfl) (by decide)
          case en =>
            intro vals W hbw hv _
            have v0 : vals 0 = .slice (some ⟨b, 0, none⟩) 10 10 := hv 0 (by omega)
            have v1 : vals 1 = .int .i64 (i : Int) := hv 1 (by omega)
            have v2 : vals 2 = .pointer (some ⟨b, i, none⟩) := hv 2 (by omega)
            have v3 : vals 3 = .string ⟨X.toArray⟩ := hv 3 (by omega)
            have v4 : vals 4 = .string ⟨Z4.toArray⟩ := hv 4 (by omega)
            have v5 : vals 5 = .string ⟨Z5.toArray⟩ := hv 5 (by omega)
            have v6 : vals 6 = .slice (some ⟨b, 0, none⟩) 10 10 := hv 6 (by omega)
            have v7 : vals 7 = .int .i64 (j : Int) := hv 7 (by omega)
            have v8 : vals 8 = .pointer (some ⟨b, j, none⟩) := hv 8 (by omega)
            have v9 : vals 9 = .string ⟨Y.toArray⟩ := hv 9 (by omega)
            have v10 : vals 10 = .string ⟨Z10.toArray⟩ := hv 10 (by omega)
            have v11 : vals 11 = .string ⟨Z11.toArray⟩ := hv 11 (by omega)
            have v12 : vals 12 = .slice (some ⟨b, 0, none⟩) 10 10 := hv 12 (by omega)
            have v13 : vals 13 = .int .i64 (i : Int) := hv 13 (by omega)
            have v14 : vals 14 = .pointer (some ⟨b, i, none⟩) := hv 14 (by omega)
            have v15 : vals 15 = .string ⟨X.toArray⟩ := hv 15 (by omega)
            have v16 : vals 16 = .string ⟨Z16.toArray⟩ := hv 16 (by omega)
            have v17 : vals 17 = .string ⟨Z17.toArray⟩ := hv 17 (by omega)
            have v18 : vals 18 = .slice (some ⟨b, 0, none⟩) 10 10 := hv 18 (by omega)
            have v19 : vals 19 = .int .i64 (j : Int) := hv 19 (by omega)
            have v20 : vals 20 = .pointer (some ⟨b, j, none⟩) := hv 20 (by omega)
            have v21 : vals 21 = .string ⟨Y.toArray⟩ := hv 21 (by omega)
            have v22 : vals 22 = .string ⟨Z22.toArray⟩ := hv 22 (by omega)
            have v23 : vals 23 = .string ⟨Z23.toArray⟩ := hv 23 (by omega)
            have v24 : vals 24 = .slice (some ⟨b, 0, none⟩) 10 10 := hv 24 (by omega)
            have v25 : vals 25 = .int .i64 (i : Int) := hv 25 (by omega)
            have v26 : vals 26 = .pointer (some ⟨b, i, none⟩) := hv 26 (by omega)
            have v27 : vals 27 = .string ⟨X.toArray⟩ := hv 27 (by omega)
            have v28 : vals 28 = .string ⟨Z28.toArray⟩ := hv 28 (by omega)
            have v29 : vals 29 = .string ⟨Z29.toArray⟩ := hv 29 (by omega)
            have v30 : vals 30 = .slice (some ⟨b, 0, none⟩) 10 10 := hv 30 (by omega)
            have v31 : vals 31 = .int .i64 (j : Int) := hv 31 (by omega)
            have v32 : vals 32 = .pointer (some ⟨b, j, none⟩) := hv 32 (by omega)
            have v33 : vals 33 = .string ⟨Y.toArray⟩ := hv 33 (by omega)
            have v34 : vals 34 = .string ⟨Z34.toArray⟩ := hv 34 (by omega)
            have v35 : vals 35 = .string ⟨Z35.toArray⟩ := hv 35 (by omega)
            have v37 : vals 37 = .int .i64 3 := hv 37 (by omega)
            have v38 : vals 38 = Value.int IntKind.i64 0 := hv 38 (by omega)
            have x36 := hv 36 (by omega); simp only [lookS] at x36
            simp only [List.take_succ_cons, List.take_zero, List.drop_succ_cons, List.drop_zero, List.drop_nil, List.take_nil, fillAll, Nat.zero_add, Nat.reduceAdd]
            rw [v0, v1, v2, v3, v4, v5, v6, v7, v8, v9, v10, v11, v12, v13, v14, v15, v16, v17, v18, v19, v20, v21, v22, v23, v24, v25, v26, v27, v28, v29, v30, v31, v32, v33, v34, v35, v37, v38]
            clear hv v0 v1 v2 v3 v4 v5 v6 v7 v8 v9 v10 v11 v12 v13 v14 v15 v16 v17 v18 v19 v20 v21 v22 v23 v24 v25 v26 v27 v28 v29 v30 v31 v32 v33 v34 v35 v37 v38
            try simp only [put_lit, List.setIfInBounds_toArray, List.set_cons_succ, List.set_cons_zero]
            clear HS3
            obtain ⟨b3, c3, e36, hb36, hh36, HS3⟩ := x36
            rw [e36]
            replace H := H.gainStr hbw hb36 hh36
            simp only [nrl] at H
            clear hcx hcy hb36 hh36 e36 hbw
            go_wp2_with (first | (first | ((with_reducible refine gT ?_); (first | ((first | refine aS H ?_ | refine aW H ?_ | refine aO H ?_ | refine aT H ?_); clear H; intro w H; (try simp only [nrm, nrl, Value.cells] at H)) | (refine aN H ?_; clear H; intro w H; (try simp only [nrm, nrl, Value.cells] at H); (try simp only [setSeg, nrl] at H)))) | ((with_reducible refine gL ?_); (first | refine aV H ?_ | refine aL H ?_ | refine aG H ?_ | refine aD H ?_)) | ((with_reducible refine gX ?_); ((first | refine bS H ?_ | refine bB H ?_); clear H; intro b w H; (try simp only [nrm, nrl, Value.cells] at H))) | ((with_reducible refine gA ?_); (refine bA H ?_; clear H; intro b w H; (try simp only [nrm, nrl, Value.cells] at H))) | ((with_reducible refine gZ ?_); refine aZ ?_) | ((with_reducible refine gI ?_); refine aI ?_) | ((with_reducible refine gC ?_); refine aC ?_) | ((with_reducible refine gF ?_); refine aF ?_) | ((with_reducible refine gU ?_); refine aU ?_) | ((with_reducible refine gE ?_); refine aE ?_) | ((with_reducible refine gQ ?_); refine aQ ?_)))
            go_loopw [61] (fun k w2 => ∃ m : Nat, k = .int .i64 m ∧ m ≤ 3 ∧ Hold w0 w2 [.blk b cs 9, .blk b3 c3 9]) (fun k _ => 4 - (intOf k).toNat)
            case atStart => exact ⟨0, rfl, by omega, H⟩
            case round =>
              clear H
              obtain ⟨m, rfl, hm, H⟩ := hrel
              by_cases hjlt : m < 3
              · have dm : decide ((m : Int) < 3) = true := by simp; omega
                obtain ⟨Z, hZ, hZl⟩ := HS3 m hjlt
                have hcell := (H.cell (.succ .zero) m).trans hZ
                clear hZ
                go_wp2_with (first | ((with_reducible show wpList _ _ _ ({ op := Op.indexAddr .., .. } :: _) _ _); refine own_pure (by first | rfl | exact wanted_g rfl (yielded_of rfl (by first | rfl | (simp only [put_lit, put_no, List.setIfInBounds_toArray, List.set_cons_succ, List.set_cons_zero, ev_tmp, ev_const, ev_glob, ev_func, List.getD_cons_succ, List.getD_cons_zero]; rfl)))) (idx1_run Tryz.underlying23 (fun W => by kernel_rfl) rfl (by first | (simp only [put_lit, put_no, List.setIfInBounds_toArray, List.set_cons_succ, List.set_cons_zero, ev_tmp, ev_const, ev_glob, ev_func, List.getD_cons_succ, List.getD_cons_zero]; done) | (simp only [put_lit, put_no, List.setIfInBounds_toArray, List.set_cons_succ, List.set_cons_zero, ev_tmp, ev_const, ev_glob, ev_func, List.getD_cons_succ, List.getD_cons_zero]; rfl)) (by first | (simp only [put_lit, put_no, List.setIfInBounds_toArray, List.set_cons_succ, List.set_cons_zero, ev_tmp, ev_const, ev_glob, ev_func, List.getD_cons_succ, List.getD_cons_zero]; done) | (simp only [put_lit, put_no, List.setIfInBounds_toArray, List.set_cons_succ, List.set_cons_zero, ev_tmp, ev_const, ev_glob, ev_func, List.getD_cons_succ, List.getD_cons_zero]; rfl)) hjlt) ?_) | ((with_reducible show wpList _ _ _ ({ op := Op.load 9 .., .. } :: _) _ _); refine own_pure (by first | rfl | exact wanted_g rfl (yielded_of rfl (by first | rfl | (simp only [put_lit, put_no, List.setIfInBounds_toArray, List.set_cons_succ, List.set_cons_zero, ev_tmp, ev_const, ev_glob, ev_func, List.getD_cons_succ, List.getD_cons_zero]; rfl)))) (load_run rfl one_str (by first | (simp only [put_lit, put_no, List.setIfInBounds_toArray, List.set_cons_succ, List.set_cons_zero, ev_tmp, ev_const, ev_glob, ev_func, List.getD_cons_succ, List.getD_cons_zero]; done) | (simp only [put_lit, put_no, List.setIfInBounds_toArray, List.set_cons_succ, List.set_cons_zero, ev_tmp, ev_const, ev_glob, ev_func, List.getD_cons_succ, List.getD_cons_zero]; rfl)) hcell) ?_) | (first | ((with_reducible refine gT ?_); (first | ((first | refine aS H ?_ | refine aW H ?_ | refine aO H ?_ | refine aT H ?_); clear H; intro w H; (try simp only [nrm, nrl, Value.cells] at H)) | (refine aN H ?_; clear H; intro w H; (try simp only [nrm, nrl, Value.cells] at H); (try simp only [setSeg, nrl] at H)))) | ((with_reducible refine gL ?_); (first | refine aV H ?_ | refine aL H ?_ | refine aG H ?_ | refine aD H ?_)) | ((with_reducible refine gX ?_); ((first | refine bS H ?_ | refine bB H ?_); clear H; intro b w H; (try simp only [nrm, nrl, Value.cells] at H))) | ((with_reducible refine gA ?_); (refine bA H ?_; clear H; intro b w H; (try simp only [nrm, nrl, Value.cells] at H))) | ((with_reducible refine gZ ?_); refine aZ ?_) | ((with_reducible refine gI ?_); refine aI ?_) | ((with_reducible refine gC ?_); refine aC ?_) | ((with_reducible refine gF ?_); refine aF ?_) | ((with_reducible refine gU ?_); refine aU ?_) | ((with_reducible refine gE ?_); refine aE ?_) | ((with_reducible refine gQ ?_); refine aQ ?_)) | (go_at_call 4; (with_reducible refine ch (hT _ _ H.below) H ?_); clear H; intro w H))
                go_roundw
                case rel => exact ⟨m + 1, rfl, by omega, H⟩
                case measure => simp [intOf]; omega
              · have dm : decide ((m : Int) < 3) = false := by simp; omega
                replace H := H.take 1
                go_wp2_with (first | (first | ((with_reducible refine gT ?_); (first | ((first | refine aS H ?_ | refine aW H ?_ | refine aO H ?_ | refine aT H ?_); clear H; intro w H; (try simp only [nrm, nrl, Value.cells] at H)) | (refine aN H ?_; clear H; intro w H; (try simp only [nrm, nrl, Value.cells] at H); (try simp only [setSeg, nrl] at H)))) | ((with_reducible refine gL ?_); (first | refine aV H ?_ | refine aL H ?_ | refine aG H ?_ | refine aD H ?_)) | ((with_reducible refine gX ?_); ((first | refine bS H ?_ | refine bB H ?_); clear H; intro b w H; (try simp only [nrm, nrl, Value.cells] at H))) | ((with_reducible refine gA ?_); (refine bA H ?_; clear H; intro b w H; (try simp only [nrm, nrl, Value.cells] at H))) | ((with_reducible refine gZ ?_); refine aZ ?_) | ((with_reducible refine gI ?_); refine aI ?_) | ((with_reducible refine gC ?_); refine aC ?_) | ((with_reducible refine gF ?_); refine aF ?_) | ((with_reducible refine gU ?_); refine aU ?_) | ((with_reducible refine gE ?_); refine aE ?_) | ((with_reducible refine gQ ?_); refine aQ ?_)))
                go_roundw
                case rel => exact ⟨j + 1, rfl, by omega, H⟩
                case measure => simp [intOf]; omega
        · have dj : decide ((j : Int) < 10) = false := by simp; omega
          go_wp2_with (first | (first | ((with_reducible refine gT ?_); (first | ((first | refine aS H ?_ | refine aW H ?_ | refine aO H ?_ | refine aT H ?_); clear H; intro w H; (try simp only [nrm, nrl, Value.cells] at H)) | (refine aN H ?_; clear H; intro w H; (try simp only [nrm, nrl, Value.cells] at H); (try simp only [setSeg, nrl] at H)))) | ((with_reducible refine gL ?_); (first | refine aV H ?_ | refine aL H ?_ | refine aG H ?_ | refine aD H ?_)) | ((with_reducible refine gX ?_); ((first | refine bS H ?_ | refine bB H ?_); clear H; intro b w H; (try simp only [nrm, nrl, Value.cells] at H))) | ((with_reducible refine gA ?_); (refine bA H ?_; clear H; intro b w H; (try simp only [nrm, nrl, Value.cells] at H))) | ((with_reducible refine gZ ?_); refine aZ ?_) | ((with_reducible refine gI ?_); refine aI ?_) | ((with_reducible refine gC ?_); refine aC ?_) | ((with_reducible refine gF ?_); refine aF ?_) | ((with_reducible refine gU ?_); refine aU ?_) | ((with_reducible refine gE ?_); refine aE ?_) | ((with_reducible refine gQ ?_); refine aQ ?_)))
          go_roundw
          case rel => exact ⟨i + 1, rfl, by omega, H⟩
          case measure => simp [intOf]; omega
    · have di : decide ((i : Int) < 10) = false := by simp; omega
      replace H := H.take 0
      clear HS
      go_wp2_with (first | (first | ((with_reducible refine gT ?_); (first | ((first | refine aS H ?_ | refine aW H ?_ | refine aO H ?_ | refine aT H ?_); clear H; intro w H; (try simp only [nrm, nrl, Value.cells] at H)) | (refine aN H ?_; clear H; intro w H; (try simp only [nrm, nrl, Value.cells] at H); (try simp only [setSeg, nrl] at H)))) | ((with_reducible refine gL ?_); (first | refine aV H ?_ | refine aL H ?_ | refine aG H ?_ | refine aD H ?_)) | ((with_reducible refine gX ?_); ((first | refine bS H ?_ | refine bB H ?_); clear H; intro b w H; (try simp only [nrm, nrl, Value.cells] at H))) | ((with_reducible refine gA ?_); (refine bA H ?_; clear H; intro b w H; (try simp only [nrm, nrl, Value.cells] at H))) | ((with_reducible refine gZ ?_); refine aZ ?_) | ((with_reducible refine gI ?_); refine aI ?_) | ((with_reducible refine gC ?_); refine aC ?_) | ((with_reducible refine gF ?_); refine aF ?_) | ((with_reducible refine gU ?_); refine aU ?_) | ((with_reducible refine gE ?_); refine aE ?_) | ((with_reducible refine gQ ?_); refine aQ ?_)))
      go_loopw [6] (fun k w2 => ∃ n : Nat, k = .int .i64 n ∧ n ≤ 7776 ∧ Hold w0 w2 []) (fun k _ => 7777 - (intOf k).toNat)
      case atStart => exact ⟨0, rfl, by omega, H⟩
      case round =>
        clear H
        obtain ⟨n, rfl, hn, H⟩ := hrel
        by_cases hnt : n < 7776
        · have dn : decide ((n : Int) < 7776) = true := by simp; omega
          go_wp2_with (first | (first | ((with_reducible refine gT ?_); (first | ((first | refine aS H ?_ | refine aW H ?_ | refine aO H ?_ | refine aT H ?_); clear H; intro w H; (try simp only [nrm, nrl, Value.cells] at H)) | (refine aN H ?_; clear H; intro w H; (try simp only [nrm, nrl, Value.cells] at H); (try simp only [setSeg, nrl] at H)))) | ((with_reducible refine gL ?_); (first | refine aV H ?_ | refine aL H ?_ | refine aG H ?_ | refine aD H ?_)) | ((with_reducible refine gX ?_); ((first | refine bS H ?_ | refine bB H ?_); clear H; intro b w H; (try simp only [nrm, nrl, Value.cells] at H))) | ((with_reducible refine gA ?_); (refine bA H ?_; clear H; intro b w H; (try simp only [nrm, nrl, Value.cells] at H))) | ((with_reducible refine gZ ?_); refine aZ ?_) | ((with_reducible refine gI ?_); refine aI ?_) | ((with_reducible refine gC ?_); refine aC ?_) | ((with_reducible refine gF ?_); refine aF ?_) | ((with_reducible refine gU ?_); refine aU ?_) | ((with_reducible refine gE ?_); refine aE ?_) | ((with_reducible refine gQ ?_); refine aQ ?_)))
          go_loopw [7, 8] (fun s k w3 => ∃ (S : Str) (m : Nat), s = .string ⟨S.toArray⟩ ∧ k = .int .i64 m ∧ S.length + m ≤ 7780 ∧ Hold w0 w3 []) (fun _ k _ => (intOf k).toNat)
          case atStart => exact ⟨[40, 63], n, rfl, rfl, by simp only [List.length_cons, List.length_nil]; omega, H⟩
          case round =>
            clear H
            obtain ⟨S, m, rfl, rfl, hm, H⟩ := hrel
            by_cases hm0 : 0 < m
            · have dm : decide ((0 : Int) < (m : Int)) = true := by simp; omega
              have hq : (m : Int) / 6 = ((m / 6 : Nat) : Int) := by omega
              have HQ := Lib.hid hq; clear hq
              have hr6 : m % 6 < 6 := Nat.mod_lt _ (by omega)
              go_wp2_with (first | ((with_reducible show wpList _ _ _ ({ op := Op.buildSlice .., .. } :: _) _ _); refine own_strs6 1 (by first | rfl | exact wanted_g rfl (yielded_of rfl (by first | rfl | (simp only [put_lit, put_no, List.setIfInBounds_toArray, List.set_cons_succ, List.set_cons_zero, ev_tmp, ev_const, ev_glob, ev_func, List.getD_cons_succ, List.getD_cons_zero]; rfl)))) rfl H ⟨_, rfl, (by first | omega | (simp only [List.length_cons, List.length_nil]; omega))⟩ ⟨_, rfl, (by first | omega | (simp only [List.length_cons, List.length_nil]; omega))⟩ ⟨_, rfl, (by first | omega | (simp only [List.length_cons, List.length_nil]; omega))⟩ ⟨_, rfl, (by first | omega | (simp only [List.length_cons, List.length_nil]; omega))⟩ ⟨_, rfl, (by first | omega | (simp only [List.length_cons, List.length_nil]; omega))⟩ ⟨_, rfl, (by first | omega | (simp only [List.length_cons, List.length_nil]; omega))⟩ ?_; clear H; intro b cs w HS H; (try simp only [nrl] at H)) | ((with_reducible show wpList _ _ _ ({ op := Op.indexAddr .., .. } :: _) _ _); refine own_pure (by first | rfl | exact wanted_g rfl (yielded_of rfl (by first | rfl | (simp only [put_lit, put_no, List.setIfInBounds_toArray, List.set_cons_succ, List.set_cons_zero, ev_tmp, ev_const, ev_glob, ev_func, List.getD_cons_succ, List.getD_cons_zero]; rfl)))) (idx1v_run (i := m % 6) Tryz.underlying23 (fun W => by kernel_rfl) rfl (by first | (simp only [put_lit, put_no, List.setIfInBounds_toArray, List.set_cons_succ, List.set_cons_zero, ev_tmp, ev_const, ev_glob, ev_func, List.getD_cons_succ, List.getD_cons_zero]; done) | (simp only [put_lit, put_no, List.setIfInBounds_toArray, List.set_cons_succ, List.set_cons_zero, ev_tmp, ev_const, ev_glob, ev_func, List.getD_cons_succ, List.getD_cons_zero]; rfl)) (by first | (simp only [put_lit, put_no, List.setIfInBounds_toArray, List.set_cons_succ, List.set_cons_zero, ev_tmp, ev_const, ev_glob, ev_func, List.getD_cons_succ, List.getD_cons_zero]; done) | (simp only [put_lit, put_no, List.setIfInBounds_toArray, List.set_cons_succ, List.set_cons_zero, ev_tmp, ev_const, ev_glob, ev_func, List.getD_cons_succ, List.getD_cons_zero]; rfl)) (by first | rfl | omega | (simp; omega)) hr6) ?_) | ((with_reducible show wpList _ _ _ ({ op := Op.load 9 .., .. } :: _) _ _); obtain ⟨Z, hZ, hZl⟩ := HS _ hr6; have hcell := (H.cell .zero _).trans hZ; refine own_pure (by first | rfl | exact wanted_g rfl (yielded_of rfl (by first | rfl | (simp only [put_lit, put_no, List.setIfInBounds_toArray, List.set_cons_succ, List.set_cons_zero, ev_tmp, ev_const, ev_glob, ev_func, List.getD_cons_succ, List.getD_cons_zero]; rfl)))) (load_run rfl one_str (by first | (simp only [put_lit, put_no, List.setIfInBounds_toArray, List.set_cons_succ, List.set_cons_zero, ev_tmp, ev_const, ev_glob, ev_func, List.getD_cons_succ, List.getD_cons_zero]; done) | (simp only [put_lit, put_no, List.setIfInBounds_toArray, List.set_cons_succ, List.set_cons_zero, ev_tmp, ev_const, ev_glob, ev_func, List.getD_cons_succ, List.getD_cons_zero]; rfl)) hcell) ?_; clear hcell hZ) | (first | ((with_reducible refine gT ?_); (first | ((first | refine aS H ?_ | refine aW H ?_ | refine aO H ?_ | refine aT H ?_); clear H; intro w H; (try simp only [nrm, nrl, Value.cells] at H)) | (refine aN H ?_; clear H; intro w H; (try simp only [nrm, nrl, Value.cells] at H); (try simp only [setSeg, nrl] at H)))) | ((with_reducible refine gL ?_); (first | refine aV H ?_ | refine aL H ?_ | refine aG H ?_ | refine aD H ?_)) | ((with_reducible refine gX ?_); ((first | refine bS H ?_ | refine bB H ?_); clear H; intro b w H; (try simp only [nrm, nrl, Value.cells] at H))) | ((with_reducible refine gA ?_); (refine bA H ?_; clear H; intro b w H; (try simp only [nrm, nrl, Value.cells] at H))) | ((with_reducible refine gZ ?_); refine aZ ?_) | ((with_reducible refine gI ?_); refine aI ?_) | ((with_reducible refine gC ?_); refine aC ?_) | ((with_reducible refine gF ?_); refine aF ?_) | ((with_reducible refine gU ?_); refine aU ?_) | ((with_reducible refine gE ?_); refine aE ?_) | ((with_reducible refine gQ ?_); refine aQ ?_)))
              replace H := H.take 0
              go_roundw
              case rel => exact ⟨S ++ Z, m / 6, congrArg Value.string (by apply ByteArray.ext; simp), by rw [HQ.out], by simp only [List.length_append]; omega, H⟩
              case measure => simp [intOf]; omega
            · have dm : decide ((0 : Int) < (m : Int)) = false := by simp; omega
              go_wp2_with (first | (first | ((with_reducible refine gT ?_); (first | ((first | refine aS H ?_ | refine aW H ?_ | refine aO H ?_ | refine aT H ?_); clear H; intro w H; (try simp only [nrm, nrl, Value.cells] at H)) | (refine aN H ?_; clear H; intro w H; (try simp only [nrm, nrl, Value.cells] at H); (try simp only [setSeg, nrl] at H)))) | ((with_reducible refine gL ?_); (first | refine aV H ?_ | refine aL H ?_ | refine aG H ?_ | refine aD H ?_)) | ((with_reducible refine gX ?_); ((first | refine bS H ?_ | refine bB H ?_); clear H; intro b w H; (try simp only [nrm, nrl, Value.cells] at H))) | ((with_reducible refine gA ?_); (refine bA H ?_; clear H; intro b w H; (try simp only [nrm, nrl, Value.cells] at H))) | ((with_reducible refine gZ ?_); refine aZ ?_) | ((with_reducible refine gI ?_); refine aI ?_) | ((with_reducible refine gC ?_); refine aC ?_) | ((with_reducible refine gF ?_); refine aF ?_) | ((with_reducible refine gU ?_); refine aU ?_) | ((with_reducible refine gE ?_); refine aE ?_) | ((with_reducible refine gQ ?_); refine aQ ?_)) | (go_at_call 4; (with_reducible refine ch (hT _ _ H.below) H ?_); clear H; intro w H))
              go_roundw
              case rel => exact ⟨n + 1, rfl, by omega, H⟩
              case measure => simp [intOf]; omega
        · have dn : decide ((n : Int) < 7776) = false := by simp; omega
          go_wp2_with (first | (first | ((with_reducible refine gT ?_); (first | ((first | refine aS H ?_ | refine aW H ?_ | refine aO H ?_ | refine aT H ?_); clear H; intro w H; (try simp only [nrm, nrl, Value.cells] at H)) | (refine aN H ?_; clear H; intro w H; (try simp only [nrm, nrl, Value.cells] at H); (try simp only [setSeg, nrl] at H)))) | ((with_reducible refine gL ?_); (first | refine aV H ?_ | refine aL H ?_ | refine aG H ?_ | refine aD H ?_)) | ((with_reducible refine gX ?_); ((first | refine bS H ?_ | refine bB H ?_); clear H; intro b w H; (try simp only [nrm, nrl, Value.cells] at H))) | ((with_reducible refine gA ?_); (refine bA H ?_; clear H; intro b w H; (try simp only [nrm, nrl, Value.cells] at H))) | ((with_reducible refine gZ ?_); refine aZ ?_) | ((with_reducible refine gI ?_); refine aI ?_) | ((with_reducible refine gC ?_); refine aC ?_) | ((with_reducible refine gF ?_); refine aF ?_) | ((with_reducible refine gU ?_); refine aU ?_) | ((with_reducible refine gE ?_); refine aE ?_) | ((with_reducible refine gQ ?_); refine aQ ?_)))
          go_loopw [9] (fun k w2 => ∃ m : Nat, k = .int .i64 m ∧ 998 ≤ m ∧ m ≤ 1003 ∧ Hold w0 w2 []) (fun k _ => 1004 - (intOf k).toNat)
          case atStart => exact ⟨998, rfl, by omega, by omega, H⟩
          case round =>
            clear H
            obtain ⟨m, rfl, hm1, hm2, H⟩ := hrel
            by_cases hmt : m < 1003
            · have dm : decide ((m : Int) < 1003) = true := by simp; omega
              have hr := fun (c : UInt8) w => sh_repeat c m (by omega) w
              go_wp2_with (first | (first | ((with_reducible refine gT ?_); (first | ((first | refine aS H ?_ | refine aW H ?_ | refine aO H ?_ | refine aT H ?_); clear H; intro w H; (try simp only [nrm, nrl, Value.cells] at H)) | (refine aN H ?_; clear H; intro w H; (try simp only [nrm, nrl, Value.cells] at H); (try simp only [setSeg, nrl] at H)))) | ((with_reducible refine gL ?_); (first | refine aV H ?_ | refine aL H ?_ | refine aG H ?_ | refine aD H ?_)) | ((with_reducible refine gX ?_); ((first | refine bS H ?_ | refine bB H ?_); clear H; intro b w H; (try simp only [nrm, nrl, Value.cells] at H))) | ((with_reducible refine gA ?_); (refine bA H ?_; clear H; intro b w H; (try simp only [nrm, nrl, Value.cells] at H))) | ((with_reducible refine gZ ?_); refine aZ ?_) | ((with_reducible refine gI ?_); refine aI ?_) | ((with_reducible refine gC ?_); refine aC ?_) | ((with_reducible refine gF ?_); refine aF ?_) | ((with_reducible refine gU ?_); refine aU ?_) | ((with_reducible refine gE ?_); refine aE ?_) | ((with_reducible refine gQ ?_); refine aQ ?_)) | (go_at_call 15; (with_reducible refine ch (hr _ _) H ?_); clear H; intro w H) | (go_at_call 4; (with_reducible refine ch (hT _ _ H.below) H ?_); clear H; intro w H))
              go_roundw
              case rel => exact ⟨m + 1, rfl, by omega, by omega, H⟩
              case measure => simp [intOf]; omega
            · have dm : decide ((m : Int) < 1003) = false := by simp; omega
              go_wp2_with (first | (first | ((with_reducible refine gT ?_); (first | ((first | refine aS H ?_ | refine aW H ?_ | refine aO H ?_ | refine aT H ?_); clear H; intro w H; (try simp only [nrm, nrl, Value.cells] at H)) | (refine aN H ?_; clear H; intro w H; (try simp only [nrm, nrl, Value.cells] at H); (try simp only [setSeg, nrl] at H)))) | ((with_reducible refine gL ?_); (first | refine aV H ?_ | refine aL H ?_ | refine aG H ?_ | refine aD H ?_)) | ((with_reducible refine gX ?_); ((first | refine bS H ?_ | refine bB H ?_); clear H; intro b w H; (try simp only [nrm, nrl, Value.cells] at H))) | ((with_reducible refine gA ?_); (refine bA H ?_; clear H; intro b w H; (try simp only [nrm, nrl, Value.cells] at H))) | ((with_reducible refine gZ ?_); refine aZ ?_) | ((with_reducible refine gI ?_); refine aI ?_) | ((with_reducible refine gC ?_); refine aC ?_) | ((with_reducible refine gF ?_); refine aF ?_) | ((with_reducible refine gU ?_); refine aU ?_) | ((with_reducible refine gE ?_); refine aE ?_) | ((with_reducible refine gQ ?_); refine aQ ?_)))
              go_ret
              exact ⟨rfl, H.below⟩
end Go.Proofs.YtllmgmfihijejaaGreatDoor
/-
  The walk of mudlarklaw09: LexSigns.
-/
namespace Go.Proofs.YtllmgmfihijejaaGreatDoor
open Go.RowKit Go.Shelf Go.MapKept
attribute [local go_sem] Oper.semAt_some
set_option linter.unusedSimpArgs false

set_option maxRecDepth 100000 in
set_option maxHeartbeats 16000000 in
theorem law_LexSigns (w0 : World) (hz : MaxL w0) : Calls Tryz.prog 3 #[] w0 fun e w' => e = .returned (.bool true) ∧ Below w0.heap.size w0 w' := by
  have H := Hold.start w0
  have hT := fun (L : Str) w (hb : Below w0.heap.size w0 w) => law_LexTells L w (hz.block (hb.block 0 hz.lt))
  have hx0 := fun (L : Str) w (hb : Below w0.heap.size w0 w) => lx_Words L w (hz.block (hb.block 0 hz.lt))
  have hN := fun w (hb : Below w0.heap.size w0 w) => law_names w (hz.block (hb.block 0 hz.lt))
  have hR := fun w (hb : Below w0.heap.size w0 w) => law_repeats w (hz.block (hb.block 0 hz.lt))
  have hA := fun w (hb : Below w0.heap.size w0 w) => law_awake w (hz.block (hb.block 0 hz.lt))
  clear hz
  go_enter Tryz.func3, Tryz.ntmps3
  go_wp2_with (first | (first | ((with_reducible refine gT ?_); (first | ((first | refine aS H ?_ | refine aW H ?_ | refine aO H ?_ | refine aT H ?_); clear H; intro w H; (try simp only [nrm, nrl, Value.cells] at H)) | (refine aN H ?_; clear H; intro w H; (try simp only [nrm, nrl, Value.cells] at H); (try simp only [setSeg, nrl] at H)))) | ((with_reducible refine gL ?_); (first | refine aV H ?_ | refine aL H ?_ | refine aG H ?_ | refine aD H ?_)) | ((with_reducible refine gX ?_); ((first | refine bS H ?_ | refine bB H ?_); clear H; intro b w H; (try simp only [nrm, nrl, Value.cells] at H))) | ((with_reducible refine gA ?_); (refine bA H ?_; clear H; intro b w H; (try simp only [nrm, nrl, Value.cells] at H))) | ((with_reducible refine gZ ?_); refine aZ ?_) | ((with_reducible refine gI ?_); refine aI ?_) | ((with_reducible refine gC ?_); refine aC ?_) | ((with_reducible refine gF ?_); refine aF ?_) | ((with_reducible refine gU ?_); refine aU ?_) | ((with_reducible refine gE ?_); refine aE ?_) | ((with_reducible refine gQ ?_); refine aQ ?_)))
  go_loopw [1] (fun k wr => ∃ c : Nat, k = .int .i64 c ∧ c ≤ 256 ∧ Hold w0 wr []) (fun k _ => 257 - (intOf k).toNat)
  case atStart => exact ⟨0, rfl, by omega, H⟩
  case round =>
    clear H
    obtain ⟨c, rfl, hc, H⟩ := hrel
    by_cases hlt : c < 256
    · have di : decide ((c : Int) < 256) = true := by simp; omega
      have hw8 : IntKind.wrap .u8 (c : Int) = (c : Int) := by rw [IntKind.wrap_u8]; omega
      go_wp2_with (first | ((with_reducible show wpList _ _ _ ({ op := Op.buildSlice 23 .., .. } :: _) _ _); refine own_strs18 20 (by first | rfl | exact wanted_g rfl (yielded_of rfl (by first | rfl | (simp only [put_lit, put_no, List.setIfInBounds_toArray, List.set_cons_succ, List.set_cons_zero, ev_tmp, ev_const, ev_glob, ev_func, List.getD_cons_succ, List.getD_cons_zero]; rfl)))) rfl H ⟨_, rfl, (by first | omega | (simp only [List.length_cons, List.length_nil]; omega))⟩ ⟨_, rfl, (by first | omega | (simp only [List.length_cons, List.length_nil]; omega))⟩ ⟨_, rfl, (by first | omega | (simp only [List.length_cons, List.length_nil]; omega))⟩ ⟨_, rfl, (by first | omega | (simp only [List.length_cons, List.length_nil]; omega))⟩ ⟨_, rfl, (by first | omega | (simp only [List.length_cons, List.length_nil]; omega))⟩ ⟨_, rfl, (by first | omega | (simp only [List.length_cons, List.length_nil]; omega))⟩ ⟨_, rfl, (by first | omega | (simp only [List.length_cons, List.length_nil]; omega))⟩ ⟨_, rfl, (by first | omega | (simp only [List.length_cons, List.length_nil]; omega))⟩ ⟨_, rfl, (by first | omega | (simp only [List.length_cons, List.length_nil]; omega))⟩ ⟨_, rfl, (by first | omega | (simp only [List.length_cons, List.length_nil]; omega))⟩ ⟨_, rfl, (by first | omega | (simp only [List.length_cons, List.length_nil]; omega))⟩ ⟨_, rfl, (by first | omega | (simp only [List.length_cons, List.length_nil]; omega))⟩ ⟨_, rfl, (by first | omega | (simp only [List.length_cons, List.length_nil]; omega))⟩ ⟨_, rfl, (by first | omega | (simp only [List.length_cons, List.length_nil]; omega))⟩ ⟨_, rfl, (by first | omega | (simp only [List.length_cons, List.length_nil]; omega))⟩ ⟨_, rfl, (by first | omega | (simp only [List.length_cons, List.length_nil]; omega))⟩ ⟨_, rfl, (by first | omega | (simp only [List.length_cons, List.length_nil]; omega))⟩ ⟨_, rfl, (by first | omega | (simp only [List.length_cons, List.length_nil]; omega))⟩ ?_; clear H; intro b cs w HS H; (try simp only [nrl] at H)) | ((with_reducible show wpList _ _ _ ({ op := Op.convert 22 .., .. } :: _) _ _); refine own_bytesStr (n := 1) (by first | rfl | exact wanted_g rfl (yielded_of rfl (by first | rfl | (simp only [put_lit, put_no, List.setIfInBounds_toArray, List.set_cons_succ, List.set_cons_zero, ev_tmp, ev_const, ev_glob, ev_func, List.getD_cons_succ, List.getD_cons_zero]; rfl)))) _ _ _ rfl Tryz.underlying22 Tryz.underlying5 H [(c : Int)] rfl .zero rfl (by simp [maxLen]) ?_; intro S hS0; (have hSl : S.length ≤ 1 := by omega); clear hS0) | ((with_reducible show wpList _ _ _ ({ op := Op.binOp BinOp.add 9 .., .. } :: _) _ _); refine own_sadd (by first | rfl | exact wanted_g rfl (yielded_of rfl (by first | rfl | (simp only [put_lit, put_no, List.setIfInBounds_toArray, List.set_cons_succ, List.set_cons_zero, ev_tmp, ev_const, ev_glob, ev_func, List.getD_cons_succ, List.getD_cons_zero]; rfl)))) rfl rfl rfl (by first | omega | (simp only [List.length_cons, List.length_nil]; omega)) ?_; intro V hV0; (try simp only [List.length_cons, List.length_nil] at hV0); (first | (have hV : V.length ≤ 10 := by omega) | (have hV : V.length ≤ 20 := by omega)); clear hV0) | ((with_reducible show @wpList _ _ _ ({ dst := _, op := Op.buildSlice _ _ _, type := _, pos := _, after := _, guard := _ } :: _) _ _); refine own_build (by first | rfl | exact wanted_g rfl (yielded_of rfl (by first | rfl | (simp only [put_lit, put_no, List.setIfInBounds_toArray, List.set_cons_succ, List.set_cons_zero, ev_tmp, ev_const, ev_glob, ev_func, List.getD_cons_succ, List.getD_cons_zero]; rfl)))) _ _ _ rfl H (#[.int .u8 (c : Int)]) 5 (by intro W; simp only [List.map_toArray, List.map_cons, List.map_nil]; (try simp only [put_lit, put_no, List.setIfInBounds_toArray, List.set_cons_succ, List.set_cons_zero, ev_tmp, ev_const, ev_glob, ev_func, List.getD_cons_succ, List.getD_cons_zero]); (try unfold setV); simp [go_sem] <;> rfl) ?_; clear H; intro b w H; (try simp only [nrm, nrl, Value.cells] at H)) | (first | ((with_reducible refine gT ?_); (first | ((first | refine aS H ?_ | refine aW H ?_ | refine aO H ?_ | refine aT H ?_); clear H; intro w H; (try simp only [nrm, nrl, Value.cells] at H)) | (refine aN H ?_; clear H; intro w H; (try simp only [nrm, nrl, Value.cells] at H); (try simp only [setSeg, nrl] at H)))) | ((with_reducible refine gL ?_); (first | refine aV H ?_ | refine aL H ?_ | refine aG H ?_ | refine aD H ?_)) | ((with_reducible refine gX ?_); ((first | refine bS H ?_ | refine bB H ?_); clear H; intro b w H; (try simp only [nrm, nrl, Value.cells] at H))) | ((with_reducible refine gA ?_); (refine bA H ?_; clear H; intro b w H; (try simp only [nrm, nrl, Value.cells] at H))) | ((with_reducible refine gZ ?_); refine aZ ?_) | ((with_reducible refine gI ?_); refine aI ?_) | ((with_reducible refine gC ?_); refine aC ?_) | ((with_reducible refine gF ?_); refine aF ?_) | ((with_reducible refine gU ?_); refine aU ?_) | ((with_reducible refine gE ?_); refine aE ?_) | ((with_reducible refine gQ ?_); refine aQ ?_)))
      clear hw8
      replace H : Hold w0 w [.blk b cs 9] := H.perm (fun _ => 1) (fun i hi => by have e : i = 0 := (by simp at hi; omega); subst e; rfl) (fun i j hi hj hij => by simp at hi hj; omega)
      go_loopw [4] (fun k w2 => ∃ j : Nat, k = .int .i64 j ∧ j ≤ 18 ∧ Hold w0 w2 [.blk b cs 9]) (fun k _ => 19 - (intOf k).toNat)
      case atStart => exact ⟨0, rfl, by omega, H⟩
      case round =>
        clear H
        obtain ⟨j, rfl, hj, H⟩ := hrel
        by_cases hjlt : j < 18
        · have dj : decide ((j : Int) < 18) = true := by simp; omega
          obtain ⟨Z, hZ, hZl⟩ := HS j hjlt
          have hcell := (H.cell .zero j).trans hZ
          clear hZ
          go_wp2_with (first | ((with_reducible show wpList _ _ _ ({ op := Op.indexAddr .., .. } :: _) _ _); refine own_pure (by first | rfl | exact wanted_g rfl (yielded_of rfl (by first | rfl | (simp only [put_lit, put_no, List.setIfInBounds_toArray, List.set_cons_succ, List.set_cons_zero, ev_tmp, ev_const, ev_glob, ev_func, List.getD_cons_succ, List.getD_cons_zero]; rfl)))) (idx1_run Tryz.underlying23 (fun W => by kernel_rfl) rfl (by first | (simp only [put_lit, put_no, List.setIfInBounds_toArray, List.set_cons_succ, List.set_cons_zero, ev_tmp, ev_const, ev_glob, ev_func, List.getD_cons_succ, List.getD_cons_zero]; done) | (simp only [put_lit, put_no, List.setIfInBounds_toArray, List.set_cons_succ, List.set_cons_zero, ev_tmp, ev_const, ev_glob, ev_func, List.getD_cons_succ, List.getD_cons_zero]; rfl)) (by first | (simp only [put_lit, put_no, List.setIfInBounds_toArray, List.set_cons_succ, List.set_cons_zero, ev_tmp, ev_const, ev_glob, ev_func, List.getD_cons_succ, List.getD_cons_zero]; done) | (simp only [put_lit, put_no, List.setIfInBounds_toArray, List.set_cons_succ, List.set_cons_zero, ev_tmp, ev_const, ev_glob, ev_func, List.getD_cons_succ, List.getD_cons_zero]; rfl)) hjlt) ?_) | ((with_reducible show wpList _ _ _ ({ op := Op.load 9 .., .. } :: _) _ _); refine own_pure (by first | rfl | exact wanted_g rfl (yielded_of rfl (by first | rfl | (simp only [put_lit, put_no, List.setIfInBounds_toArray, List.set_cons_succ, List.set_cons_zero, ev_tmp, ev_const, ev_glob, ev_func, List.getD_cons_succ, List.getD_cons_zero]; rfl)))) (load_run rfl one_str (by first | (simp only [put_lit, put_no, List.setIfInBounds_toArray, List.set_cons_succ, List.set_cons_zero, ev_tmp, ev_const, ev_glob, ev_func, List.getD_cons_succ, List.getD_cons_zero]; done) | (simp only [put_lit, put_no, List.setIfInBounds_toArray, List.set_cons_succ, List.set_cons_zero, ev_tmp, ev_const, ev_glob, ev_func, List.getD_cons_succ, List.getD_cons_zero]; rfl)) hcell) ?_) | (first | ((with_reducible refine gT ?_); (first | ((first | refine aS H ?_ | refine aW H ?_ | refine aO H ?_ | refine aT H ?_); clear H; intro w H; (try simp only [nrm, nrl, Value.cells] at H)) | (refine aN H ?_; clear H; intro w H; (try simp only [nrm, nrl, Value.cells] at H); (try simp only [setSeg, nrl] at H)))) | ((with_reducible refine gL ?_); (first | refine aV H ?_ | refine aL H ?_ | refine aG H ?_ | refine aD H ?_)) | ((with_reducible refine gX ?_); ((first | refine bS H ?_ | refine bB H ?_); clear H; intro b w H; (try simp only [nrm, nrl, Value.cells] at H))) | ((with_reducible refine gA ?_); (refine bA H ?_; clear H; intro b w H; (try simp only [nrm, nrl, Value.cells] at H))) | ((with_reducible refine gZ ?_); refine aZ ?_) | ((with_reducible refine gI ?_); refine aI ?_) | ((with_reducible refine gC ?_); refine aC ?_) | ((with_reducible refine gF ?_); refine aF ?_) | ((with_reducible refine gU ?_); refine aU ?_) | ((with_reducible refine gE ?_); refine aE ?_) | ((with_reducible refine gQ ?_); refine aQ ?_)) | (go_at_call 4; (with_reducible refine ch (hT _ _ H.below) H ?_); clear H; intro w H))
          go_roundw
          case rel => exact ⟨j + 1, rfl, by omega, H⟩
          case measure => simp [intOf]; omega
        · have dj : decide ((j : Int) < 18) = false := by simp; omega
          replace H := H.take 0
          go_wp2_with (first | (first | ((with_reducible refine gT ?_); (first | ((first | refine aS H ?_ | refine aW H ?_ | refine aO H ?_ | refine aT H ?_); clear H; intro w H; (try simp only [nrm, nrl, Value.cells] at H)) | (refine aN H ?_; clear H; intro w H; (try simp only [nrm, nrl, Value.cells] at H); (try simp only [setSeg, nrl] at H)))) | ((with_reducible refine gL ?_); (first | refine aV H ?_ | refine aL H ?_ | refine aG H ?_ | refine aD H ?_)) | ((with_reducible refine gX ?_); ((first | refine bS H ?_ | refine bB H ?_); clear H; intro b w H; (try simp only [nrm, nrl, Value.cells] at H))) | ((with_reducible refine gA ?_); (refine bA H ?_; clear H; intro b w H; (try simp only [nrm, nrl, Value.cells] at H))) | ((with_reducible refine gZ ?_); refine aZ ?_) | ((with_reducible refine gI ?_); refine aI ?_) | ((with_reducible refine gC ?_); refine aC ?_) | ((with_reducible refine gF ?_); refine aF ?_) | ((with_reducible refine gU ?_); refine aU ?_) | ((with_reducible refine gE ?_); refine aE ?_) | ((with_reducible refine gQ ?_); refine aQ ?_)))
          go_roundw
          case rel => exact ⟨c + 1, rfl, by omega, H⟩
          case measure => simp [intOf]; omega
    · have di : decide ((c : Int) < 256) = false := by simp; omega
      clear hT
      go_wp2_with (first | ((with_reducible show wpList _ _ _ ({ op := Op.buildSlice .., .. } :: _) _ _); refine own_strs16 1 (by first | rfl | exact wanted_g rfl (yielded_of rfl (by first | rfl | (simp only [put_lit, put_no, List.setIfInBounds_toArray, List.set_cons_succ, List.set_cons_zero, ev_tmp, ev_const, ev_glob, ev_func, List.getD_cons_succ, List.getD_cons_zero]; rfl)))) rfl H ⟨_, rfl, (by first | omega | (simp only [List.length_cons, List.length_nil]; omega))⟩ ⟨_, rfl, (by first | omega | (simp only [List.length_cons, List.length_nil]; omega))⟩ ⟨_, rfl, (by first | omega | (simp only [List.length_cons, List.length_nil]; omega))⟩ ⟨_, rfl, (by first | omega | (simp only [List.length_cons, List.length_nil]; omega))⟩ ⟨_, rfl, (by first | omega | (simp only [List.length_cons, List.length_nil]; omega))⟩ ⟨_, rfl, (by first | omega | (simp only [List.length_cons, List.length_nil]; omega))⟩ ⟨_, rfl, (by first | omega | (simp only [List.length_cons, List.length_nil]; omega))⟩ ⟨_, rfl, (by first | omega | (simp only [List.length_cons, List.length_nil]; omega))⟩ ⟨_, rfl, (by first | omega | (simp only [List.length_cons, List.length_nil]; omega))⟩ ⟨_, rfl, (by first | omega | (simp only [List.length_cons, List.length_nil]; omega))⟩ ⟨_, rfl, (by first | omega | (simp only [List.length_cons, List.length_nil]; omega))⟩ ⟨_, rfl, (by first | omega | (simp only [List.length_cons, List.length_nil]; omega))⟩ ⟨_, rfl, (by first | omega | (simp only [List.length_cons, List.length_nil]; omega))⟩ ⟨_, rfl, (by first | omega | (simp only [List.length_cons, List.length_nil]; omega))⟩ ⟨_, rfl, (by first | omega | (simp only [List.length_cons, List.length_nil]; omega))⟩ ⟨_, rfl, (by first | omega | (simp only [List.length_cons, List.length_nil]; omega))⟩ ?_; clear H; intro b cs w HS H; (try simp only [nrl] at H)) | (first | ((with_reducible refine gT ?_); (first | ((first | refine aS H ?_ | refine aW H ?_ | refine aO H ?_ | refine aT H ?_); clear H; intro w H; (try simp only [nrm, nrl, Value.cells] at H)) | (refine aN H ?_; clear H; intro w H; (try simp only [nrm, nrl, Value.cells] at H); (try simp only [setSeg, nrl] at H)))) | ((with_reducible refine gL ?_); (first | refine aV H ?_ | refine aL H ?_ | refine aG H ?_ | refine aD H ?_)) | ((with_reducible refine gX ?_); ((first | refine bS H ?_ | refine bB H ?_); clear H; intro b w H; (try simp only [nrm, nrl, Value.cells] at H))) | ((with_reducible refine gA ?_); (refine bA H ?_; clear H; intro b w H; (try simp only [nrm, nrl, Value.cells] at H))) | ((with_reducible refine gZ ?_); refine aZ ?_) | ((with_reducible refine gI ?_); refine aI ?_) | ((with_reducible refine gC ?_); refine aC ?_) | ((with_reducible refine gF ?_); refine aF ?_) | ((with_reducible refine gU ?_); refine aU ?_) | ((with_reducible refine gE ?_); refine aE ?_) | ((with_reducible refine gQ ?_); refine aQ ?_)))
      go_loopw [6] (fun k wr => ∃ n : Nat, k = .int .i64 n ∧ n ≤ 65536 ∧ Hold w0 wr [.blk b cs 9]) (fun k _ => 65537 - (intOf k).toNat)
      case atStart => exact ⟨0, rfl, by omega, H⟩
      case round =>
        clear H
        obtain ⟨n, rfl, hn, H⟩ := hrel
        by_cases hnt : n < 65536
        · have dn : decide ((n : Int) < 65536) = true := by simp; omega
          have m1 : n % 16 < 16 := Nat.mod_lt _ (by omega)
          have m2 : n / 16 % 16 < 16 := Nat.mod_lt _ (by omega)
          have m3 : n / 256 % 16 < 16 := Nat.mod_lt _ (by omega)
          have m4 : n / 4096 < 16 := by omega
          obtain ⟨X1, hX1, l1⟩ := HS _ m1
          obtain ⟨X2, hX2, l2⟩ := HS _ m2
          obtain ⟨X3, hX3, l3⟩ := HS _ m3
          obtain ⟨X4, hX4, l4⟩ := HS _ m4
          obtain ⟨Z11, hz11, lz11⟩ : ∃ Z : Str, Hid (Z = X1 ++ X2) ∧ Z.length ≤ 2 := ⟨_, Lib.hid rfl, by simp only [List.length_append]; omega⟩
          obtain ⟨Z18, hz18, lz18⟩ : ∃ Z : Str, Hid (Z = Z11 ++ X3) ∧ Z.length ≤ 3 := ⟨_, Lib.hid rfl, by simp only [List.length_append]; omega⟩
          obtain ⟨Z24, hz24, lz24⟩ : ∃ Z : Str, Hid (Z = Z18 ++ X4) ∧ Z.length ≤ 4 := ⟨_, Lib.hid rfl, by simp only [List.length_append]; omega⟩
          have k1 : ∀ W, Below wr.heap.size wr W → W.cell? ⟨b, n % 16, none⟩ = some (.string ⟨X1.toArray⟩) := fun W hb => ((H.call hb).cell .zero _).trans hX1
          have k2 : ∀ W, Below wr.heap.size wr W → W.cell? ⟨b, n / 16 % 16, none⟩ = some (.string ⟨X2.toArray⟩) := fun W hb => ((H.call hb).cell .zero _).trans hX2
          have k3 : ∀ W, Below wr.heap.size wr W → W.cell? ⟨b, n / 256 % 16, none⟩ = some (.string ⟨X3.toArray⟩) := fun W hb => ((H.call hb).cell .zero _).trans hX3
          have k4 : ∀ W, Below wr.heap.size wr W → W.cell? ⟨b, n / 4096, none⟩ = some (.string ⟨X4.toArray⟩) := fun W hb => ((H.call hb).cell .zero _).trans hX4
          clear hX1 hX2 hX3 hX4
          go_upto_region 15 with (first | (first | ((with_reducible refine gT ?_); (first | ((first | refine aS H ?_ | refine aW H ?_ | refine aO H ?_ | refine aT H ?_); clear H; intro w H; (try simp only [nrm, nrl, Value.cells] at H)) | (refine aN H ?_; clear H; intro w H; (try simp only [nrm, nrl, Value.cells] at H); (try simp only [setSeg, nrl] at H)))) | ((with_reducible refine gL ?_); (first | refine aV H ?_ | refine aL H ?_ | refine aG H ?_ | refine aD H ?_)) | ((with_reducible refine gX ?_); ((first | refine bS H ?_ | refine bB H ?_); clear H; intro b w H; (try simp only [nrm, nrl, Value.cells] at H))) | ((with_reducible refine gA ?_); (refine bA H ?_; clear H; intro b w H; (try simp only [nrm, nrl, Value.cells] at H))) | ((with_reducible refine gZ ?_); refine aZ ?_) | ((with_reducible refine gI ?_); refine aI ?_) | ((with_reducible refine gC ?_); refine aC ?_) | ((with_reducible refine gF ?_); refine aF ?_) | ((with_reducible refine gU ?_); refine aU ?_) | ((with_reducible refine gE ?_); refine aE ?_) | ((with_reducible refine gQ ?_); refine aQ ?_)))
          refine wp_region_spec 26 [fun v _ => v = .slice (some ⟨b, 0, none⟩) 16 16, fun v _ => v = .int .i64 (n : Int), fun v _ => v = .int .i64 ((n % 16 : Nat) : Int), fun v _ => v = .pointer (some ⟨b, n % 16, none⟩), fun v _ => v = .string ⟨X1.toArray⟩, fun v _ => v = .slice (some ⟨b, 0, none⟩) 16 16, fun v _ => v = .int .i64 (n : Int), fun v _ => v = .int .i64 ((n / 16 : Nat) : Int), fun v _ => v = .int .i64 ((n / 16 % 16 : Nat) : Int), fun v _ => v = .pointer (some ⟨b, n / 16 % 16, none⟩), fun v _ => v = .string ⟨X2.toArray⟩, fun v _ => v = .string ⟨Z11.toArray⟩, fun v _ => v = .slice (some ⟨b, 0, none⟩) 16 16, fun v _ => v = .int .i64 (n : Int), fun v _ => v = .int .i64 ((n / 256 : Nat) : Int), fun v _ => v = .int .i64 ((n / 256 % 16 : Nat) : Int), fun v _ => v = .pointer (some ⟨b, n / 256 % 16, none⟩), fun v _ => v = .string ⟨X3.toArray⟩, fun v _ => v = .string ⟨Z18.toArray⟩, fun v _ => v = .slice (some ⟨b, 0, none⟩) 16 16, fun v _ => v = .int .i64 (n : Int), fun v _ => v = .int .i64 ((n / 4096 : Nat) : Int), fun v _ => v = .pointer (some ⟨b, n / 4096, none⟩), fun v _ => v = .string ⟨X4.toArray⟩, fun v _ => v = .string ⟨Z24.toArray⟩, fun v _ => v = .string ⟨Z24.toArray⟩] (fun _ => false) (by kernel_rfl) (by kernel_rfl) (by kernel_rfl) ⟨stable_eq _, stable_eq _, stable_eq _, stable_eq _, stable_eq _, stable_eq _, stable_eq _, stable_eq _, stable_eq _, stable_eq _, stable_eq _, stable_eq _, stable_eq _, stable_eq _, stable_eq _, stable_eq _, stable_eq _, stable_eq _, stable_eq _, stable_eq _, stable_eq _, stable_eq _, stable_eq _, stable_eq _, stable_eq _, stable_eq _, trivial⟩ (fun _ _ h => by cases h) ?ob ?en
          case ob =>
            refine ⟨?_, ?_, ?_, ?_, ?_, ?_, ?_, ?_, ?_, ?_, ?_, ?_, ?_, ?_, ?_, ?_, ?_, ?_, ?_, ?_, ?_, ?_, ?_, ?_, ?_, ?_, trivial⟩ <;> intro A W h
            · exact rs_move rfl rfl (h.frame 5 rfl) (by decide)
            · exact rs_move rfl rfl (h.frame 6 rfl) (by decide)
            · (have e89 : A.eval (.tmp 89) = .int .i64 (n : Int) := h.dep 1 89 rfl rfl; refine rs_pure rfl ?_ (by decide); simp only [execOp, e89]; simp [go_sem]; exact Int.tmod_eq_emod_of_nonneg (by omega))
            · exact rs_pure rfl (idx1_run Tryz.underlying23 (fun W => by kernel_rfl) rfl (h.dep 0 88 rfl rfl) (h.dep 2 90 rfl rfl) m1) (by decide)
            · exact rs_pure rfl (load_run rfl one_str (h.dep 3 91 rfl rfl) (k1 W h.below)) (by decide)
            · exact rs_move rfl rfl (h.frame 5 rfl) (by decide)
            · exact rs_move rfl rfl (h.frame 6 rfl) (by decide)
            · (have e94 : A.eval (.tmp 94) = .int .i64 (n : Int) := h.dep 6 94 rfl rfl; refine rs_pure rfl ?_ (by decide); simp only [execOp, e94]; (simp [go_sem] <;> first | done | omega | (rw [IntKind.wrap_i64]; omega) | (rw [IntKind.wrap_u8]; omega) | (rw [IntKind.wrap_u64]; omega)))
            · (have e95 : A.eval (.tmp 95) = .int .i64 ((n / 16 : Nat) : Int) := h.dep 7 95 rfl rfl; refine rs_pure rfl ?_ (by decide); simp only [execOp, e95]; simp [go_sem]; exact Int.tmod_eq_emod_of_nonneg (by omega))
            · exact rs_pure rfl (idx1_run Tryz.underlying23 (fun W => by kernel_rfl) rfl (h.dep 5 93 rfl rfl) (h.dep 8 96 rfl rfl) m2) (by decide)
            · exact rs_pure rfl (load_run rfl one_str (h.dep 9 97 rfl rfl) (k2 W h.below)) (by decide)
            · exact rs_pure rfl (str_addZ_run (A := X1) (B := X2) hz11.out (by omega) rfl (h.dep 4 92 rfl rfl) (h.dep 10 98 rfl rfl)) (by decide)
            · exact rs_move rfl rfl (h.frame 5 rfl) (by decide)
            · exact rs_move rfl rfl (h.frame 6 rfl) (by decide)
            · (have e101 : A.eval (.tmp 101) = .int .i64 (n : Int) := h.dep 13 101 rfl rfl; refine rs_pure rfl ?_ (by decide); simp only [execOp, e101]; (simp [go_sem] <;> first | done | omega | (rw [IntKind.wrap_i64]; omega) | (rw [IntKind.wrap_u8]; omega) | (rw [IntKind.wrap_u64]; omega)))
            · (have e102 : A.eval (.tmp 102) = .int .i64 ((n / 256 : Nat) : Int) := h.dep 14 102 rfl rfl; refine rs_pure rfl ?_ (by decide); simp only [execOp, e102]; simp [go_sem]; exact Int.tmod_eq_emod_of_nonneg (by omega))
            · exact rs_pure rfl (idx1_run Tryz.underlying23 (fun W => by kernel_rfl) rfl (h.dep 12 100 rfl rfl) (h.dep 15 103 rfl rfl) m3) (by decide)
            · exact rs_pure rfl (load_run rfl one_str (h.dep 16 104 rfl rfl) (k3 W h.below)) (by decide)
            · exact rs_pure rfl (str_addZ_run (A := Z11) (B := X3) hz18.out (by omega) rfl (h.dep 11 99 rfl rfl) (h.dep 17 105 rfl rfl)) (by decide)
            · exact rs_move rfl rfl (h.frame 5 rfl) (by decide)
            · exact rs_move rfl rfl (h.frame 6 rfl) (by decide)
            · (have e108 : A.eval (.tmp 108) = .int .i64 (n : Int) := h.dep 20 108 rfl rfl; refine rs_pure rfl ?_ (by decide); simp only [execOp, e108]; (simp [go_sem] <;> first | done | omega | (rw [IntKind.wrap_i64]; omega) | (rw [IntKind.wrap_u8]; omega) | (rw [IntKind.wrap_u64]; omega)))
            · exact rs_pure rfl (idx1_run Tryz.underlying23 (fun W => by kernel_rfl) rfl (h.dep 19 107 rfl rfl) (h.dep 21 109 rfl rfl) m4) (by decide)
            · exact rs_pure rfl (load_run rfl one_str (h.dep 22 110 rfl rfl) (k4 W h.below)) (by decide)
            · exact rs_pure rfl (str_addZ_run (A := Z18) (B := X4) hz24.out (by omega) rfl (h.dep 18 106 rfl rfl) (h.dep 23 111 rfl rfl)) (by decide)
            · exact rs_assign rfl rfl (h.dep 24 112 rfl rfl) (by decide)
          case en =>
            intro vals W hbw hv _
            have v0 : vals 0 = .slice (some ⟨b, 0, none⟩) 16 16 := hv 0 (by omega)
            have v1 : vals 1 = .int .i64 (n : Int) := hv 1 (by omega)
            have v2 : vals 2 = .int .i64 ((n % 16 : Nat) : Int) := hv 2 (by omega)
            have v3 : vals 3 = .pointer (some ⟨b, n % 16, none⟩) := hv 3 (by omega)
            have v4 : vals 4 = .string ⟨X1.toArray⟩ := hv 4 (by omega)
            have v5 : vals 5 = .slice (some ⟨b, 0, none⟩) 16 16 := hv 5 (by omega)
            have v6 : vals 6 = .int .i64 (n : Int) := hv 6 (by omega)
            have v7 : vals 7 = .int .i64 ((n / 16 : Nat) : Int) := hv 7 (by omega)
            have v8 : vals 8 = .int .i64 ((n / 16 % 16 : Nat) : Int) := hv 8 (by omega)
            have v9 : vals 9 = .pointer (some ⟨b, n / 16 % 16, none⟩) := hv 9 (by omega)
            have v10 : vals 10 = .string ⟨X2.toArray⟩ := hv 10 (by omega)
            have v11 : vals 11 = .string ⟨Z11.toArray⟩ := hv 11 (by omega)
            have v12 : vals 12 = .slice (some ⟨b, 0, none⟩) 16 16 := hv 12 (by omega)
            have v13 : vals 13 = .int .i64 (n : Int) := hv 13 (by omega)
            have v14 : vals 14 = .int .i64 ((n / 256 : Nat) : Int) := hv 14 (by omega)
            have v15 : vals 15 = .int .i64 ((n / 256 % 16 : Nat) : Int) := hv 15 (by omega)
            have v16 : vals 16 = .pointer (some ⟨b, n / 256 % 16, none⟩) := hv 16 (by omega)
            have v17 : vals 17 = .string ⟨X3.toArray⟩ := hv 17 (by omega)
            have v18 : vals 18 = .string ⟨Z18.toArray⟩ := hv 18 (by omega)
            have v19 : vals 19 = .slice (some ⟨b, 0, none⟩) 16 16 := hv 19 (by omega)
            have v20 : vals 20 = .int .i64 (n : Int) := hv 20 (by omega)
            have v21 : vals 21 = .int .i64 ((n / 4096 : Nat) : Int) := hv 21 (by omega)
            have v22 : vals 22 = .pointer (some ⟨b, n / 4096, none⟩) := hv 22 (by omega)
            have v23 : vals 23 = .string ⟨X4.toArray⟩ := hv 23 (by omega)
            have v24 : vals 24 = .string ⟨Z24.toArray⟩ := hv 24 (by omega)
            have v25 : vals 25 = .string ⟨Z24.toArray⟩ := hv 25 (by omega)
            simp only [List.take_succ_cons, List.take_zero, List.drop_succ_cons, List.drop_zero, List.drop_nil, List.take_nil, fillAll, Nat.zero_add, Nat.reduceAdd]
            rw [v0, v1, v2, v3, v4, v5, v6, v7, v8, v9, v10, v11, v12, v13, v14, v15, v16, v17, v18, v19, v20, v21, v22, v23, v24, v25]
            clear hv v0 v1 v2 v3 v4 v5 v6 v7 v8 v9 v10 v11 v12 v13 v14 v15 v16 v17 v18 v19 v20 v21 v22 v23 v24 v25
            try simp only [put_lit, List.setIfInBounds_toArray, List.set_cons_succ, List.set_cons_zero]
            replace H := H.call hbw
            clear k1 k2 k3 k4 hbw
            have hx := hx0 Z24
            have hy := fun w => ref_Words Z24 w
            cases hw : wordsF Z24 with
            | error x =>
              obtain ⟨p, x⟩ := x
              rw [hw] at hx hy
              simp only [WordsR] at hx hy
              clear hw
              have hs := fun w => law_same (.slice none 0 0) (.slice none 0 0) [] w (RdW.nil w) (RdW.nil w)
              go_wp2_with (first | (first | ((with_reducible refine gT ?_); (first | ((first | refine aS H ?_ | refine aW H ?_ | refine aO H ?_ | refine aT H ?_); clear H; intro w H; (try simp only [nrm, nrl, Value.cells] at H)) | (refine aN H ?_; clear H; intro w H; (try simp only [nrm, nrl, Value.cells] at H); (try simp only [setSeg, nrl] at H)))) | ((with_reducible refine gL ?_); (first | refine aV H ?_ | refine aL H ?_ | refine aG H ?_ | refine aD H ?_)) | ((with_reducible refine gX ?_); ((first | refine bS H ?_ | refine bB H ?_); clear H; intro b w H; (try simp only [nrm, nrl, Value.cells] at H))) | ((with_reducible refine gA ?_); (refine bA H ?_; clear H; intro b w H; (try simp only [nrm, nrl, Value.cells] at H))) | ((with_reducible refine gZ ?_); refine aZ ?_) | ((with_reducible refine gI ?_); refine aI ?_) | ((with_reducible refine gC ?_); refine aC ?_) | ((with_reducible refine gF ?_); refine aF ?_) | ((with_reducible refine gU ?_); refine aU ?_) | ((with_reducible refine gE ?_); refine aE ?_) | ((with_reducible refine gQ ?_); refine aQ ?_)) | (go_at_call 5; (with_reducible refine (hx _ H.below).mono ?_); rintro e w ⟨rfl, hb⟩; replace H := H.call hb; clear hb) | (go_at_call 6; (with_reducible refine (hy _).mono ?_); rintro e w ⟨rfl, hb⟩; replace H := H.call hb; clear hb) | (go_at_call 7; (with_reducible refine (hs _).mono ?_); rintro e w ⟨rfl, hb⟩; replace H := H.call hb; clear hb))
              go_roundw
              case rel => exact ⟨n + 1, rfl, by omega, H⟩
              case measure => simp [intOf]; omega
            | ok ws =>
              have hl := wordsF_len hw
              rw [hw] at hx hy
              simp only [WordsR] at hx hy
              clear hw
              go_wp2_with (first | (first | ((with_reducible refine gT ?_); (first | ((first | refine aS H ?_ | refine aW H ?_ | refine aO H ?_ | refine aT H ?_); clear H; intro w H; (try simp only [nrm, nrl, Value.cells] at H)) | (refine aN H ?_; clear H; intro w H; (try simp only [nrm, nrl, Value.cells] at H); (try simp only [setSeg, nrl] at H)))) | ((with_reducible refine gL ?_); (first | refine aV H ?_ | refine aL H ?_ | refine aG H ?_ | refine aD H ?_)) | ((with_reducible refine gX ?_); ((first | refine bS H ?_ | refine bB H ?_); clear H; intro b w H; (try simp only [nrm, nrl, Value.cells] at H))) | ((with_reducible refine gA ?_); (refine bA H ?_; clear H; intro b w H; (try simp only [nrm, nrl, Value.cells] at H))) | ((with_reducible refine gZ ?_); refine aZ ?_) | ((with_reducible refine gI ?_); refine aI ?_) | ((with_reducible refine gC ?_); refine aC ?_) | ((with_reducible refine gF ?_); refine aF ?_) | ((with_reducible refine gU ?_); refine aU ?_) | ((with_reducible refine gE ?_); refine aE ?_) | ((with_reducible refine gQ ?_); refine aQ ?_)) | (go_at_call 5; (with_reducible refine (hx _ H.below).mono ?_); rintro e w ⟨⟨v, rfl, ho⟩, hb⟩; replace H := H.gainRow hb ho; obtain ⟨q, cap, rfl, hq⟩ := ownsRow_slice ho; clear hb ho; (try simp only [nrm, nrl, Value.cells] at H)) | (go_at_call 6; (with_reducible refine (hy _).mono ?_); rintro e w ⟨⟨v, rfl, ho⟩, hb⟩; replace H := H.gainRow hb ho; obtain ⟨q2, cap2, rfl, _⟩ := ownsRow_slice ho; clear hb ho; (try simp only [nrm, nrl, Value.cells] at H)) | (go_at_call 7; (with_reducible refine (law_same _ _ ws _ (H.rdw (.succ .zero) hl) (H.rdw (.succ (.succ .zero)) hl)).mono ?_); rintro e w ⟨rfl, hb⟩; replace H := H.call hb; clear hb))
              replace H := H.take 1
              go_roundw
              case rel => exact ⟨n + 1, rfl, by omega, H⟩
              case measure => simp [intOf]; omega
        · have dn : decide ((n : Int) < 65536) = false := by simp; omega
          go_wp2_with (first | (first | ((with_reducible refine gT ?_); (first | ((first | refine aS H ?_ | refine aW H ?_ | refine aO H ?_ | refine aT H ?_); clear H; intro w H; (try simp only [nrm, nrl, Value.cells] at H)) | (refine aN H ?_; clear H; intro w H; (try simp only [nrm, nrl, Value.cells] at H); (try simp only [setSeg, nrl] at H)))) | ((with_reducible refine gL ?_); (first | refine aV H ?_ | refine aL H ?_ | refine aG H ?_ | refine aD H ?_)) | ((with_reducible refine gX ?_); ((first | refine bS H ?_ | refine bB H ?_); clear H; intro b w H; (try simp only [nrm, nrl, Value.cells] at H))) | ((with_reducible refine gA ?_); (refine bA H ?_; clear H; intro b w H; (try simp only [nrm, nrl, Value.cells] at H))) | ((with_reducible refine gZ ?_); refine aZ ?_) | ((with_reducible refine gI ?_); refine aI ?_) | ((with_reducible refine gC ?_); refine aC ?_) | ((with_reducible refine gF ?_); refine aF ?_) | ((with_reducible refine gU ?_); refine aU ?_) | ((with_reducible refine gE ?_); refine aE ?_) | ((with_reducible refine gQ ?_); refine aQ ?_)) | (go_at_call 8; (with_reducible refine ch (hN _ H.below) H ?_); clear H; intro w H) | (go_at_call 9; (with_reducible refine ch (hR _ H.below) H ?_); clear H; intro w H) | (go_at_call 10; (with_reducible refine ch (hA _ H.below) H ?_); clear H; intro w H))
          go_ret
          exact ⟨rfl, H.below⟩
end Go.Proofs.YtllmgmfihijejaaGreatDoor
/-
  A law whose row lists variables: the wrap that hands on the world's shape and the form's reach.
-/
namespace Go.Proofs.YtllmgmfihijejaaGreatDoor.laidUp
open Go.ChangeShapes Go.WideShapes Go.ChangeAt Go.RowKit
set_option linter.unusedVariables false

section
variable {H : Type} {enc : TypeId × Value → H}
/-- a law whose row lists variables, the world's shape kept -/
theorem handed_laid {a : Assume} {C : Checked} {os : Os} {f : FuncId} {fn : Func} {s : ChangeSpec} {conds : List PathCond} {apart fresh handsOn again : Bool} {X : World → Array Value → Prop}
    (hX : ∀ (w w' : World) (args : Array Value), w.heap = w'.heap → X w args → X w' args)
    (own : ownKnob C.prog.godebug = none) (started : os.Started) (noInit : C.prog.inits.idxOf? f = none) (hfn : C.prog.funcs[f]? = some fn)
    (witness : ∃ (w : World) (tape : Tape) (i : Input), w.os = os ∧ (w.forCall tape i).Shaped C.prog ∧ i.vars = [] ∧ Input.okWide C.prog (w.forCall tape i) .any w.heap.size f i ∧
      ((s.pre enc C.prog fn conds apart (w.forCall tape i).memory i.args ∧ X (w.forCall tape i).memory i.args) ∧ sizedMet enc C.prog fn (OpenSpec.ofChange s) apart (w.forCall tape i).memory i.args) ∧ a.holds C.prog (lone (Frame.enter C.prog f i.args .normal) [] (w.forCall tape i)))
    (contract : ∀ (W : World) (base : Nat) (args : Array Value) (ds gs : List (DataW H)) (before : List MemPlace),
      (∀ (j : Nat) t v, fn.params[j]? = some t → args[j]? = some v → Value.okWide C.prog W .any base t v) →
      DataW.Whole enc C.prog fn.params.toList s.vars apart W args.toList ds gs before → W.ShapedOpen C.prog →
      (DataW.weightsEach C.prog (fn.params.toList ++ (OpenSpec.ofChange s).bare.plain.varTypes C.prog) (ds ++ gs)).all (· ≤ reachBytes) = true →
      Calls C.prog f args W fun e W' => ∃ v, e = .returned v ∧ s.post enc C.prog fn apart fresh handsOn again W args v W') :
    ReturnsInHanded a C os f .any (fun w args => (s.pre enc C.prog fn conds apart w args ∧ X w args) ∧ sizedMet enc C.prog fn (OpenSpec.ofChange s) apart w args) (s.post enc C.prog fn apart fresh handsOn again) := by
  refine returnsInHanded_of_calls own started noInit witness ?_
  intro w tape i _ hsh _ hok hpre _
  obtain ⟨_, _, _, fn', hfn', _, _, _, _, hval⟩ := hok
  have e : fn' = fn := Option.some.inj (hfn'.symm.trans hfn)
  subst e
  obtain ⟨⟨⟨ds, gs, before, hw, _⟩, _⟩, hsz⟩ := hpre
  have hw' := DataW.Whole.of_heap (w' := w.forCall tape i) (by rfl) hw
  refine (contract (w.forCall tape i) w.heap.size i.args ds gs before hval hw' hsh (hsz.weights hw)).mono fun e W' ⟨v, he, hp⟩ => ?_
  subst he
  exact ChangeSpec.post_blind hp
end

theorem own : ownKnob Tryz.prog.godebug = none := by kernel_rfl
theorem maxL {W : World} (h : W.ShapedOpen Tryz.prog) : MaxL W :=
  cell_of_shapedOpen_int (g := 0) (t := 3) (zero := #[.int .i64 0]) h (of_decide_eq_true (by kernel_rfl)) (by kernel_rfl) rfl (by kernel_rfl) (by kernel_rfl) Tryz.underlying3

end Go.Proofs.YtllmgmfihijejaaGreatDoor.laidUp
