/-
  Laws of walks, and walks: LexShelf Region6 Region7 Ref09b Ref09c Region8 RangeS Round.
-/
import Derived.Shelf.Strings.Builder1
import Derived.Shelf.Strings.Builder2
import Derived.Shelf.Strings.Trim
import Derived.Shelf.Small.Utf8
import Derived.Shelf.Small.Strs
import Derived.Shelf.Small.Wraps
import Derived.Shelf.Strings.BuilderF
import Derived.Shelf.Utf8.RuneCount
import Derived.Shelf.Strings.Search1
import Derived.Shelf.Strings.Search2
import Derived.Shelf.Strings.Search3
import Derived.Shelf.Strings.Cut
import Derived.Shelf.Strings.Count
import Derived.Shelf.LaysM
import Derived.Shelf.Strings.Shaped
import Derived.Shelf.Strings.Prefix
import Derived.Shelf.Strings.Split
import Derived.Shelf.Strings.SplitShaped
import Derived.Shelf.Unicode.Decode
import Derived.Shelf.Strings.Runes
import Derived.Shelf.Strings.RuneCount
import Derived.Shelf.Strings.AsciiSet
import Derived.Shelf.Strings.Explode
import Derived.Shelf.Bits.Mul64
import Derived.Shelf.Strings.Repeat
import Derived.Shelf.Unicode.DecodeSlow
import Derived.Shelf.Unicode.DecodeAny
import Derived.Test.YtllmgmfihijejaaGreatDoorProg
import Derived.Test.YtllmgmfihijejaaGreatDoorLx1
import Derived.Test.YtllmgmfihijejaaGreatDoorLx2
import Derived.OrdersIn
set_option linter.unusedVariables false
set_option linter.unusedSimpArgs false
/-
  DERIVED: THE SHELF's CONTRACTS AT THIS DUMP, IN PLAIN WORDS (tools/lay-plain.mjs out of 'TryzShelf.lean', which tools/lay-shelf.mjs wrote): THE SAME DECLARATIONS UNDER THE SAME NAMES: 'import', 'namespace', 'open', 'def', 'theorem' AND NOTHING ELSE: no command of the shelf's: FOR A HAND-IN. Each laying: the table of numbers ('.._ren') and one theorem, a field a fact of the dump's own or the kernel's comparison; each contract: ONE APPLICATION.
-/
namespace Go.Proofs
open Go.Shelf
def Tryz.lays170_ren : Go.Shelf.Ren := ⟨fun | 170 => 33 | n => n, fun | 70 => 73 | 3 => 3 | 0 => 0 | 72 => 75 | 37 => 22 | 5 => 5 | n => n, fun | n => n⟩
theorem Tryz.lays170 : Go.Proofs.Lays.n170 Tryz.prog Tryz.lays170_ren := {
  mixed := by kernel_rfl
  f170 := Tryz.func33.trans (congrArg some (by kernel_rfl))
  t0 := Tryz.underlying0
  a0 := Tryz.isAgg0
  z0 := Tryz.sizeOf0
  v0 := Tryz.zeroValue0
  t3 := Tryz.underlying3
  a3 := Tryz.isAgg3
  z3 := Tryz.sizeOf3
  v3 := Tryz.zeroValue3
  t37 := Tryz.underlying22
  a37 := Tryz.isAgg22
  z37 := Tryz.sizeOf22
  v37 := Tryz.zeroValue22
  t70 := Tryz.underlying73
  a70 := Tryz.isAgg73
  z70 := Tryz.sizeOf73
  v70 := Tryz.zeroValue73
  t72 := Tryz.underlying75
  a72 := Tryz.isAgg75
  z72 := Tryz.sizeOf75
  v72 := Tryz.zeroValue75 }
open Go.RowKit in
/-- (*strings.Builder).Len: "Len returns the number of accumulated bytes; b.Len() == len(b.String()).": the world is as it was. (LAID: no walk: one application.) -/
theorem Tryz.Builder_Len (B b : Nat) (bs : List Value) (w : World) (h : Lib.IsBuilder 75 5 B b bs w) :
    Calls Tryz.prog 33 #[.pointer (some ⟨b, 0, none⟩)] w fun e w' => e = .returned (.int .i64 bs.length) ∧ w' = w := Any.Builder_Len Tryz.lays170 B b bs w h
def Tryz.lays169_ren : Go.Shelf.Ren := ⟨fun | 169 => 34 | n => n, fun | 70 => 73 | 9 => 9 | 0 => 0 | 72 => 75 | 37 => 22 | 127 => 113 | 3 => 3 | 5 => 5 | n => n, fun | n => n⟩
theorem Tryz.lays169 : Go.Proofs.Lays.n169 Tryz.prog Tryz.lays169_ren := {
  mixed := by kernel_rfl
  f169 := Tryz.func34.trans (congrArg some (by kernel_rfl))
  t0 := Tryz.underlying0
  a0 := Tryz.isAgg0
  z0 := Tryz.sizeOf0
  v0 := Tryz.zeroValue0
  t3 := Tryz.underlying3
  a3 := Tryz.isAgg3
  z3 := Tryz.sizeOf3
  v3 := Tryz.zeroValue3
  t9 := Tryz.underlying9
  a9 := Tryz.isAgg9
  z9 := Tryz.sizeOf9
  v9 := Tryz.zeroValue9
  t37 := Tryz.underlying22
  a37 := Tryz.isAgg22
  z37 := Tryz.sizeOf22
  v37 := Tryz.zeroValue22
  t70 := Tryz.underlying73
  a70 := Tryz.isAgg73
  z70 := Tryz.sizeOf73
  v70 := Tryz.zeroValue73
  t72 := Tryz.underlying75
  a72 := Tryz.isAgg75
  z72 := Tryz.sizeOf75
  v72 := Tryz.zeroValue75
  t127 := Tryz.underlying113
  a127 := Tryz.isAgg113
  z127 := Tryz.sizeOf113
  v127 := Tryz.zeroValue113 }
theorem Tryz.Builder_Extra_169 : Builder.Extra Tryz.prog Tryz.lays169_ren := {
  sizeBuilder := by kernel_rfl
  liesBuilder := by kernel_rfl
  t5 := Tryz.underlying5
  a5 := Tryz.isAgg5
  z5 := Tryz.sizeOf5
  v5 := Tryz.zeroValue5
  infoByte := by kernel_rfl
  cellsByte := by kernel_rfl
  sizeByte := by kernel_rfl
  neB5 := by decide }
open Go.RowKit in
/-- (*strings.Builder).String: "String returns the accumulated string.": OF A BUILDER THAT HOLDS AT LEAST ONE BYTE. ✋ THE MODEL FREEZES THOSE BYTES IN THE BUFFER (unsafe.String): a later write INTO them ends the model's run without an answer; a later append BEHIND them goes on. The statement's order of evaluation is drawn: one draw. (LAID: no walk: one application.) -/
theorem Tryz.Builder_String (B b : Nat) (l : List UInt8) (w : World) (h : Lib.IsBuilder 75 5 B b (Lib.byteCells l) w) (h0 : l ≠ []) :
    Calls Tryz.prog 34 #[.pointer (some ⟨b, 0, none⟩)] w fun e w' => e = .returned (.string ⟨l.toArray⟩) ∧ Below B w w' := Any.Builder_String Tryz.lays169 Tryz.Builder_Extra_169 B b l w h h0
open Go.RowKit in
/-- (*strings.Builder).String OF A BUILDER THAT HOLDS NO BYTE: the empty string. (Its buffer is nil, or a row of which it has taken nothing yet; where that row has NO capacity the model lays one new block for unsafe.SliceData's 'some address'.) One draw. (LAID: no walk: one application.) -/
theorem Tryz.Builder_String_empty (B b : Nat) (w : World) (h : Lib.IsBuilder 75 5 B b [] w) (hBw : B ≤ w.heap.size) :
    Calls Tryz.prog 34 #[.pointer (some ⟨b, 0, none⟩)] w fun e w' => e = .returned (.string ⟨#[]⟩) ∧ Below B w w' := Any.Builder_String_empty Tryz.lays169 Tryz.Builder_Extra_169 B b w h hBw
open Go.RowKit in
/-- (*strings.Builder).String: "String returns the accumulated string.": WHATEVER THE BUILDER HOLDS. (LAID: no walk: one application.) -/
theorem Tryz.Builder_String_any (B b : Nat) (l : List UInt8) (w : World) (h : Lib.IsBuilder 75 5 B b (Lib.byteCells l) w) (hBw : B ≤ w.heap.size) :
    Calls Tryz.prog 34 #[.pointer (some ⟨b, 0, none⟩)] w fun e w' => e = .returned (.string ⟨l.toArray⟩) ∧ Below B w w' := Any.Builder_String_any Tryz.lays169 Tryz.Builder_Extra_169 B b l w h hBw
def Tryz.lays241_ren : Go.Shelf.Ren := ⟨fun | 241 => 59 | 277 => 81 | n => n, fun | 70 => 73 | 3 => 3 | 0 => 0 | 72 => 75 | 37 => 22 | 5 => 5 | n => n, fun | n => n⟩
theorem Tryz.lays241 : Go.Proofs.Lays.n241 Tryz.prog Tryz.lays241_ren := {
  mixed := by kernel_rfl
  f241 := Tryz.func59.trans (congrArg some (by kernel_rfl))
  f277 := Tryz.func81.trans (congrArg some (by kernel_rfl))
  t0 := Tryz.underlying0
  a0 := Tryz.isAgg0
  z0 := Tryz.sizeOf0
  v0 := Tryz.zeroValue0
  t3 := Tryz.underlying3
  a3 := Tryz.isAgg3
  z3 := Tryz.sizeOf3
  v3 := Tryz.zeroValue3
  t37 := Tryz.underlying22
  a37 := Tryz.isAgg22
  z37 := Tryz.sizeOf22
  v37 := Tryz.zeroValue22
  t70 := Tryz.underlying73
  a70 := Tryz.isAgg73
  z70 := Tryz.sizeOf73
  v70 := Tryz.zeroValue73
  t72 := Tryz.underlying75
  a72 := Tryz.isAgg75
  z72 := Tryz.sizeOf75
  v72 := Tryz.zeroValue75 }
theorem Tryz.Builder_Extra_241 : Builder.Extra Tryz.prog Tryz.lays241_ren := {
  sizeBuilder := by kernel_rfl
  liesBuilder := by kernel_rfl
  t5 := Tryz.underlying5
  a5 := Tryz.isAgg5
  z5 := Tryz.sizeOf5
  v5 := Tryz.zeroValue5
  infoByte := by kernel_rfl
  cellsByte := by kernel_rfl
  sizeByte := by kernel_rfl
  neB5 := by decide }
open Go.RowKit in
/-- (*strings.Builder).grow (no doc but "grow copies the buffer to a new, larger buffer so that there are at least n bytes of capacity beyond len(b.buf)."): AT A BUILDER WITHOUT A BUFFER: a new row of whatever bytes for its buffer, none of them its own yet. Three draws. (LAID: no walk: one application.) -/
theorem Tryz.Builder_grow_fresh (B b n : Nat) (w : World) (hB : B ≤ b) (hbk : w.heap[b]? = some (.cells #[.pointer (some ⟨b, 0, none⟩), .slice none 0 0] 75 (0, 0))) (hBw : B ≤ w.heap.size) (hn : n ≤ 281474976710656) :
    Calls Tryz.prog 59 #[.pointer (some ⟨b, 0, none⟩), .int .i64 n] w fun e w' => e = .returned (.tuple #[]) ∧ (Lib.BuilderAt 75 5 B b (.pointer (some ⟨b, 0, none⟩)) [] w' ∧ Below B w w') := Any.Builder_grow_fresh Tryz.lays241 Tryz.Builder_Extra_241 B b n w hB hbk hBw hn
def Tryz.lays165_ren : Go.Shelf.Ren := ⟨fun | 165 => 31 | 240 => 58 | 241 => 59 | 276 => 80 | 277 => 81 | n => n, fun | 70 => 73 | 3 => 3 | 0 => 0 | 4 => 4 | 9 => 9 | 20 => 20 | 72 => 75 | 37 => 22 | 164 => 132 | 5 => 5 | n => n, fun | n => n⟩
theorem Tryz.lays165 : Go.Proofs.Lays.n165 Tryz.prog Tryz.lays165_ren := {
  mixed := by kernel_rfl
  f165 := Tryz.func31.trans (congrArg some (by kernel_rfl))
  f240 := Tryz.func58.trans (congrArg some (by kernel_rfl))
  f241 := Tryz.func59.trans (congrArg some (by kernel_rfl))
  f276 := Tryz.func80.trans (congrArg some (by kernel_rfl))
  f277 := Tryz.func81.trans (congrArg some (by kernel_rfl))
  t0 := Tryz.underlying0
  a0 := Tryz.isAgg0
  z0 := Tryz.sizeOf0
  v0 := Tryz.zeroValue0
  t3 := Tryz.underlying3
  a3 := Tryz.isAgg3
  z3 := Tryz.sizeOf3
  v3 := Tryz.zeroValue3
  t4 := Tryz.underlying4
  a4 := Tryz.isAgg4
  z4 := Tryz.sizeOf4
  v4 := Tryz.zeroValue4
  t9 := Tryz.underlying9
  a9 := Tryz.isAgg9
  z9 := Tryz.sizeOf9
  v9 := Tryz.zeroValue9
  t20 := Tryz.underlying20
  a20 := Tryz.isAgg20
  z20 := Tryz.sizeOf20
  v20 := Tryz.zeroValue20
  t37 := Tryz.underlying22
  a37 := Tryz.isAgg22
  z37 := Tryz.sizeOf22
  v37 := Tryz.zeroValue22
  t70 := Tryz.underlying73
  a70 := Tryz.isAgg73
  z70 := Tryz.sizeOf73
  v70 := Tryz.zeroValue73
  t72 := Tryz.underlying75
  a72 := Tryz.isAgg75
  z72 := Tryz.sizeOf75
  v72 := Tryz.zeroValue75
  t164 := Tryz.underlying132
  a164 := Tryz.isAgg132
  z164 := Tryz.sizeOf132
  v164 := Tryz.zeroValue132 }
theorem Tryz.Builder_Extra_165 : Builder.Extra Tryz.prog Tryz.lays165_ren := {
  sizeBuilder := by kernel_rfl
  liesBuilder := by kernel_rfl
  t5 := Tryz.underlying5
  a5 := Tryz.isAgg5
  z5 := Tryz.sizeOf5
  v5 := Tryz.zeroValue5
  infoByte := by kernel_rfl
  cellsByte := by kernel_rfl
  sizeByte := by kernel_rfl
  neB5 := by decide }
open Go.RowKit in
/-- (*strings.Builder).Grow AT A BUILDER THAT HAS NOT BEEN WRITTEN ('var b strings.Builder; b.Grow(n)'): "Grow grows b's capacity, if necessary, to guarantee space for another n bytes.": it holds no byte behind it as before it. (LAID: no walk: one application.) -/
theorem Tryz.Builder_Grow_fresh (B b n : Nat) (w : World) (hB : B ≤ b) (hbk : w.heap[b]? = some (.cells #[.pointer none, .slice none 0 0] 75 (0, 0))) (hBw : B ≤ w.heap.size) (hn : n ≤ 281474976710656) :
    Calls Tryz.prog 31 #[.pointer (some ⟨b, 0, none⟩), .int .i64 n] w fun e w' => e = .returned (.tuple #[]) ∧ (Lib.BuilderAt 75 5 B b (.pointer (some ⟨b, 0, none⟩)) [] w' ∧ Below B w w') := Any.Builder_Grow_fresh Tryz.lays165 Tryz.Builder_Extra_165 B b n w hB hbk hBw hn
def Tryz.lays231_ren : Go.Shelf.Ren := ⟨fun | 231 => 103 | n => n, fun | 9 => 9 | 5 => 5 | 3 => 3 | 4 => 4 | n => n, fun | n => n⟩
theorem Tryz.lays231 : Go.Proofs.Lays.n231 Tryz.prog Tryz.lays231_ren := {
  mixed := by kernel_rfl
  f231 := Tryz.func103.trans (congrArg some (by kernel_rfl))
  t3 := Tryz.underlying3
  a3 := Tryz.isAgg3
  z3 := Tryz.sizeOf3
  v3 := Tryz.zeroValue3
  t4 := Tryz.underlying4
  a4 := Tryz.isAgg4
  z4 := Tryz.sizeOf4
  v4 := Tryz.zeroValue4
  t5 := Tryz.underlying5
  a5 := Tryz.isAgg5
  z5 := Tryz.sizeOf5
  v5 := Tryz.zeroValue5
  t9 := Tryz.underlying9
  a9 := Tryz.isAgg9
  z9 := Tryz.sizeOf9
  v9 := Tryz.zeroValue9 }
open Go.RowKit in
/-- strings.trimLeftByte (no doc; what TrimLeft and Trim call at a cutset of one ASCII byte): the leading bytes that are c are cut off. The world is as it was. (LAID: no walk: one application.) -/
theorem Tryz.strings_trimLeftByte (s : ByteArray) (c : UInt8) (w : World) :
    Calls Tryz.prog 103 #[.string s, .int .u8 c.toNat] w fun e w' => e = .returned (.string ⟨(Lib.trimLeftB s.data.toList c).toArray⟩) ∧ w' = w := Any.strings_trimLeftByte Tryz.lays231 s c w
def Tryz.lays161_ren : Go.Shelf.Ren := ⟨fun | 161 => 89 | 231 => 103 | 227 => 104 | 233 => 105 | 235 => 106 | 228 => 113 | 197 => 77 | 151 => 114 | 260 => 93 | 152 => 115 | 137 => 83 | 119 => 116 | 224 => 96 | 225 => 95 | 217 => 94 | 266 => 107 | n => n, fun | 9 => 9 | 4 => 4 | 3 => 3 | 5 => 5 | 117 => 149 | 116 => 148 | 0 => 0 | 124 => 152 | 105 => 129 | 21 => 21 | 119 => 153 | 46 => 69 | 139 => 156 | 138 => 155 | n => n, fun | 3 => 1 | 4 => 2 | n => n⟩
theorem Tryz.lays161 : Go.Proofs.Lays.n161 Tryz.prog Tryz.lays161_ren := {
  mixed := by kernel_rfl
  f119 := Tryz.func116.trans (congrArg some (by kernel_rfl))
  f137 := Tryz.func83.trans (congrArg some (by kernel_rfl))
  f151 := Tryz.func114.trans (congrArg some (by kernel_rfl))
  f152 := Tryz.func115.trans (congrArg some (by kernel_rfl))
  f161 := Tryz.func89.trans (congrArg some (by kernel_rfl))
  f197 := Tryz.func77.trans (congrArg some (by kernel_rfl))
  f217 := Tryz.func94.trans (congrArg some (by kernel_rfl))
  f224 := Tryz.func96.trans (congrArg some (by kernel_rfl))
  f225 := Tryz.func95.trans (congrArg some (by kernel_rfl))
  f227 := Tryz.func104.trans (congrArg some (by kernel_rfl))
  f228 := Tryz.func113.trans (congrArg some (by kernel_rfl))
  f231 := Tryz.func103.trans (congrArg some (by kernel_rfl))
  f233 := Tryz.func105.trans (congrArg some (by kernel_rfl))
  f235 := Tryz.func106.trans (congrArg some (by kernel_rfl))
  f260 := Tryz.func93.trans (congrArg some (by kernel_rfl))
  f266 := Tryz.func107.trans (congrArg some (by kernel_rfl))
  t0 := Tryz.underlying0
  a0 := Tryz.isAgg0
  z0 := Tryz.sizeOf0
  v0 := Tryz.zeroValue0
  t3 := Tryz.underlying3
  a3 := Tryz.isAgg3
  z3 := Tryz.sizeOf3
  v3 := Tryz.zeroValue3
  t4 := Tryz.underlying4
  a4 := Tryz.isAgg4
  z4 := Tryz.sizeOf4
  v4 := Tryz.zeroValue4
  t5 := Tryz.underlying5
  a5 := Tryz.isAgg5
  z5 := Tryz.sizeOf5
  v5 := Tryz.zeroValue5
  t9 := Tryz.underlying9
  a9 := Tryz.isAgg9
  z9 := Tryz.sizeOf9
  v9 := Tryz.zeroValue9
  t21 := Tryz.underlying21
  a21 := Tryz.isAgg21
  z21 := Tryz.sizeOf21
  v21 := Tryz.zeroValue21
  t46 := Tryz.underlying69
  a46 := Tryz.isAgg69
  z46 := Tryz.sizeOf69
  v46 := Tryz.zeroValue69
  t105 := Tryz.underlying129
  a105 := Tryz.isAgg129
  z105 := Tryz.sizeOf129
  v105 := Tryz.zeroValue129
  t116 := Tryz.underlying148
  a116 := Tryz.isAgg148
  z116 := Tryz.sizeOf148
  t117 := Tryz.underlying149
  a117 := Tryz.isAgg149
  z117 := Tryz.sizeOf149
  v117 := Tryz.zeroValue149
  t119 := Tryz.underlying153
  a119 := Tryz.isAgg153
  z119 := Tryz.sizeOf153
  t124 := Tryz.underlying152
  a124 := Tryz.isAgg152
  z124 := Tryz.sizeOf152
  v124 := Tryz.zeroValue152
  t138 := Tryz.underlying155
  a138 := Tryz.isAgg155
  z138 := Tryz.sizeOf155
  v138 := Tryz.zeroValue155
  t139 := Tryz.underlying156
  a139 := Tryz.isAgg156
  z139 := Tryz.sizeOf156
  v139 := Tryz.zeroValue156
  g3 := by kernel_rfl
  g4 := by kernel_rfl }
open Go.RowKit in
/-- strings.TrimLeft: "TrimLeft returns a slice of the string s with all leading Unicode code points contained in cutset removed.": AT A cutset OF ONE ASCII BYTE. The world is as it was. (LAID: no walk: one application.) -/
theorem Tryz.strings_TrimLeft_one (s : ByteArray) (c : UInt8) (hc : c.toNat < 128) (w : World) :
    Calls Tryz.prog 89 #[.string s, .string ⟨#[c]⟩] w fun e w' => e = .returned (.string ⟨(Lib.trimLeftB s.data.toList c).toArray⟩) ∧ w' = w := Any.strings_TrimLeft_one Tryz.lays161 s c hc w
def Tryz.lays119_ren : Go.Shelf.Ren := ⟨fun | 119 => 116 | n => n, fun | 21 => 21 | 4 => 4 | n => n, fun | n => n⟩
theorem Tryz.lays119 : Go.Proofs.Lays.n119 Tryz.prog Tryz.lays119_ren := {
  mixed := by kernel_rfl
  f119 := Tryz.func116.trans (congrArg some (by kernel_rfl))
  t4 := Tryz.underlying4
  a4 := Tryz.isAgg4
  z4 := Tryz.sizeOf4
  v4 := Tryz.zeroValue4
  t21 := Tryz.underlying21
  a21 := Tryz.isAgg21
  z21 := Tryz.sizeOf21
  v21 := Tryz.zeroValue21 }
/-- utf8.ValidRune: "ValidRune reports whether r can be legally encoded as UTF-8. Code points that are out of range or a surrogate half are illegal.": IT RETURNS 'Lib.validRune r'; the world is as it was. (LAID: no walk: one application.) -/
theorem Tryz.utf8_ValidRune (r : Int) (w : World) :
    Calls Tryz.prog 116 #[.int .i32 r] w fun e w' => e = .returned (.bool (Lib.validRune r)) ∧ w' = w := Any.utf8_ValidRune Tryz.lays119 r w
def Tryz.lays137_ren : Go.Shelf.Ren := ⟨fun | 137 => 83 | 217 => 94 | 266 => 107 | n => n, fun | 9 => 9 | 5 => 5 | 3 => 3 | n => n, fun | n => n⟩
theorem Tryz.lays137 : Go.Proofs.Lays.n137 Tryz.prog Tryz.lays137_ren := {
  mixed := by kernel_rfl
  f137 := Tryz.func83.trans (congrArg some (by kernel_rfl))
  f217 := Tryz.func94.trans (congrArg some (by kernel_rfl))
  f266 := Tryz.func107.trans (congrArg some (by kernel_rfl))
  t3 := Tryz.underlying3
  a3 := Tryz.isAgg3
  z3 := Tryz.sizeOf3
  v3 := Tryz.zeroValue3
  t5 := Tryz.underlying5
  a5 := Tryz.isAgg5
  z5 := Tryz.sizeOf5
  v5 := Tryz.zeroValue5
  t9 := Tryz.underlying9
  a9 := Tryz.isAgg9
  z9 := Tryz.sizeOf9
  v9 := Tryz.zeroValue9 }
open Go.RowKit in
/-- strings.IndexByte: "IndexByte returns the index of the first instance of c in s, or -1 if c is not present in s.": IT RETURNS 'Lib.indexByte s c'; the world is as it was. (LAID: no walk: one application.) -/
theorem Tryz.strings_IndexByte (s : ByteArray) (c : Int) (w : World) :
    Calls Tryz.prog 83 #[.string s, .int .u8 c] w fun e w' => e = .returned (.int .i64 (Lib.indexByte s.data.toList c.toNat.toUInt8)) ∧ w' = w := Any.strings_IndexByte Tryz.lays137 s c w
def Tryz.lays210_ren : Go.Shelf.Ren := ⟨fun | 210 => 111 | 206 => 57 | n => n, fun | 9 => 9 | 4 => 4 | 3 => 3 | n => n, fun | n => n⟩
theorem Tryz.lays210 : Go.Proofs.Lays.n210 Tryz.prog Tryz.lays210_ren := {
  mixed := by kernel_rfl
  f206 := Tryz.func57.trans (congrArg some (by kernel_rfl))
  f210 := Tryz.func111.trans (congrArg some (by kernel_rfl))
  t3 := Tryz.underlying3
  a3 := Tryz.isAgg3
  z3 := Tryz.sizeOf3
  v3 := Tryz.zeroValue3
  t4 := Tryz.underlying4
  a4 := Tryz.isAgg4
  z4 := Tryz.sizeOf4
  v4 := Tryz.zeroValue4
  t9 := Tryz.underlying9
  a9 := Tryz.isAgg9
  z9 := Tryz.sizeOf9
  v9 := Tryz.zeroValue9 }
open Go.RowKit in
/-- internal/stringslite.CutPrefix (what strings.CutPrefix calls). (LAID: no walk: one application.) -/
theorem Tryz.stringslite_CutPrefix (s p : ByteArray) (w : World) :
    Calls Tryz.prog 111 #[.string s, .string p] w fun e w' => e = .returned (.tuple #[.string ⟨(Lib.trimPrefix s.data.toList p.data.toList).toArray⟩, .bool (Lib.hasPrefix s.data.toList p.data.toList)]) ∧ w' = w := Any.stringslite_CutPrefix Tryz.lays210 s p w
def Tryz.lays103_ren : Go.Shelf.Ren := ⟨fun | 103 => 101 | 210 => 111 | 206 => 57 | n => n, fun | 9 => 9 | 4 => 4 | 24 => 142 | 3 => 3 | n => n, fun | n => n⟩
theorem Tryz.lays103 : Go.Proofs.Lays.n103 Tryz.prog Tryz.lays103_ren := {
  mixed := by kernel_rfl
  f103 := Tryz.func101.trans (congrArg some (by kernel_rfl))
  f206 := Tryz.func57.trans (congrArg some (by kernel_rfl))
  f210 := Tryz.func111.trans (congrArg some (by kernel_rfl))
  t3 := Tryz.underlying3
  a3 := Tryz.isAgg3
  z3 := Tryz.sizeOf3
  v3 := Tryz.zeroValue3
  t4 := Tryz.underlying4
  a4 := Tryz.isAgg4
  z4 := Tryz.sizeOf4
  v4 := Tryz.zeroValue4
  t9 := Tryz.underlying9
  a9 := Tryz.isAgg9
  z9 := Tryz.sizeOf9
  v9 := Tryz.zeroValue9
  t24 := Tryz.underlying142
  a24 := Tryz.isAgg142
  z24 := Tryz.sizeOf142
  v24 := Tryz.zeroValue142 }
open Go.RowKit in
/-- strings.CutPrefix: "CutPrefix returns s without the provided leading prefix string and reports whether it found the prefix. If s doesn't start with prefix, CutPrefix returns s, false. If prefix is the empty string, CutPrefix returns s, true.": IT RETURNS '(Lib.trimPrefix s p, Lib.hasPrefix s p)'; the world is as it was. (LAID: no walk: one application.) -/
theorem Tryz.strings_CutPrefix (s p : ByteArray) (w : World) :
    Calls Tryz.prog 101 #[.string s, .string p] w fun e w' => e = .returned (.tuple #[.string ⟨(Lib.trimPrefix s.data.toList p.data.toList).toArray⟩, .bool (Lib.hasPrefix s.data.toList p.data.toList)]) ∧ w' = w := Any.strings_CutPrefix Tryz.lays103 s p w
open Go.RowKit in
/-- (*strings.Builder).Len: "Len returns the number of accumulated bytes; b.Len() == len(b.String()).": the world is as it was. (THE FORM '_f': 'Lib.IsBuilderF'.) (LAID: no walk: one application.) -/
theorem Tryz.Builder_Len_f (B b : Nat) (bs : List Value) (w : World) (h : Lib.IsBuilderF 75 5 B b bs w) :
    Calls Tryz.prog 33 #[.pointer (some ⟨b, 0, none⟩)] w fun e w' => e = .returned (.int .i64 bs.length) ∧ w' = w := Any.Builder_Len_f Tryz.lays170 B b bs w h
open Go.RowKit in
/-- (*strings.Builder).String: "String returns the accumulated string.": OF A BUILDER THAT HOLDS AT LEAST ONE BYTE. ✋ THE MODEL FREEZES THOSE BYTES IN THE BUFFER (unsafe.String): a later write INTO them ends the model's run without an answer; a later append BEHIND them goes on. The statement's order of evaluation is drawn: one draw. THE FORM '_f': IT SAYS BESIDES THAT THE BUILDER IS A BUILDER STILL ('Lib.IsBuilderF', the same bytes): SO IT CAN BE WRITTEN ON: 'b.WriteString(b.String()[:k])'. (LAID: no walk: one application.) -/
theorem Tryz.Builder_String_f (B b : Nat) (l : List UInt8) (w : World) (h : Lib.IsBuilderF 75 5 B b (Lib.byteCells l) w) (h0 : l ≠ []) :
    Calls Tryz.prog 34 #[.pointer (some ⟨b, 0, none⟩)] w fun e w' => e = .returned (.string ⟨l.toArray⟩) ∧ (Lib.IsBuilderF 75 5 B b (Lib.byteCells l) w' ∧ Below B w w') := Any.Builder_String_f Tryz.lays169 Tryz.Builder_Extra_169 B b l w h h0
open Go.RowKit in
/-- (*strings.Builder).String OF A BUILDER THAT HOLDS NO BYTE: the empty string; THE FORM '_f': a builder still. (LAID: no walk: one application.) -/
theorem Tryz.Builder_String_empty_f (B b : Nat) (w : World) (h : Lib.IsBuilderF 75 5 B b [] w) (hBw : B ≤ w.heap.size) :
    Calls Tryz.prog 34 #[.pointer (some ⟨b, 0, none⟩)] w fun e w' => e = .returned (.string ⟨#[]⟩) ∧ (Lib.IsBuilderF 75 5 B b [] w' ∧ Below B w w') := Any.Builder_String_empty_f Tryz.lays169 Tryz.Builder_Extra_169 B b w h hBw
open Go.RowKit in
/-- (*strings.Builder).String: "String returns the accumulated string.": WHATEVER THE BUILDER HOLDS; THE FORM '_f': OF A BUILDER THAT MAY HAVE BEEN READ BEFORE; AND IT IS A BUILDER STILL, holding the same bytes: it can be written on. (LAID: no walk: one application.) -/
theorem Tryz.Builder_String_any_f (B b : Nat) (l : List UInt8) (w : World) (h : Lib.IsBuilderF 75 5 B b (Lib.byteCells l) w) (hBw : B ≤ w.heap.size) :
    Calls Tryz.prog 34 #[.pointer (some ⟨b, 0, none⟩)] w fun e w' => e = .returned (.string ⟨l.toArray⟩) ∧ (Lib.IsBuilderF 75 5 B b (Lib.byteCells l) w' ∧ Below B w w') := Any.Builder_String_any_f Tryz.lays169 Tryz.Builder_Extra_169 B b l w h hBw
def Tryz.lays195_ren : Go.Shelf.Ren := ⟨fun | 195 => 76 | n => n, fun | 9 => 9 | 3 => 3 | 0 => 0 | 4 => 4 | n => n, fun | n => n⟩
theorem Tryz.lays195 : Go.Proofs.Lays.n195 Tryz.prog Tryz.lays195_ren := {
  mixed := by kernel_rfl
  f195 := Tryz.func76.trans (congrArg some (by kernel_rfl))
  t0 := Tryz.underlying0
  a0 := Tryz.isAgg0
  z0 := Tryz.sizeOf0
  v0 := Tryz.zeroValue0
  t3 := Tryz.underlying3
  a3 := Tryz.isAgg3
  z3 := Tryz.sizeOf3
  v3 := Tryz.zeroValue3
  t4 := Tryz.underlying4
  a4 := Tryz.isAgg4
  z4 := Tryz.sizeOf4
  v4 := Tryz.zeroValue4
  t9 := Tryz.underlying9
  a9 := Tryz.isAgg9
  z9 := Tryz.sizeOf9
  v9 := Tryz.zeroValue9 }
open Go.RowKit in
/-- unicode/utf8.RuneCountInString: "RuneCountInString is like RuneCount but its input is a string." ("RuneCount returns the number of runes in p. Erroneous and short encodings are treated as single runes of width 1 byte."): EVERY STRING, valid UTF-8 or not: 'Lib.runeCount s' (plain Lean over the model's own 'Utf8.decode'; 'Lib.runeCount_le': at most len(s); 'Lib.runeCount_ascii': on ASCII: len(s)). THE ONE CONDITION: len(s) below 2^63 - 1 (the counter does not wrap): the form's reach pays it. THE WORLD BEHIND THE CALL: ONE BLOCK MORE: the model's iterator over s, at its end: all else as it was. (LAID: no walk: one application.) -/
theorem Tryz.utf8_RuneCountInString (s : ByteArray) (w : World) (hs : s.size < 9223372036854775807) :
    Calls Tryz.prog 76 #[.string s] w fun e w' => e = .returned (.int .i64 (Lib.runeCount s)) ∧ ∃ pos, w' = w.iter s pos := Any.utf8_RuneCountInString Tryz.lays195 s w hs
def Tryz.lays217_ren : Go.Shelf.Ren := ⟨fun | 217 => 94 | 266 => 107 | n => n, fun | 9 => 9 | 5 => 5 | 3 => 3 | n => n, fun | n => n⟩
theorem Tryz.lays217 : Go.Proofs.Lays.n217 Tryz.prog Tryz.lays217_ren := {
  mixed := by kernel_rfl
  f217 := Tryz.func94.trans (congrArg some (by kernel_rfl))
  f266 := Tryz.func107.trans (congrArg some (by kernel_rfl))
  t3 := Tryz.underlying3
  a3 := Tryz.isAgg3
  z3 := Tryz.sizeOf3
  v3 := Tryz.zeroValue3
  t5 := Tryz.underlying5
  a5 := Tryz.isAgg5
  z5 := Tryz.sizeOf5
  v5 := Tryz.zeroValue5
  t9 := Tryz.underlying9
  a9 := Tryz.isAgg9
  z9 := Tryz.sizeOf9
  v9 := Tryz.zeroValue9 }
open Go.RowKit Go.Lib in
/-- internal/stringslite.IndexByte (what strings.IndexByte calls): IT RETURNS 'Lib.indexByte s c'; the world is as it was. (LAID: no walk: one application.) -/
theorem Tryz.stringslite_IndexByte (s : ByteArray) (c : Int) (w : World) :
    Calls Tryz.prog 94 #[.string s, .int .u8 c] w fun e w' => e = .returned (.int .i64 (Lib.indexByte s.data.toList c.toNat.toUInt8)) ∧ w' = w := Any.stringslite_IndexByte Tryz.lays217 s c w
def Tryz.lays224_ren : Go.Shelf.Ren := ⟨fun | 224 => 96 | n => n, fun | 3 => 3 | n => n, fun | n => n⟩
theorem Tryz.lays224 : Go.Proofs.Lays.n224 Tryz.prog Tryz.lays224_ren := {
  mixed := by kernel_rfl
  f224 := Tryz.func96.trans (congrArg some (by kernel_rfl))
  t3 := Tryz.underlying3
  a3 := Tryz.isAgg3
  z3 := Tryz.sizeOf3
  v3 := Tryz.zeroValue3 }
open Go.RowKit Go.Lib in
/-- internal/bytealg.Cutover: "Cutover reports the number of failures of IndexByte we should tolerate before switching over to Index. n is the number of bytes processed so far.": on amd64: (n + 16) / 8. (LAID: no walk: one application.) -/
theorem Tryz.bytealg_Cutover (n : Int) (h0 : 0 ≤ n) (h1 : n < 4611686018427387904) (w : World) :
    Calls Tryz.prog 96 #[.int .i64 n] w fun e w' => e = .returned (.int .i64 ((n + 16) / 8)) ∧ w' = w := Any.bytealg_Cutover Tryz.lays224 n h0 h1 w
def Tryz.lays314_ren : Go.Shelf.Ren := ⟨fun | 314 => 108 | n => n, fun | 9 => 9 | 51 => 108 | 3 => 3 | 4 => 4 | 5 => 5 | 46 => 69 | n => n, fun | n => n⟩
theorem Tryz.lays314 : Go.Proofs.Lays.n314 Tryz.prog Tryz.lays314_ren := {
  mixed := by kernel_rfl
  f314 := Tryz.func108.trans (congrArg some (by kernel_rfl))
  t3 := Tryz.underlying3
  a3 := Tryz.isAgg3
  z3 := Tryz.sizeOf3
  v3 := Tryz.zeroValue3
  t4 := Tryz.underlying4
  a4 := Tryz.isAgg4
  z4 := Tryz.sizeOf4
  v4 := Tryz.zeroValue4
  t5 := Tryz.underlying5
  a5 := Tryz.isAgg5
  z5 := Tryz.sizeOf5
  v5 := Tryz.zeroValue5
  t9 := Tryz.underlying9
  a9 := Tryz.isAgg9
  z9 := Tryz.sizeOf9
  v9 := Tryz.zeroValue9
  t46 := Tryz.underlying69
  a46 := Tryz.isAgg69
  z46 := Tryz.sizeOf69
  v46 := Tryz.zeroValue69
  t51 := Tryz.underlying108
  a51 := Tryz.isAgg108
  z51 := Tryz.sizeOf108
  v51 := Tryz.zeroValue108 }
open Go.RowKit Go.Lib in
/-- hashStr: "returns the hash and the appropriate multiplicative factor for use in Rabin-Karp algorithm": THE HASH OF ALL OF sep, AND 16777619 ^ len(sep), both in uint32. (LAID: no walk: one application.) -/
theorem Tryz.bytealg_hashStr (sep : ByteArray) (hs : sep.size < 4294967281) (w : World) :
    Calls Tryz.prog 108 #[.string sep] w fun e w' => e = .returned (.tuple #[.int .u32 (RK.H sep.data.toList % 4294967296), .int .u32 (16777619 ^ sep.size % 4294967296)]) ∧ w' = w := Any.bytealg_hashStr Tryz.lays314 sep hs w
def Tryz.lays267_ren : Go.Shelf.Ren := ⟨fun | 267 => 97 | 314 => 108 | n => n, fun | 9 => 9 | 3 => 3 | 146 => 109 | 51 => 108 | 4 => 4 | 5 => 5 | 46 => 69 | n => n, fun | n => n⟩
theorem Tryz.lays267 : Go.Proofs.Lays.n267 Tryz.prog Tryz.lays267_ren := {
  mixed := by kernel_rfl
  f267 := Tryz.func97.trans (congrArg some (by kernel_rfl))
  f314 := Tryz.func108.trans (congrArg some (by kernel_rfl))
  t3 := Tryz.underlying3
  a3 := Tryz.isAgg3
  z3 := Tryz.sizeOf3
  v3 := Tryz.zeroValue3
  t4 := Tryz.underlying4
  a4 := Tryz.isAgg4
  z4 := Tryz.sizeOf4
  v4 := Tryz.zeroValue4
  t5 := Tryz.underlying5
  a5 := Tryz.isAgg5
  z5 := Tryz.sizeOf5
  v5 := Tryz.zeroValue5
  t9 := Tryz.underlying9
  a9 := Tryz.isAgg9
  z9 := Tryz.sizeOf9
  v9 := Tryz.zeroValue9
  t46 := Tryz.underlying69
  a46 := Tryz.isAgg69
  z46 := Tryz.sizeOf69
  v46 := Tryz.zeroValue69
  t51 := Tryz.underlying108
  a51 := Tryz.isAgg108
  z51 := Tryz.sizeOf108
  v51 := Tryz.zeroValue108
  t146 := Tryz.underlying109
  a146 := Tryz.isAgg109
  z146 := Tryz.sizeOf109
  v146 := Tryz.zeroValue109 }
open Go.RowKit Go.Lib in
theorem Tryz.bytealg_IndexRabinKarp (s sep : ByteArray) (h1 : 1 ≤ sep.size) (h2 : sep.size ≤ s.size) (hs : s.size < 4294967281) (w : World) :
    Calls Tryz.prog 97 #[.string s, .string sep] w fun e w' => e = .returned (.int .i64 (Lib.index s.data.toList sep.data.toList)) ∧ w' = w := Any.bytealg_IndexRabinKarp Tryz.lays267 s sep h1 h2 hs w
def Tryz.lays219_ren : Go.Shelf.Ren := ⟨fun | 219 => 79 | 217 => 94 | 225 => 95 | 224 => 96 | 267 => 97 | 266 => 107 | 314 => 108 | n => n, fun | 9 => 9 | 3 => 3 | 4 => 4 | 5 => 5 | 46 => 69 | 146 => 109 | 51 => 108 | n => n, fun | 1 => 0 | n => n⟩
theorem Tryz.lays219 : Go.Proofs.Lays.n219 Tryz.prog Tryz.lays219_ren := {
  mixed := by kernel_rfl
  f217 := Tryz.func94.trans (congrArg some (by kernel_rfl))
  f219 := Tryz.func79.trans (congrArg some (by kernel_rfl))
  f224 := Tryz.func96.trans (congrArg some (by kernel_rfl))
  f225 := Tryz.func95.trans (congrArg some (by kernel_rfl))
  f266 := Tryz.func107.trans (congrArg some (by kernel_rfl))
  f267 := Tryz.func97.trans (congrArg some (by kernel_rfl))
  f314 := Tryz.func108.trans (congrArg some (by kernel_rfl))
  t3 := Tryz.underlying3
  a3 := Tryz.isAgg3
  z3 := Tryz.sizeOf3
  v3 := Tryz.zeroValue3
  t4 := Tryz.underlying4
  a4 := Tryz.isAgg4
  z4 := Tryz.sizeOf4
  v4 := Tryz.zeroValue4
  t5 := Tryz.underlying5
  a5 := Tryz.isAgg5
  z5 := Tryz.sizeOf5
  v5 := Tryz.zeroValue5
  t9 := Tryz.underlying9
  a9 := Tryz.isAgg9
  z9 := Tryz.sizeOf9
  v9 := Tryz.zeroValue9
  t46 := Tryz.underlying69
  a46 := Tryz.isAgg69
  z46 := Tryz.sizeOf69
  v46 := Tryz.zeroValue69
  t51 := Tryz.underlying108
  a51 := Tryz.isAgg108
  z51 := Tryz.sizeOf108
  v51 := Tryz.zeroValue108
  t146 := Tryz.underlying109
  a146 := Tryz.isAgg109
  z146 := Tryz.sizeOf109
  v146 := Tryz.zeroValue109
  g1 := by kernel_rfl }
open Go.RowKit Go.Lib in
/-- internal/stringslite.Index (what strings.Index calls) AT A substr OF ONE BYTE c: IT RETURNS 'Lib.indexByte s c'; the world is as it was. (LAID: no walk: one application.) -/
theorem Tryz.stringslite_Index_one (s : ByteArray) (c : UInt8) (w : World) :
    Calls Tryz.prog 79 #[.string s, .string ⟨#[c]⟩] w fun e w' => e = .returned (.int .i64 (Lib.indexByte s.data.toList c)) ∧ w' = w := Any.stringslite_Index_one Tryz.lays219 s c w
open Go.RowKit Go.Lib in
/-- internal/stringslite.Index (what strings.Index calls) AT A substr OF WHATEVER LENGTH: IT RETURNS 'Lib.index s substr'; the world is as it was. 'm': what internal/bytealg.MaxLen holds: whatever. (LAID: no walk: one application.) -/
theorem Tryz.stringslite_Index (s sub : ByteArray) (m : Int) (w : World) (hs : s.size < 4294967281) (hm : w.cell? ⟨0, 0, none⟩ = some (.int .i64 m)) :
    Calls Tryz.prog 79 #[.string s, .string sub] w fun e w' => e = .returned (.int .i64 (Lib.index s.data.toList sub.data.toList)) ∧ w' = w := Any.stringslite_Index Tryz.lays219 s sub m w hs hm
def Tryz.lays143_ren : Go.Shelf.Ren := ⟨fun | 143 => 54 | 219 => 79 | 217 => 94 | 225 => 95 | 224 => 96 | 267 => 97 | 266 => 107 | 314 => 108 | n => n, fun | 9 => 9 | 3 => 3 | 4 => 4 | 5 => 5 | 46 => 69 | 146 => 109 | 51 => 108 | n => n, fun | 1 => 0 | n => n⟩
theorem Tryz.lays143 : Go.Proofs.Lays.n143 Tryz.prog Tryz.lays143_ren := {
  mixed := by kernel_rfl
  f143 := Tryz.func54.trans (congrArg some (by kernel_rfl))
  f217 := Tryz.func94.trans (congrArg some (by kernel_rfl))
  f219 := Tryz.func79.trans (congrArg some (by kernel_rfl))
  f224 := Tryz.func96.trans (congrArg some (by kernel_rfl))
  f225 := Tryz.func95.trans (congrArg some (by kernel_rfl))
  f266 := Tryz.func107.trans (congrArg some (by kernel_rfl))
  f267 := Tryz.func97.trans (congrArg some (by kernel_rfl))
  f314 := Tryz.func108.trans (congrArg some (by kernel_rfl))
  t3 := Tryz.underlying3
  a3 := Tryz.isAgg3
  z3 := Tryz.sizeOf3
  v3 := Tryz.zeroValue3
  t4 := Tryz.underlying4
  a4 := Tryz.isAgg4
  z4 := Tryz.sizeOf4
  v4 := Tryz.zeroValue4
  t5 := Tryz.underlying5
  a5 := Tryz.isAgg5
  z5 := Tryz.sizeOf5
  v5 := Tryz.zeroValue5
  t9 := Tryz.underlying9
  a9 := Tryz.isAgg9
  z9 := Tryz.sizeOf9
  v9 := Tryz.zeroValue9
  t46 := Tryz.underlying69
  a46 := Tryz.isAgg69
  z46 := Tryz.sizeOf69
  v46 := Tryz.zeroValue69
  t51 := Tryz.underlying108
  a51 := Tryz.isAgg108
  z51 := Tryz.sizeOf108
  v51 := Tryz.zeroValue108
  t146 := Tryz.underlying109
  a146 := Tryz.isAgg109
  z146 := Tryz.sizeOf109
  v146 := Tryz.zeroValue109
  g1 := by kernel_rfl }
open Go.RowKit Go.Lib in
/-- strings.Index: "Index returns the index of the first instance of substr in s, or -1 if substr is not present in s.": AT A substr OF ONE BYTE c: IT RETURNS 'Lib.indexByte s c'; the world is as it was. (LAID: no walk: one application.) -/
theorem Tryz.strings_Index_one (s : ByteArray) (c : UInt8) (w : World) :
    Calls Tryz.prog 54 #[.string s, .string ⟨#[c]⟩] w fun e w' => e = .returned (.int .i64 (Lib.indexByte s.data.toList c)) ∧ w' = w := Any.strings_Index_one Tryz.lays143 s c w
open Go.RowKit Go.Lib in
/-- strings.Index: "Index returns the index of the first instance of substr in s, or -1 if substr is not present in s.": IT RETURNS 'Lib.index s substr'; the world is as it was. (LAID: no walk: one application.) -/
theorem Tryz.strings_Index (s sub : ByteArray) (m : Int) (w : World) (hs : s.size < 4294967281) (hm : w.cell? ⟨0, 0, none⟩ = some (.int .i64 m)) :
    Calls Tryz.prog 54 #[.string s, .string sub] w fun e w' => e = .returned (.int .i64 (Lib.index s.data.toList sub.data.toList)) ∧ w' = w := Any.strings_Index Tryz.lays143 s sub m w hs hm
def Tryz.lays220_ren : Go.Shelf.Ren := ⟨fun | 220 => 112 | 219 => 79 | 217 => 94 | 225 => 95 | 224 => 96 | 267 => 97 | 266 => 107 | 314 => 108 | n => n, fun | 9 => 9 | 4 => 4 | 3 => 3 | 5 => 5 | 46 => 69 | 146 => 109 | 51 => 108 | n => n, fun | 1 => 0 | n => n⟩
theorem Tryz.lays220 : Go.Proofs.Lays.n220 Tryz.prog Tryz.lays220_ren := {
  mixed := by kernel_rfl
  f217 := Tryz.func94.trans (congrArg some (by kernel_rfl))
  f219 := Tryz.func79.trans (congrArg some (by kernel_rfl))
  f220 := Tryz.func112.trans (congrArg some (by kernel_rfl))
  f224 := Tryz.func96.trans (congrArg some (by kernel_rfl))
  f225 := Tryz.func95.trans (congrArg some (by kernel_rfl))
  f266 := Tryz.func107.trans (congrArg some (by kernel_rfl))
  f267 := Tryz.func97.trans (congrArg some (by kernel_rfl))
  f314 := Tryz.func108.trans (congrArg some (by kernel_rfl))
  t3 := Tryz.underlying3
  a3 := Tryz.isAgg3
  z3 := Tryz.sizeOf3
  v3 := Tryz.zeroValue3
  t4 := Tryz.underlying4
  a4 := Tryz.isAgg4
  z4 := Tryz.sizeOf4
  v4 := Tryz.zeroValue4
  t5 := Tryz.underlying5
  a5 := Tryz.isAgg5
  z5 := Tryz.sizeOf5
  v5 := Tryz.zeroValue5
  t9 := Tryz.underlying9
  a9 := Tryz.isAgg9
  z9 := Tryz.sizeOf9
  v9 := Tryz.zeroValue9
  t46 := Tryz.underlying69
  a46 := Tryz.isAgg69
  z46 := Tryz.sizeOf69
  v46 := Tryz.zeroValue69
  t51 := Tryz.underlying108
  a51 := Tryz.isAgg108
  z51 := Tryz.sizeOf108
  v51 := Tryz.zeroValue108
  t146 := Tryz.underlying109
  a146 := Tryz.isAgg109
  z146 := Tryz.sizeOf109
  v146 := Tryz.zeroValue109
  g1 := by kernel_rfl }
open Go.RowKit Go.Lib in
/-- internal/stringslite.Cut (what strings.Cut calls): IT RETURNS 'Lib.cut s sep'; the world is as it was but for the count of draws. (LAID: no walk: one application.) -/
theorem Tryz.stringslite_Cut (s sep : ByteArray) (m : Int) (w : World) (hs : s.size < 4294967281) (hm : w.cell? ⟨0, 0, none⟩ = some (.int .i64 m)) :
    Calls Tryz.prog 112 #[.string s, .string sep] w fun e w' => e = .returned (.tuple #[.string ⟨(Lib.cut s.data.toList sep.data.toList).1.toArray⟩, .string ⟨(Lib.cut s.data.toList sep.data.toList).2.1.toArray⟩, .bool (Lib.cut s.data.toList sep.data.toList).2.2]) ∧ ∃ n, w' = w.drewN n := Any.stringslite_Cut Tryz.lays220 s sep m w hs hm
def Tryz.lays145_ren : Go.Shelf.Ren := ⟨fun | 145 => 102 | 220 => 112 | 219 => 79 | 217 => 94 | 225 => 95 | 224 => 96 | 267 => 97 | 266 => 107 | 314 => 108 | n => n, fun | 9 => 9 | 4 => 4 | 59 => 144 | 3 => 3 | 5 => 5 | 46 => 69 | 146 => 109 | 51 => 108 | n => n, fun | 1 => 0 | n => n⟩
theorem Tryz.lays145 : Go.Proofs.Lays.n145 Tryz.prog Tryz.lays145_ren := {
  mixed := by kernel_rfl
  f145 := Tryz.func102.trans (congrArg some (by kernel_rfl))
  f217 := Tryz.func94.trans (congrArg some (by kernel_rfl))
  f219 := Tryz.func79.trans (congrArg some (by kernel_rfl))
  f220 := Tryz.func112.trans (congrArg some (by kernel_rfl))
  f224 := Tryz.func96.trans (congrArg some (by kernel_rfl))
  f225 := Tryz.func95.trans (congrArg some (by kernel_rfl))
  f266 := Tryz.func107.trans (congrArg some (by kernel_rfl))
  f267 := Tryz.func97.trans (congrArg some (by kernel_rfl))
  f314 := Tryz.func108.trans (congrArg some (by kernel_rfl))
  t3 := Tryz.underlying3
  a3 := Tryz.isAgg3
  z3 := Tryz.sizeOf3
  v3 := Tryz.zeroValue3
  t4 := Tryz.underlying4
  a4 := Tryz.isAgg4
  z4 := Tryz.sizeOf4
  v4 := Tryz.zeroValue4
  t5 := Tryz.underlying5
  a5 := Tryz.isAgg5
  z5 := Tryz.sizeOf5
  v5 := Tryz.zeroValue5
  t9 := Tryz.underlying9
  a9 := Tryz.isAgg9
  z9 := Tryz.sizeOf9
  v9 := Tryz.zeroValue9
  t46 := Tryz.underlying69
  a46 := Tryz.isAgg69
  z46 := Tryz.sizeOf69
  v46 := Tryz.zeroValue69
  t51 := Tryz.underlying108
  a51 := Tryz.isAgg108
  z51 := Tryz.sizeOf108
  v51 := Tryz.zeroValue108
  t59 := Tryz.underlying144
  a59 := Tryz.isAgg144
  z59 := Tryz.sizeOf144
  v59 := Tryz.zeroValue144
  t146 := Tryz.underlying109
  a146 := Tryz.isAgg109
  z146 := Tryz.sizeOf109
  v146 := Tryz.zeroValue109
  g1 := by kernel_rfl }
open Go.RowKit Go.Lib in
/-- strings.Cut: "Cut slices s around the first instance of sep, returning the text before and after sep. The found result reports whether sep appears in s. If sep does not appear in s, cut returns s, "", false.": IT RETURNS 'Lib.cut s sep'; the world is as it was but for the count of draws. (LAID: no walk: one application.) -/
theorem Tryz.strings_Cut (s sep : ByteArray) (m : Int) (w : World) (hs : s.size < 4294967281) (hm : w.cell? ⟨0, 0, none⟩ = some (.int .i64 m)) :
    Calls Tryz.prog 102 #[.string s, .string sep] w fun e w' => e = .returned (.tuple #[.string ⟨(Lib.cut s.data.toList sep.data.toList).1.toArray⟩, .string ⟨(Lib.cut s.data.toList sep.data.toList).2.1.toArray⟩, .bool (Lib.cut s.data.toList sep.data.toList).2.2]) ∧ ∃ n, w' = w.drewN n := Any.strings_Cut Tryz.lays145 s sep m w hs hm
def Tryz.lays138_ren : Go.Shelf.Ren := ⟨fun | 138 => 53 | 195 => 76 | 218 => 78 | 143 => 54 | 219 => 79 | 217 => 94 | 225 => 95 | 224 => 96 | 267 => 97 | 266 => 107 | 314 => 108 | n => n, fun | 9 => 9 | 3 => 3 | 4 => 4 | 5 => 5 | 0 => 0 | 46 => 69 | 146 => 109 | 51 => 108 | n => n, fun | 1 => 0 | n => n⟩
theorem Tryz.lays138 : Go.Proofs.Lays.n138 Tryz.prog Tryz.lays138_ren := {
  mixed := by kernel_rfl
  f138 := Tryz.func53.trans (congrArg some (by kernel_rfl))
  f143 := Tryz.func54.trans (congrArg some (by kernel_rfl))
  f195 := Tryz.func76.trans (congrArg some (by kernel_rfl))
  f217 := Tryz.func94.trans (congrArg some (by kernel_rfl))
  f218 := Tryz.func78.trans (congrArg some (by kernel_rfl))
  f219 := Tryz.func79.trans (congrArg some (by kernel_rfl))
  f224 := Tryz.func96.trans (congrArg some (by kernel_rfl))
  f225 := Tryz.func95.trans (congrArg some (by kernel_rfl))
  f266 := Tryz.func107.trans (congrArg some (by kernel_rfl))
  f267 := Tryz.func97.trans (congrArg some (by kernel_rfl))
  f314 := Tryz.func108.trans (congrArg some (by kernel_rfl))
  t0 := Tryz.underlying0
  a0 := Tryz.isAgg0
  z0 := Tryz.sizeOf0
  v0 := Tryz.zeroValue0
  t3 := Tryz.underlying3
  a3 := Tryz.isAgg3
  z3 := Tryz.sizeOf3
  v3 := Tryz.zeroValue3
  t4 := Tryz.underlying4
  a4 := Tryz.isAgg4
  z4 := Tryz.sizeOf4
  v4 := Tryz.zeroValue4
  t5 := Tryz.underlying5
  a5 := Tryz.isAgg5
  z5 := Tryz.sizeOf5
  v5 := Tryz.zeroValue5
  t9 := Tryz.underlying9
  a9 := Tryz.isAgg9
  z9 := Tryz.sizeOf9
  v9 := Tryz.zeroValue9
  t46 := Tryz.underlying69
  a46 := Tryz.isAgg69
  z46 := Tryz.sizeOf69
  v46 := Tryz.zeroValue69
  t51 := Tryz.underlying108
  a51 := Tryz.isAgg108
  z51 := Tryz.sizeOf108
  v51 := Tryz.zeroValue108
  t146 := Tryz.underlying109
  a146 := Tryz.isAgg109
  z146 := Tryz.sizeOf109
  v146 := Tryz.zeroValue109
  g1 := by kernel_rfl }
open Go.RowKit Go.Lib in
/-- strings.Count AT A substr OF ONE BYTE ('hp'): "Count counts the number of non-overlapping instances of substr in s.": IT RETURNS 'Lib.countByte s (that byte)'; the world is as it was. ✋ NO CONTRACT HERE YET at an empty substr (utf8.RuneCountInString) or at a longer one (a loop over strings.Index). (LAID: no walk: one application.) -/
theorem Tryz.strings_Count_one (s : ByteArray) (c : UInt8) (w : World) :
    Calls Tryz.prog 53 #[.string s, .string ⟨#[c]⟩] w fun e w' => e = .returned (.int .i64 (Lib.countByte s.data.toList c)) ∧ w' = w := Any.strings_Count_one Tryz.lays138 s c w
open Go.RowKit Go.Lib in
/-- strings.Count AT A substr OF TWO BYTES OR MORE: "Count counts the number of non-overlapping instances of substr in s.": IT RETURNS 'Lib.count s substr'; the world is as it was. (LAID: no walk: one application.) -/
theorem Tryz.strings_Count (s sub : ByteArray) (m : Int) (w : World) (hs : s.size < 4294967281) (hm : w.cell? ⟨0, 0, none⟩ = some (.int .i64 m)) (h2 : 2 ≤ sub.size) :
    Calls Tryz.prog 53 #[.string s, .string sub] w fun e w' => e = .returned (.int .i64 (Lib.countB s sub)) ∧ w' = w := Any.strings_Count Tryz.lays138 s sub m w hs hm h2
def Tryz.laysM219_ren : Go.Shelf.Ren := ⟨fun | 219 => 79 | 217 => 94 | 225 => 95 | 224 => 96 | 267 => 97 | 266 => 107 | 314 => 108 | n => n, fun | 9 => 9 | 3 => 3 | 4 => 4 | 5 => 5 | 46 => 69 | 146 => 109 | 51 => 108 | n => n, fun | 1 => 0 | n => n⟩
theorem Tryz.laysM219 : Go.Proofs.LaysM.n219 Tryz.prog Tryz.laysM219_ren := {
  mixed := by kernel_rfl
  f217 := Tryz.func94.trans (congrArg some (by kernel_rfl))
  f219 := Tryz.func79.trans (congrArg some (by kernel_rfl))
  f224 := Tryz.func96.trans (congrArg some (by kernel_rfl))
  f225 := Tryz.func95.trans (congrArg some (by kernel_rfl))
  f266 := Tryz.func107.trans (congrArg some (by kernel_rfl))
  f267 := Tryz.func97.trans (congrArg some (by kernel_rfl))
  f314 := Tryz.func108.trans (congrArg some (by kernel_rfl))
  t3 := Tryz.underlying3
  a3 := Tryz.isAgg3
  z3 := Tryz.sizeOf3
  v3 := Tryz.zeroValue3
  t4 := Tryz.underlying4
  a4 := Tryz.isAgg4
  z4 := Tryz.sizeOf4
  v4 := Tryz.zeroValue4
  t5 := Tryz.underlying5
  a5 := Tryz.isAgg5
  z5 := Tryz.sizeOf5
  v5 := Tryz.zeroValue5
  t9 := Tryz.underlying9
  a9 := Tryz.isAgg9
  z9 := Tryz.sizeOf9
  v9 := Tryz.zeroValue9
  t46 := Tryz.underlying69
  a46 := Tryz.isAgg69
  z46 := Tryz.sizeOf69
  v46 := Tryz.zeroValue69
  t51 := Tryz.underlying108
  a51 := Tryz.isAgg108
  z51 := Tryz.sizeOf108
  v51 := Tryz.zeroValue108
  t146 := Tryz.underlying109
  a146 := Tryz.isAgg109
  z146 := Tryz.sizeOf109
  v146 := Tryz.zeroValue109
  g1 := by kernel_rfl
  i3 := by kernel_rfl
  i4 := by kernel_rfl
  i5 := by kernel_rfl
  i9 := by kernel_rfl
  i46 := by kernel_rfl
  i51 := by kernel_rfl
  i146 := by kernel_rfl
  m1 := by kernel_rfl
  s1_3 := fun w h => Go.Proofs.cell_of_shapedOpen_int (zero := #[.int .i64 0]) (t := 3) h (of_decide_eq_true (by kernel_rfl)) (by kernel_rfl) rfl (by kernel_rfl) (by kernel_rfl) Tryz.underlying3 }
open Go.RowKit Go.Lib in
theorem Tryz.stringslite_Index_shaped (s sub : ByteArray) (w : World) (h : w.ShapedOpen Tryz.prog) (hs : s.size < 4294967281) :
    Calls Tryz.prog 79 #[.string s, .string sub] w fun e w' => e = .returned (.int .i64 (Lib.index s.data.toList sub.data.toList)) ∧ w' = w := Any.stringslite_Index_shaped Tryz.laysM219 s sub w h hs
def Tryz.laysM143_ren : Go.Shelf.Ren := ⟨fun | 143 => 54 | 219 => 79 | 217 => 94 | 225 => 95 | 224 => 96 | 267 => 97 | 266 => 107 | 314 => 108 | n => n, fun | 9 => 9 | 3 => 3 | 4 => 4 | 5 => 5 | 46 => 69 | 146 => 109 | 51 => 108 | n => n, fun | 1 => 0 | n => n⟩
theorem Tryz.laysM143 : Go.Proofs.LaysM.n143 Tryz.prog Tryz.laysM143_ren := {
  mixed := by kernel_rfl
  f143 := Tryz.func54.trans (congrArg some (by kernel_rfl))
  f217 := Tryz.func94.trans (congrArg some (by kernel_rfl))
  f219 := Tryz.func79.trans (congrArg some (by kernel_rfl))
  f224 := Tryz.func96.trans (congrArg some (by kernel_rfl))
  f225 := Tryz.func95.trans (congrArg some (by kernel_rfl))
  f266 := Tryz.func107.trans (congrArg some (by kernel_rfl))
  f267 := Tryz.func97.trans (congrArg some (by kernel_rfl))
  f314 := Tryz.func108.trans (congrArg some (by kernel_rfl))
  t3 := Tryz.underlying3
  a3 := Tryz.isAgg3
  z3 := Tryz.sizeOf3
  v3 := Tryz.zeroValue3
  t4 := Tryz.underlying4
  a4 := Tryz.isAgg4
  z4 := Tryz.sizeOf4
  v4 := Tryz.zeroValue4
  t5 := Tryz.underlying5
  a5 := Tryz.isAgg5
  z5 := Tryz.sizeOf5
  v5 := Tryz.zeroValue5
  t9 := Tryz.underlying9
  a9 := Tryz.isAgg9
  z9 := Tryz.sizeOf9
  v9 := Tryz.zeroValue9
  t46 := Tryz.underlying69
  a46 := Tryz.isAgg69
  z46 := Tryz.sizeOf69
  v46 := Tryz.zeroValue69
  t51 := Tryz.underlying108
  a51 := Tryz.isAgg108
  z51 := Tryz.sizeOf108
  v51 := Tryz.zeroValue108
  t146 := Tryz.underlying109
  a146 := Tryz.isAgg109
  z146 := Tryz.sizeOf109
  v146 := Tryz.zeroValue109
  g1 := by kernel_rfl
  i3 := by kernel_rfl
  i4 := by kernel_rfl
  i5 := by kernel_rfl
  i9 := by kernel_rfl
  i46 := by kernel_rfl
  i51 := by kernel_rfl
  i146 := by kernel_rfl
  m1 := by kernel_rfl
  s1_3 := fun w h => Go.Proofs.cell_of_shapedOpen_int (zero := #[.int .i64 0]) (t := 3) h (of_decide_eq_true (by kernel_rfl)) (by kernel_rfl) rfl (by kernel_rfl) (by kernel_rfl) Tryz.underlying3 }
open Go.RowKit Go.Lib in
theorem Tryz.strings_Index_shaped (s sub : ByteArray) (w : World) (h : w.ShapedOpen Tryz.prog) (hs : s.size < 4294967281) :
    Calls Tryz.prog 54 #[.string s, .string sub] w fun e w' => e = .returned (.int .i64 (Lib.index s.data.toList sub.data.toList)) ∧ w' = w := Any.strings_Index_shaped Tryz.laysM143 s sub w h hs
def Tryz.laysM220_ren : Go.Shelf.Ren := ⟨fun | 220 => 112 | 219 => 79 | 217 => 94 | 225 => 95 | 224 => 96 | 267 => 97 | 266 => 107 | 314 => 108 | n => n, fun | 9 => 9 | 4 => 4 | 3 => 3 | 5 => 5 | 46 => 69 | 146 => 109 | 51 => 108 | n => n, fun | 1 => 0 | n => n⟩
theorem Tryz.laysM220 : Go.Proofs.LaysM.n220 Tryz.prog Tryz.laysM220_ren := {
  mixed := by kernel_rfl
  f217 := Tryz.func94.trans (congrArg some (by kernel_rfl))
  f219 := Tryz.func79.trans (congrArg some (by kernel_rfl))
  f220 := Tryz.func112.trans (congrArg some (by kernel_rfl))
  f224 := Tryz.func96.trans (congrArg some (by kernel_rfl))
  f225 := Tryz.func95.trans (congrArg some (by kernel_rfl))
  f266 := Tryz.func107.trans (congrArg some (by kernel_rfl))
  f267 := Tryz.func97.trans (congrArg some (by kernel_rfl))
  f314 := Tryz.func108.trans (congrArg some (by kernel_rfl))
  t3 := Tryz.underlying3
  a3 := Tryz.isAgg3
  z3 := Tryz.sizeOf3
  v3 := Tryz.zeroValue3
  t4 := Tryz.underlying4
  a4 := Tryz.isAgg4
  z4 := Tryz.sizeOf4
  v4 := Tryz.zeroValue4
  t5 := Tryz.underlying5
  a5 := Tryz.isAgg5
  z5 := Tryz.sizeOf5
  v5 := Tryz.zeroValue5
  t9 := Tryz.underlying9
  a9 := Tryz.isAgg9
  z9 := Tryz.sizeOf9
  v9 := Tryz.zeroValue9
  t46 := Tryz.underlying69
  a46 := Tryz.isAgg69
  z46 := Tryz.sizeOf69
  v46 := Tryz.zeroValue69
  t51 := Tryz.underlying108
  a51 := Tryz.isAgg108
  z51 := Tryz.sizeOf108
  v51 := Tryz.zeroValue108
  t146 := Tryz.underlying109
  a146 := Tryz.isAgg109
  z146 := Tryz.sizeOf109
  v146 := Tryz.zeroValue109
  g1 := by kernel_rfl
  i3 := by kernel_rfl
  i4 := by kernel_rfl
  i5 := by kernel_rfl
  i9 := by kernel_rfl
  i46 := by kernel_rfl
  i51 := by kernel_rfl
  i146 := by kernel_rfl
  m1 := by kernel_rfl
  s1_3 := fun w h => Go.Proofs.cell_of_shapedOpen_int (zero := #[.int .i64 0]) (t := 3) h (of_decide_eq_true (by kernel_rfl)) (by kernel_rfl) rfl (by kernel_rfl) (by kernel_rfl) Tryz.underlying3 }
open Go.RowKit Go.Lib in
theorem Tryz.stringslite_Cut_shaped (s sep : ByteArray) (w : World) (h : w.ShapedOpen Tryz.prog) (hs : s.size < 4294967281) :
    Calls Tryz.prog 112 #[.string s, .string sep] w fun e w' => e = .returned (.tuple #[.string ⟨(Lib.cut s.data.toList sep.data.toList).1.toArray⟩, .string ⟨(Lib.cut s.data.toList sep.data.toList).2.1.toArray⟩, .bool (Lib.cut s.data.toList sep.data.toList).2.2]) ∧ ∃ n, w' = w.drewN n := Any.stringslite_Cut_shaped Tryz.laysM220 s sep w h hs
def Tryz.laysM145_ren : Go.Shelf.Ren := ⟨fun | 145 => 102 | 220 => 112 | 219 => 79 | 217 => 94 | 225 => 95 | 224 => 96 | 267 => 97 | 266 => 107 | 314 => 108 | n => n, fun | 9 => 9 | 4 => 4 | 59 => 144 | 3 => 3 | 5 => 5 | 46 => 69 | 146 => 109 | 51 => 108 | n => n, fun | 1 => 0 | n => n⟩
theorem Tryz.laysM145 : Go.Proofs.LaysM.n145 Tryz.prog Tryz.laysM145_ren := {
  mixed := by kernel_rfl
  f145 := Tryz.func102.trans (congrArg some (by kernel_rfl))
  f217 := Tryz.func94.trans (congrArg some (by kernel_rfl))
  f219 := Tryz.func79.trans (congrArg some (by kernel_rfl))
  f220 := Tryz.func112.trans (congrArg some (by kernel_rfl))
  f224 := Tryz.func96.trans (congrArg some (by kernel_rfl))
  f225 := Tryz.func95.trans (congrArg some (by kernel_rfl))
  f266 := Tryz.func107.trans (congrArg some (by kernel_rfl))
  f267 := Tryz.func97.trans (congrArg some (by kernel_rfl))
  f314 := Tryz.func108.trans (congrArg some (by kernel_rfl))
  t3 := Tryz.underlying3
  a3 := Tryz.isAgg3
  z3 := Tryz.sizeOf3
  v3 := Tryz.zeroValue3
  t4 := Tryz.underlying4
  a4 := Tryz.isAgg4
  z4 := Tryz.sizeOf4
  v4 := Tryz.zeroValue4
  t5 := Tryz.underlying5
  a5 := Tryz.isAgg5
  z5 := Tryz.sizeOf5
  v5 := Tryz.zeroValue5
  t9 := Tryz.underlying9
  a9 := Tryz.isAgg9
  z9 := Tryz.sizeOf9
  v9 := Tryz.zeroValue9
  t46 := Tryz.underlying69
  a46 := Tryz.isAgg69
  z46 := Tryz.sizeOf69
  v46 := Tryz.zeroValue69
  t51 := Tryz.underlying108
  a51 := Tryz.isAgg108
  z51 := Tryz.sizeOf108
  v51 := Tryz.zeroValue108
  t59 := Tryz.underlying144
  a59 := Tryz.isAgg144
  z59 := Tryz.sizeOf144
  v59 := Tryz.zeroValue144
  t146 := Tryz.underlying109
  a146 := Tryz.isAgg109
  z146 := Tryz.sizeOf109
  v146 := Tryz.zeroValue109
  g1 := by kernel_rfl
  i3 := by kernel_rfl
  i4 := by kernel_rfl
  i5 := by kernel_rfl
  i9 := by kernel_rfl
  i46 := by kernel_rfl
  i51 := by kernel_rfl
  i59 := by kernel_rfl
  i146 := by kernel_rfl
  m1 := by kernel_rfl
  s1_3 := fun w h => Go.Proofs.cell_of_shapedOpen_int (zero := #[.int .i64 0]) (t := 3) h (of_decide_eq_true (by kernel_rfl)) (by kernel_rfl) rfl (by kernel_rfl) (by kernel_rfl) Tryz.underlying3 }
open Go.RowKit Go.Lib in
theorem Tryz.strings_Cut_shaped (s sep : ByteArray) (w : World) (h : w.ShapedOpen Tryz.prog) (hs : s.size < 4294967281) :
    Calls Tryz.prog 102 #[.string s, .string sep] w fun e w' => e = .returned (.tuple #[.string ⟨(Lib.cut s.data.toList sep.data.toList).1.toArray⟩, .string ⟨(Lib.cut s.data.toList sep.data.toList).2.1.toArray⟩, .bool (Lib.cut s.data.toList sep.data.toList).2.2]) ∧ ∃ n, w' = w.drewN n := Any.strings_Cut_shaped Tryz.laysM145 s sep w h hs
def Tryz.laysM138_ren : Go.Shelf.Ren := ⟨fun | 138 => 53 | 195 => 76 | 218 => 78 | 143 => 54 | 219 => 79 | 217 => 94 | 225 => 95 | 224 => 96 | 267 => 97 | 266 => 107 | 314 => 108 | n => n, fun | 9 => 9 | 3 => 3 | 4 => 4 | 5 => 5 | 0 => 0 | 46 => 69 | 146 => 109 | 51 => 108 | n => n, fun | 1 => 0 | n => n⟩
theorem Tryz.laysM138 : Go.Proofs.LaysM.n138 Tryz.prog Tryz.laysM138_ren := {
  mixed := by kernel_rfl
  f138 := Tryz.func53.trans (congrArg some (by kernel_rfl))
  f143 := Tryz.func54.trans (congrArg some (by kernel_rfl))
  f195 := Tryz.func76.trans (congrArg some (by kernel_rfl))
  f217 := Tryz.func94.trans (congrArg some (by kernel_rfl))
  f218 := Tryz.func78.trans (congrArg some (by kernel_rfl))
  f219 := Tryz.func79.trans (congrArg some (by kernel_rfl))
  f224 := Tryz.func96.trans (congrArg some (by kernel_rfl))
  f225 := Tryz.func95.trans (congrArg some (by kernel_rfl))
  f266 := Tryz.func107.trans (congrArg some (by kernel_rfl))
  f267 := Tryz.func97.trans (congrArg some (by kernel_rfl))
  f314 := Tryz.func108.trans (congrArg some (by kernel_rfl))
  t0 := Tryz.underlying0
  a0 := Tryz.isAgg0
  z0 := Tryz.sizeOf0
  v0 := Tryz.zeroValue0
  t3 := Tryz.underlying3
  a3 := Tryz.isAgg3
  z3 := Tryz.sizeOf3
  v3 := Tryz.zeroValue3
  t4 := Tryz.underlying4
  a4 := Tryz.isAgg4
  z4 := Tryz.sizeOf4
  v4 := Tryz.zeroValue4
  t5 := Tryz.underlying5
  a5 := Tryz.isAgg5
  z5 := Tryz.sizeOf5
  v5 := Tryz.zeroValue5
  t9 := Tryz.underlying9
  a9 := Tryz.isAgg9
  z9 := Tryz.sizeOf9
  v9 := Tryz.zeroValue9
  t46 := Tryz.underlying69
  a46 := Tryz.isAgg69
  z46 := Tryz.sizeOf69
  v46 := Tryz.zeroValue69
  t51 := Tryz.underlying108
  a51 := Tryz.isAgg108
  z51 := Tryz.sizeOf108
  v51 := Tryz.zeroValue108
  t146 := Tryz.underlying109
  a146 := Tryz.isAgg109
  z146 := Tryz.sizeOf109
  v146 := Tryz.zeroValue109
  g1 := by kernel_rfl
  i0 := by kernel_rfl
  i3 := by kernel_rfl
  i4 := by kernel_rfl
  i5 := by kernel_rfl
  i9 := by kernel_rfl
  i46 := by kernel_rfl
  i51 := by kernel_rfl
  i146 := by kernel_rfl
  m1 := by kernel_rfl
  s1_3 := fun w h => Go.Proofs.cell_of_shapedOpen_int (zero := #[.int .i64 0]) (t := 3) h (of_decide_eq_true (by kernel_rfl)) (by kernel_rfl) rfl (by kernel_rfl) (by kernel_rfl) Tryz.underlying3 }
open Go.RowKit Go.Lib in
theorem Tryz.strings_Count_shaped (s sub : ByteArray) (w : World) (h : w.ShapedOpen Tryz.prog) (hs : s.size < 4294967281) (h2 : 2 ≤ sub.size) :
    Calls Tryz.prog 53 #[.string s, .string sub] w fun e w' => e = .returned (.int .i64 (Lib.countB s sub)) ∧ w' = w := Any.strings_Count_shaped Tryz.laysM138 s sub w h hs h2
def Tryz.lays206_ren : Go.Shelf.Ren := ⟨fun | 206 => 57 | n => n, fun | 9 => 9 | 4 => 4 | 3 => 3 | n => n, fun | n => n⟩
theorem Tryz.lays206 : Go.Proofs.Lays.n206 Tryz.prog Tryz.lays206_ren := {
  mixed := by kernel_rfl
  f206 := Tryz.func57.trans (congrArg some (by kernel_rfl))
  t3 := Tryz.underlying3
  a3 := Tryz.isAgg3
  z3 := Tryz.sizeOf3
  v3 := Tryz.zeroValue3
  t4 := Tryz.underlying4
  a4 := Tryz.isAgg4
  z4 := Tryz.sizeOf4
  v4 := Tryz.zeroValue4
  t9 := Tryz.underlying9
  a9 := Tryz.isAgg9
  z9 := Tryz.sizeOf9
  v9 := Tryz.zeroValue9 }
open Go.RowKit Go.Lib in
/-- internal/stringslite.HasPrefix (what strings.HasPrefix calls). (LAID: no walk: one application.) -/
theorem Tryz.stringslite_HasPrefix (s p : ByteArray) (w : World) :
    Calls Tryz.prog 57 #[.string s, .string p] w fun e w' => e = .returned (.bool (Lib.hasPrefix s.data.toList p.data.toList)) ∧ w' = w := Any.stringslite_HasPrefix Tryz.lays206 s p w
def Tryz.lays99_ren : Go.Shelf.Ren := ⟨fun | 99 => 30 | 206 => 57 | n => n, fun | 9 => 9 | 4 => 4 | 3 => 3 | n => n, fun | n => n⟩
theorem Tryz.lays99 : Go.Proofs.Lays.n99 Tryz.prog Tryz.lays99_ren := {
  mixed := by kernel_rfl
  f99 := Tryz.func30.trans (congrArg some (by kernel_rfl))
  f206 := Tryz.func57.trans (congrArg some (by kernel_rfl))
  t3 := Tryz.underlying3
  a3 := Tryz.isAgg3
  z3 := Tryz.sizeOf3
  v3 := Tryz.zeroValue3
  t4 := Tryz.underlying4
  a4 := Tryz.isAgg4
  z4 := Tryz.sizeOf4
  v4 := Tryz.zeroValue4
  t9 := Tryz.underlying9
  a9 := Tryz.isAgg9
  z9 := Tryz.sizeOf9
  v9 := Tryz.zeroValue9 }
open Go.RowKit Go.Lib in
/-- strings.HasPrefix: "HasPrefix reports whether the string s begins with prefix.": IT RETURNS 'Lib.hasPrefix s prefix'; the world is as it was. (LAID: no walk: one application.) -/
theorem Tryz.strings_HasPrefix (s p : ByteArray) (w : World) :
    Calls Tryz.prog 30 #[.string s, .string p] w fun e w' => e = .returned (.bool (Lib.hasPrefix s.data.toList p.data.toList)) ∧ w' = w := Any.strings_HasPrefix Tryz.lays99 s p w
open Go.RowKit Go.Lib in
/-- strings.Count at whatever sep that is not empty: the two roads under one statement. (LAID: no walk: one application.) -/
theorem Tryz.strings_Count_any (s sep : ByteArray) (m : Int) (w : World) (hs : s.size < 4294967281) (hm : w.cell? ⟨0, 0, none⟩ = some (.int .i64 m)) (h1 : 1 ≤ sep.size) :
    Calls Tryz.prog 53 #[.string s, .string sep] w fun e w' => e = .returned (.int .i64 (Lib.countB s sep)) ∧ w' = w := Any.strings_Count_any Tryz.lays138 s sep m w hs hm h1
def Tryz.lays221_ren : Go.Shelf.Ren := ⟨fun | 221 => 28 | 268 => 52 | 138 => 53 | 143 => 54 | 195 => 76 | 197 => 77 | 218 => 78 | 219 => 79 | 260 => 93 | 217 => 94 | 225 => 95 | 224 => 96 | 267 => 97 | 266 => 107 | 314 => 108 | n => n, fun | 9 => 9 | 3 => 3 | 31 => 23 | 4 => 4 | 0 => 0 | 105 => 129 | 21 => 21 | 5 => 5 | 46 => 69 | 119 => 153 | 139 => 156 | 138 => 155 | 146 => 109 | 51 => 108 | n => n, fun | 1 => 0 | 3 => 1 | 4 => 2 | n => n⟩
theorem Tryz.lays221 : Go.Proofs.Lays.n221 Tryz.prog Tryz.lays221_ren := {
  mixed := by kernel_rfl
  f138 := Tryz.func53.trans (congrArg some (by kernel_rfl))
  f143 := Tryz.func54.trans (congrArg some (by kernel_rfl))
  f195 := Tryz.func76.trans (congrArg some (by kernel_rfl))
  f197 := Tryz.func77.trans (congrArg some (by kernel_rfl))
  f217 := Tryz.func94.trans (congrArg some (by kernel_rfl))
  f218 := Tryz.func78.trans (congrArg some (by kernel_rfl))
  f219 := Tryz.func79.trans (congrArg some (by kernel_rfl))
  f221 := Tryz.func28.trans (congrArg some (by kernel_rfl))
  f224 := Tryz.func96.trans (congrArg some (by kernel_rfl))
  f225 := Tryz.func95.trans (congrArg some (by kernel_rfl))
  f260 := Tryz.func93.trans (congrArg some (by kernel_rfl))
  f266 := Tryz.func107.trans (congrArg some (by kernel_rfl))
  f267 := Tryz.func97.trans (congrArg some (by kernel_rfl))
  f268 := Tryz.func52.trans (congrArg some (by kernel_rfl))
  f314 := Tryz.func108.trans (congrArg some (by kernel_rfl))
  t0 := Tryz.underlying0
  a0 := Tryz.isAgg0
  z0 := Tryz.sizeOf0
  v0 := Tryz.zeroValue0
  t3 := Tryz.underlying3
  a3 := Tryz.isAgg3
  z3 := Tryz.sizeOf3
  v3 := Tryz.zeroValue3
  t4 := Tryz.underlying4
  a4 := Tryz.isAgg4
  z4 := Tryz.sizeOf4
  v4 := Tryz.zeroValue4
  t5 := Tryz.underlying5
  a5 := Tryz.isAgg5
  z5 := Tryz.sizeOf5
  v5 := Tryz.zeroValue5
  t9 := Tryz.underlying9
  a9 := Tryz.isAgg9
  z9 := Tryz.sizeOf9
  v9 := Tryz.zeroValue9
  t21 := Tryz.underlying21
  a21 := Tryz.isAgg21
  z21 := Tryz.sizeOf21
  v21 := Tryz.zeroValue21
  t31 := Tryz.underlying23
  a31 := Tryz.isAgg23
  z31 := Tryz.sizeOf23
  v31 := Tryz.zeroValue23
  t46 := Tryz.underlying69
  a46 := Tryz.isAgg69
  z46 := Tryz.sizeOf69
  v46 := Tryz.zeroValue69
  t51 := Tryz.underlying108
  a51 := Tryz.isAgg108
  z51 := Tryz.sizeOf108
  v51 := Tryz.zeroValue108
  t105 := Tryz.underlying129
  a105 := Tryz.isAgg129
  z105 := Tryz.sizeOf129
  v105 := Tryz.zeroValue129
  t119 := Tryz.underlying153
  a119 := Tryz.isAgg153
  z119 := Tryz.sizeOf153
  t138 := Tryz.underlying155
  a138 := Tryz.isAgg155
  z138 := Tryz.sizeOf155
  v138 := Tryz.zeroValue155
  t139 := Tryz.underlying156
  a139 := Tryz.isAgg156
  z139 := Tryz.sizeOf156
  v139 := Tryz.zeroValue156
  t146 := Tryz.underlying109
  a146 := Tryz.isAgg109
  z146 := Tryz.sizeOf109
  v146 := Tryz.zeroValue109
  g1 := by kernel_rfl
  g3 := by kernel_rfl
  g4 := by kernel_rfl }
open Go.RowKit Go.Lib in
theorem Tryz.strings_genSplit (s sep : ByteArray) (sv : Nat) (n : Int) (N : Nat) (m : Int) (w : World) (hs : s.size < 4294967281) (hm : w.cell? ⟨0, 0, none⟩ = some (.int .i64 m)) (h1 : 1 ≤ sep.size) (hsv : sv ≤ sep.size) (hn0 : n ≠ 0) (hn63 : n ≤ 9223372036854775807) (hN : (N : Int) = min (if n < 0 then (Lib.countB s sep : Int) + 1 else n) ((s.size : Int) + 1)) :
    Calls Tryz.prog 28 #[.string s, .string sep, .int .i64 sv, .int .i64 n] w fun e w' =>
      e = .returned (.slice (some ⟨w.heap.size, 0, none⟩) (Lib.splitB sep sv (N - 1) s).length N) ∧ w' = w.alloc (.cells (Lib.cellsOf (Lib.splitB sep sv (N - 1) s) N) 9) := Any.strings_genSplit Tryz.lays221 (by kernel_rfl) s sep sv n N m w hs hm h1 hsv hn0 hn63 hN
def Tryz.lays146_ren : Go.Shelf.Ren := ⟨fun | 146 => 14 | 221 => 28 | 268 => 52 | 138 => 53 | 143 => 54 | 195 => 76 | 197 => 77 | 218 => 78 | 219 => 79 | 260 => 93 | 217 => 94 | 225 => 95 | 224 => 96 | 267 => 97 | 266 => 107 | 314 => 108 | n => n, fun | 9 => 9 | 31 => 23 | 3 => 3 | 4 => 4 | 0 => 0 | 105 => 129 | 21 => 21 | 5 => 5 | 46 => 69 | 119 => 153 | 139 => 156 | 138 => 155 | 146 => 109 | 51 => 108 | n => n, fun | 1 => 0 | 3 => 1 | 4 => 2 | n => n⟩
theorem Tryz.lays146 : Go.Proofs.Lays.n146 Tryz.prog Tryz.lays146_ren := {
  mixed := by kernel_rfl
  f138 := Tryz.func53.trans (congrArg some (by kernel_rfl))
  f143 := Tryz.func54.trans (congrArg some (by kernel_rfl))
  f146 := Tryz.func14.trans (congrArg some (by kernel_rfl))
  f195 := Tryz.func76.trans (congrArg some (by kernel_rfl))
  f197 := Tryz.func77.trans (congrArg some (by kernel_rfl))
  f217 := Tryz.func94.trans (congrArg some (by kernel_rfl))
  f218 := Tryz.func78.trans (congrArg some (by kernel_rfl))
  f219 := Tryz.func79.trans (congrArg some (by kernel_rfl))
  f221 := Tryz.func28.trans (congrArg some (by kernel_rfl))
  f224 := Tryz.func96.trans (congrArg some (by kernel_rfl))
  f225 := Tryz.func95.trans (congrArg some (by kernel_rfl))
  f260 := Tryz.func93.trans (congrArg some (by kernel_rfl))
  f266 := Tryz.func107.trans (congrArg some (by kernel_rfl))
  f267 := Tryz.func97.trans (congrArg some (by kernel_rfl))
  f268 := Tryz.func52.trans (congrArg some (by kernel_rfl))
  f314 := Tryz.func108.trans (congrArg some (by kernel_rfl))
  t0 := Tryz.underlying0
  a0 := Tryz.isAgg0
  z0 := Tryz.sizeOf0
  v0 := Tryz.zeroValue0
  t3 := Tryz.underlying3
  a3 := Tryz.isAgg3
  z3 := Tryz.sizeOf3
  v3 := Tryz.zeroValue3
  t4 := Tryz.underlying4
  a4 := Tryz.isAgg4
  z4 := Tryz.sizeOf4
  v4 := Tryz.zeroValue4
  t5 := Tryz.underlying5
  a5 := Tryz.isAgg5
  z5 := Tryz.sizeOf5
  v5 := Tryz.zeroValue5
  t9 := Tryz.underlying9
  a9 := Tryz.isAgg9
  z9 := Tryz.sizeOf9
  v9 := Tryz.zeroValue9
  t21 := Tryz.underlying21
  a21 := Tryz.isAgg21
  z21 := Tryz.sizeOf21
  v21 := Tryz.zeroValue21
  t31 := Tryz.underlying23
  a31 := Tryz.isAgg23
  z31 := Tryz.sizeOf23
  v31 := Tryz.zeroValue23
  t46 := Tryz.underlying69
  a46 := Tryz.isAgg69
  z46 := Tryz.sizeOf69
  v46 := Tryz.zeroValue69
  t51 := Tryz.underlying108
  a51 := Tryz.isAgg108
  z51 := Tryz.sizeOf108
  v51 := Tryz.zeroValue108
  t105 := Tryz.underlying129
  a105 := Tryz.isAgg129
  z105 := Tryz.sizeOf129
  v105 := Tryz.zeroValue129
  t119 := Tryz.underlying153
  a119 := Tryz.isAgg153
  z119 := Tryz.sizeOf153
  t138 := Tryz.underlying155
  a138 := Tryz.isAgg155
  z138 := Tryz.sizeOf155
  v138 := Tryz.zeroValue155
  t139 := Tryz.underlying156
  a139 := Tryz.isAgg156
  z139 := Tryz.sizeOf156
  v139 := Tryz.zeroValue156
  t146 := Tryz.underlying109
  a146 := Tryz.isAgg109
  z146 := Tryz.sizeOf109
  v146 := Tryz.zeroValue109
  g1 := by kernel_rfl
  g3 := by kernel_rfl
  g4 := by kernel_rfl }
open Go.RowKit Go.Lib in
/-- strings.Split. (LAID: no walk: one application.) -/
theorem Tryz.strings_Split (s sep : ByteArray) (m : Int) (w : World) (hs : s.size < 4294967281) (hm : w.cell? ⟨0, 0, none⟩ = some (.int .i64 m)) (h1 : 1 ≤ sep.size) :
    Calls Tryz.prog 14 #[.string s, .string sep] w fun e w' =>
      e = .returned (.slice (some ⟨w.heap.size, 0, none⟩) (Lib.countB s sep + 1) (Lib.countB s sep + 1)) ∧ w' = w.alloc (.cells ((Lib.splitB sep 0 (Lib.countB s sep) s).map Value.string).toArray 9) := Any.strings_Split Tryz.lays146 (by kernel_rfl) s sep m w hs hm h1
def Tryz.laysM146_ren : Go.Shelf.Ren := ⟨fun | 146 => 14 | 221 => 28 | 268 => 52 | 138 => 53 | 143 => 54 | 195 => 76 | 197 => 77 | 218 => 78 | 219 => 79 | 260 => 93 | 217 => 94 | 225 => 95 | 224 => 96 | 267 => 97 | 266 => 107 | 314 => 108 | n => n, fun | 9 => 9 | 31 => 23 | 3 => 3 | 4 => 4 | 0 => 0 | 105 => 129 | 21 => 21 | 5 => 5 | 46 => 69 | 119 => 153 | 139 => 156 | 138 => 155 | 146 => 109 | 51 => 108 | n => n, fun | 1 => 0 | 3 => 1 | 4 => 2 | n => n⟩
theorem Tryz.laysM146 : Go.Proofs.LaysM.n146 Tryz.prog Tryz.laysM146_ren := {
  mixed := by kernel_rfl
  f138 := Tryz.func53.trans (congrArg some (by kernel_rfl))
  f143 := Tryz.func54.trans (congrArg some (by kernel_rfl))
  f146 := Tryz.func14.trans (congrArg some (by kernel_rfl))
  f195 := Tryz.func76.trans (congrArg some (by kernel_rfl))
  f197 := Tryz.func77.trans (congrArg some (by kernel_rfl))
  f217 := Tryz.func94.trans (congrArg some (by kernel_rfl))
  f218 := Tryz.func78.trans (congrArg some (by kernel_rfl))
  f219 := Tryz.func79.trans (congrArg some (by kernel_rfl))
  f221 := Tryz.func28.trans (congrArg some (by kernel_rfl))
  f224 := Tryz.func96.trans (congrArg some (by kernel_rfl))
  f225 := Tryz.func95.trans (congrArg some (by kernel_rfl))
  f260 := Tryz.func93.trans (congrArg some (by kernel_rfl))
  f266 := Tryz.func107.trans (congrArg some (by kernel_rfl))
  f267 := Tryz.func97.trans (congrArg some (by kernel_rfl))
  f268 := Tryz.func52.trans (congrArg some (by kernel_rfl))
  f314 := Tryz.func108.trans (congrArg some (by kernel_rfl))
  t0 := Tryz.underlying0
  a0 := Tryz.isAgg0
  z0 := Tryz.sizeOf0
  v0 := Tryz.zeroValue0
  t3 := Tryz.underlying3
  a3 := Tryz.isAgg3
  z3 := Tryz.sizeOf3
  v3 := Tryz.zeroValue3
  t4 := Tryz.underlying4
  a4 := Tryz.isAgg4
  z4 := Tryz.sizeOf4
  v4 := Tryz.zeroValue4
  t5 := Tryz.underlying5
  a5 := Tryz.isAgg5
  z5 := Tryz.sizeOf5
  v5 := Tryz.zeroValue5
  t9 := Tryz.underlying9
  a9 := Tryz.isAgg9
  z9 := Tryz.sizeOf9
  v9 := Tryz.zeroValue9
  t21 := Tryz.underlying21
  a21 := Tryz.isAgg21
  z21 := Tryz.sizeOf21
  v21 := Tryz.zeroValue21
  t31 := Tryz.underlying23
  a31 := Tryz.isAgg23
  z31 := Tryz.sizeOf23
  v31 := Tryz.zeroValue23
  t46 := Tryz.underlying69
  a46 := Tryz.isAgg69
  z46 := Tryz.sizeOf69
  v46 := Tryz.zeroValue69
  t51 := Tryz.underlying108
  a51 := Tryz.isAgg108
  z51 := Tryz.sizeOf108
  v51 := Tryz.zeroValue108
  t105 := Tryz.underlying129
  a105 := Tryz.isAgg129
  z105 := Tryz.sizeOf129
  v105 := Tryz.zeroValue129
  t119 := Tryz.underlying153
  a119 := Tryz.isAgg153
  z119 := Tryz.sizeOf153
  t138 := Tryz.underlying155
  a138 := Tryz.isAgg155
  z138 := Tryz.sizeOf155
  v138 := Tryz.zeroValue155
  t139 := Tryz.underlying156
  a139 := Tryz.isAgg156
  z139 := Tryz.sizeOf156
  v139 := Tryz.zeroValue156
  t146 := Tryz.underlying109
  a146 := Tryz.isAgg109
  z146 := Tryz.sizeOf109
  v146 := Tryz.zeroValue109
  g1 := by kernel_rfl
  g3 := by kernel_rfl
  g4 := by kernel_rfl
  i0 := by kernel_rfl
  i3 := by kernel_rfl
  i4 := by kernel_rfl
  i5 := by kernel_rfl
  i9 := by kernel_rfl
  i21 := by kernel_rfl
  i31 := by kernel_rfl
  i46 := by kernel_rfl
  i51 := by kernel_rfl
  i105 := by kernel_rfl
  i138 := by kernel_rfl
  i139 := by kernel_rfl
  i146 := by kernel_rfl
  m1 := by kernel_rfl
  s1_3 := fun w h => Go.Proofs.cell_of_shapedOpen_int (zero := #[.int .i64 0]) (t := 3) h (of_decide_eq_true (by kernel_rfl)) (by kernel_rfl) rfl (by kernel_rfl) (by kernel_rfl) Tryz.underlying3
  m3 := by kernel_rfl
  m4 := by kernel_rfl }
open Go.RowKit Go.Lib in
/-- strings.Split, sep not empty. (LAID: no walk: one application.) -/
theorem Tryz.strings_Split_shaped (s sep : ByteArray) (w : World) (h : w.ShapedOpen Tryz.prog) (hs : s.size < 4294967281) (h1 : 1 ≤ sep.size) :
    Calls Tryz.prog 14 #[.string s, .string sep] w fun e w' =>
      e = .returned (.slice (some ⟨w.heap.size, 0, none⟩) (Lib.countB s sep + 1) (Lib.countB s sep + 1)) ∧ w' = w.alloc (.cells ((Lib.splitB sep 0 (Lib.countB s sep) s).map Value.string).toArray 9) := Any.strings_Split_shaped Tryz.laysM146 s sep w h hs h1
def Tryz.lays197_ren : Go.Shelf.Ren := ⟨fun | 197 => 77 | 260 => 93 | n => n, fun | 9 => 9 | 21 => 21 | 3 => 3 | 4 => 4 | 5 => 5 | 105 => 129 | 119 => 153 | 0 => 0 | 46 => 69 | 139 => 156 | 138 => 155 | n => n, fun | 3 => 1 | 4 => 2 | n => n⟩
theorem Tryz.lays197 : Go.Proofs.Lays.n197 Tryz.prog Tryz.lays197_ren := {
  mixed := by kernel_rfl
  f197 := Tryz.func77.trans (congrArg some (by kernel_rfl))
  f260 := Tryz.func93.trans (congrArg some (by kernel_rfl))
  t0 := Tryz.underlying0
  a0 := Tryz.isAgg0
  z0 := Tryz.sizeOf0
  v0 := Tryz.zeroValue0
  t3 := Tryz.underlying3
  a3 := Tryz.isAgg3
  z3 := Tryz.sizeOf3
  v3 := Tryz.zeroValue3
  t4 := Tryz.underlying4
  a4 := Tryz.isAgg4
  z4 := Tryz.sizeOf4
  v4 := Tryz.zeroValue4
  t5 := Tryz.underlying5
  a5 := Tryz.isAgg5
  z5 := Tryz.sizeOf5
  v5 := Tryz.zeroValue5
  t9 := Tryz.underlying9
  a9 := Tryz.isAgg9
  z9 := Tryz.sizeOf9
  v9 := Tryz.zeroValue9
  t21 := Tryz.underlying21
  a21 := Tryz.isAgg21
  z21 := Tryz.sizeOf21
  v21 := Tryz.zeroValue21
  t46 := Tryz.underlying69
  a46 := Tryz.isAgg69
  z46 := Tryz.sizeOf69
  v46 := Tryz.zeroValue69
  t105 := Tryz.underlying129
  a105 := Tryz.isAgg129
  z105 := Tryz.sizeOf129
  v105 := Tryz.zeroValue129
  t119 := Tryz.underlying153
  a119 := Tryz.isAgg153
  z119 := Tryz.sizeOf153
  t138 := Tryz.underlying155
  a138 := Tryz.isAgg155
  z138 := Tryz.sizeOf155
  v138 := Tryz.zeroValue155
  t139 := Tryz.underlying156
  a139 := Tryz.isAgg156
  z139 := Tryz.sizeOf156
  v139 := Tryz.zeroValue156
  g3 := by kernel_rfl
  g4 := by kernel_rfl }
open Go.RowKit Go.Lib in
/-- unicode/utf8.DecodeRuneInString: "DecodeRuneInString is like DecodeRune but its input is a string.": ("DecodeRune unpacks the first UTF-8 encoding in p and returns the rune and its width in bytes."): WHERE s BEGINS WITH AN ASCII BYTE x: (x, 1). (LAID: no walk: one application.) -/
theorem Tryz.utf8_DecodeRuneInString_ascii (s : ByteArray) (x : UInt8) (w : World) (h0 : s.data.toList[0]? = some x) (hx : x.toNat < 128) :
    Calls Tryz.prog 77 #[.string s] w fun e w' => e = .returned (.tuple #[.int .i32 x.toNat, .int .i64 1]) ∧ w' = w := Any.utf8_DecodeRuneInString_ascii Tryz.lays197 s x w h0 hx
def Tryz.lays152_ren : Go.Shelf.Ren := ⟨fun | 152 => 115 | 137 => 83 | 119 => 116 | 224 => 96 | 225 => 95 | 217 => 94 | 266 => 107 | n => n, fun | 9 => 9 | 21 => 21 | 3 => 3 | 4 => 4 | 5 => 5 | 0 => 0 | 46 => 69 | n => n, fun | n => n⟩
theorem Tryz.lays152 : Go.Proofs.Lays.n152 Tryz.prog Tryz.lays152_ren := {
  mixed := by kernel_rfl
  f119 := Tryz.func116.trans (congrArg some (by kernel_rfl))
  f137 := Tryz.func83.trans (congrArg some (by kernel_rfl))
  f152 := Tryz.func115.trans (congrArg some (by kernel_rfl))
  f217 := Tryz.func94.trans (congrArg some (by kernel_rfl))
  f224 := Tryz.func96.trans (congrArg some (by kernel_rfl))
  f225 := Tryz.func95.trans (congrArg some (by kernel_rfl))
  f266 := Tryz.func107.trans (congrArg some (by kernel_rfl))
  t0 := Tryz.underlying0
  a0 := Tryz.isAgg0
  z0 := Tryz.sizeOf0
  v0 := Tryz.zeroValue0
  t3 := Tryz.underlying3
  a3 := Tryz.isAgg3
  z3 := Tryz.sizeOf3
  v3 := Tryz.zeroValue3
  t4 := Tryz.underlying4
  a4 := Tryz.isAgg4
  z4 := Tryz.sizeOf4
  v4 := Tryz.zeroValue4
  t5 := Tryz.underlying5
  a5 := Tryz.isAgg5
  z5 := Tryz.sizeOf5
  v5 := Tryz.zeroValue5
  t9 := Tryz.underlying9
  a9 := Tryz.isAgg9
  z9 := Tryz.sizeOf9
  v9 := Tryz.zeroValue9
  t21 := Tryz.underlying21
  a21 := Tryz.isAgg21
  z21 := Tryz.sizeOf21
  v21 := Tryz.zeroValue21
  t46 := Tryz.underlying69
  a46 := Tryz.isAgg69
  z46 := Tryz.sizeOf69
  v46 := Tryz.zeroValue69 }
open Go.RowKit Go.Lib in
theorem Tryz.strings_IndexRune_ascii (s : ByteArray) (r : Int) (w : World) (h0 : 0 ≤ r) (h1 : r < 128) :
    Calls Tryz.prog 115 #[.string s, .int .i32 r] w fun e w' => e = .returned (.int .i64 (Lib.indexByte s.data.toList r.toNat.toUInt8)) ∧ w' = w := Any.strings_IndexRune_ascii Tryz.lays152 s r w h0 h1
def Tryz.lays151_ren : Go.Shelf.Ren := ⟨fun | 151 => 114 | 152 => 115 | 137 => 83 | 119 => 116 | 224 => 96 | 225 => 95 | 217 => 94 | 266 => 107 | n => n, fun | 9 => 9 | 21 => 21 | 4 => 4 | 3 => 3 | 5 => 5 | 0 => 0 | 46 => 69 | n => n, fun | n => n⟩
theorem Tryz.lays151 : Go.Proofs.Lays.n151 Tryz.prog Tryz.lays151_ren := {
  mixed := by kernel_rfl
  f119 := Tryz.func116.trans (congrArg some (by kernel_rfl))
  f137 := Tryz.func83.trans (congrArg some (by kernel_rfl))
  f151 := Tryz.func114.trans (congrArg some (by kernel_rfl))
  f152 := Tryz.func115.trans (congrArg some (by kernel_rfl))
  f217 := Tryz.func94.trans (congrArg some (by kernel_rfl))
  f224 := Tryz.func96.trans (congrArg some (by kernel_rfl))
  f225 := Tryz.func95.trans (congrArg some (by kernel_rfl))
  f266 := Tryz.func107.trans (congrArg some (by kernel_rfl))
  t0 := Tryz.underlying0
  a0 := Tryz.isAgg0
  z0 := Tryz.sizeOf0
  v0 := Tryz.zeroValue0
  t3 := Tryz.underlying3
  a3 := Tryz.isAgg3
  z3 := Tryz.sizeOf3
  v3 := Tryz.zeroValue3
  t4 := Tryz.underlying4
  a4 := Tryz.isAgg4
  z4 := Tryz.sizeOf4
  v4 := Tryz.zeroValue4
  t5 := Tryz.underlying5
  a5 := Tryz.isAgg5
  z5 := Tryz.sizeOf5
  v5 := Tryz.zeroValue5
  t9 := Tryz.underlying9
  a9 := Tryz.isAgg9
  z9 := Tryz.sizeOf9
  v9 := Tryz.zeroValue9
  t21 := Tryz.underlying21
  a21 := Tryz.isAgg21
  z21 := Tryz.sizeOf21
  v21 := Tryz.zeroValue21
  t46 := Tryz.underlying69
  a46 := Tryz.isAgg69
  z46 := Tryz.sizeOf69
  v46 := Tryz.zeroValue69 }
open Go.RowKit Go.Lib in
theorem Tryz.strings_ContainsRune_ascii (s : ByteArray) (r : Int) (w : World) (h0 : 0 ≤ r) (h1 : r < 128) :
    Calls Tryz.prog 114 #[.string s, .int .i32 r] w fun e w' => e = .returned (.bool (decide (0 ≤ Lib.indexByte s.data.toList r.toNat.toUInt8))) ∧ w' = w := Any.strings_ContainsRune_ascii Tryz.lays151 s r w h0 h1
open Go.RowKit Go.Lib in
theorem Tryz.utf8_RuneCountInString_ascii (s : ByteArray) (w : World) (hs : s.size < 4294967281) (hascii : ∀ (j : Nat) b, s.data.toList[j]? = some b → b.toNat < 128) :
    Calls Tryz.prog 76 #[.string s] w fun e w' => e = .returned (.int .i64 s.size) ∧ w' = w.iter s s.size := Any.utf8_RuneCountInString_ascii Tryz.lays195 s w hs hascii
def Tryz.lays227_ren : Go.Shelf.Ren := ⟨fun | 227 => 104 | n => n, fun | 9 => 9 | 116 => 148 | 4 => 4 | 0 => 0 | 3 => 3 | 5 => 5 | n => n, fun | n => n⟩
theorem Tryz.lays227 : Go.Proofs.Lays.n227 Tryz.prog Tryz.lays227_ren := {
  mixed := by kernel_rfl
  f227 := Tryz.func104.trans (congrArg some (by kernel_rfl))
  t0 := Tryz.underlying0
  a0 := Tryz.isAgg0
  z0 := Tryz.sizeOf0
  v0 := Tryz.zeroValue0
  t3 := Tryz.underlying3
  a3 := Tryz.isAgg3
  z3 := Tryz.sizeOf3
  v3 := Tryz.zeroValue3
  t4 := Tryz.underlying4
  a4 := Tryz.isAgg4
  z4 := Tryz.sizeOf4
  v4 := Tryz.zeroValue4
  t5 := Tryz.underlying5
  a5 := Tryz.isAgg5
  z5 := Tryz.sizeOf5
  v5 := Tryz.zeroValue5
  t9 := Tryz.underlying9
  a9 := Tryz.isAgg9
  z9 := Tryz.sizeOf9
  v9 := Tryz.zeroValue9
  t116 := Tryz.underlying148
  a116 := Tryz.isAgg148
  z116 := Tryz.sizeOf148 }
open Go.RowKit Go.Lib in
theorem Tryz.strings_makeASCIISet (hv116 : ∀ w, (zeroValue 148).run Tryz.prog w = .ok (.agg (Array.replicate 256 (.bool false))) w) (chars : ByteArray) (w : World) (hs : chars.size < 4294967281) (hascii : ∀ (j : Nat) b, chars.data.toList[j]? = some b → b.toNat < 128) :
    Calls Tryz.prog 104 #[.string chars] w fun e w' => e = .returned (.tuple #[.agg (Lib.setCells chars.data.toList), .bool true]) ∧ w' = w.alloc (.cells (Lib.setCells chars.data.toList) 148) := Any.strings_makeASCIISet Tryz.lays227 hv116 (by kernel_rfl) chars w hs hascii
def Tryz.lays228_ren : Go.Shelf.Ren := ⟨fun | 228 => 113 | n => n, fun | 124 => 152 | 5 => 5 | 4 => 4 | 0 => 0 | 116 => 148 | n => n, fun | n => n⟩
theorem Tryz.lays228 : Go.Proofs.Lays.n228 Tryz.prog Tryz.lays228_ren := {
  mixed := by kernel_rfl
  f228 := Tryz.func113.trans (congrArg some (by kernel_rfl))
  t0 := Tryz.underlying0
  a0 := Tryz.isAgg0
  z0 := Tryz.sizeOf0
  v0 := Tryz.zeroValue0
  t4 := Tryz.underlying4
  a4 := Tryz.isAgg4
  z4 := Tryz.sizeOf4
  v4 := Tryz.zeroValue4
  t5 := Tryz.underlying5
  a5 := Tryz.isAgg5
  z5 := Tryz.sizeOf5
  v5 := Tryz.zeroValue5
  t116 := Tryz.underlying148
  a116 := Tryz.isAgg148
  z116 := Tryz.sizeOf148
  t124 := Tryz.underlying152
  a124 := Tryz.isAgg152
  z124 := Tryz.sizeOf152
  v124 := Tryz.zeroValue152 }
open Go.RowKit Go.Lib in
/-- '(as *asciiSet) contains(c)': 'as[c]': the set lies at block b, whole. (LAID: no walk: one application.) -/
theorem Tryz.asciiSet_contains (b : Nat) (x : UInt8) (v : Bool) (w : World) (hc : w.cell? ⟨b, x.toNat, none⟩ = some (.bool v)) :
    Calls Tryz.prog 113 #[.pointer (some ⟨b, 0, none⟩), .int .u8 x.toNat] w fun e w' => e = .returned (.bool v) ∧ w' = w := Any.asciiSet_contains Tryz.lays228 b x v w hc
def Tryz.lays268_ren : Go.Shelf.Ren := ⟨fun | 268 => 52 | 195 => 76 | 197 => 77 | 260 => 93 | n => n, fun | 9 => 9 | 3 => 3 | 31 => 23 | 4 => 4 | 105 => 129 | 21 => 21 | 0 => 0 | 5 => 5 | 119 => 153 | 46 => 69 | 139 => 156 | 138 => 155 | n => n, fun | 3 => 1 | 4 => 2 | n => n⟩
theorem Tryz.lays268 : Go.Proofs.Lays.n268 Tryz.prog Tryz.lays268_ren := {
  mixed := by kernel_rfl
  f195 := Tryz.func76.trans (congrArg some (by kernel_rfl))
  f197 := Tryz.func77.trans (congrArg some (by kernel_rfl))
  f260 := Tryz.func93.trans (congrArg some (by kernel_rfl))
  f268 := Tryz.func52.trans (congrArg some (by kernel_rfl))
  t0 := Tryz.underlying0
  a0 := Tryz.isAgg0
  z0 := Tryz.sizeOf0
  v0 := Tryz.zeroValue0
  t3 := Tryz.underlying3
  a3 := Tryz.isAgg3
  z3 := Tryz.sizeOf3
  v3 := Tryz.zeroValue3
  t4 := Tryz.underlying4
  a4 := Tryz.isAgg4
  z4 := Tryz.sizeOf4
  v4 := Tryz.zeroValue4
  t5 := Tryz.underlying5
  a5 := Tryz.isAgg5
  z5 := Tryz.sizeOf5
  v5 := Tryz.zeroValue5
  t9 := Tryz.underlying9
  a9 := Tryz.isAgg9
  z9 := Tryz.sizeOf9
  v9 := Tryz.zeroValue9
  t21 := Tryz.underlying21
  a21 := Tryz.isAgg21
  z21 := Tryz.sizeOf21
  v21 := Tryz.zeroValue21
  t31 := Tryz.underlying23
  a31 := Tryz.isAgg23
  z31 := Tryz.sizeOf23
  v31 := Tryz.zeroValue23
  t46 := Tryz.underlying69
  a46 := Tryz.isAgg69
  z46 := Tryz.sizeOf69
  v46 := Tryz.zeroValue69
  t105 := Tryz.underlying129
  a105 := Tryz.isAgg129
  z105 := Tryz.sizeOf129
  v105 := Tryz.zeroValue129
  t119 := Tryz.underlying153
  a119 := Tryz.isAgg153
  z119 := Tryz.sizeOf153
  t138 := Tryz.underlying155
  a138 := Tryz.isAgg155
  z138 := Tryz.sizeOf155
  v138 := Tryz.zeroValue155
  t139 := Tryz.underlying156
  a139 := Tryz.isAgg156
  z139 := Tryz.sizeOf156
  v139 := Tryz.zeroValue156
  g3 := by kernel_rfl
  g4 := by kernel_rfl }
open Go.RowKit Go.Lib in
theorem Tryz.strings_explode_all (s : ByteArray) (n : Int) (w : World) (hn : n < 0) (hs : s.size < 4294967281) (hascii : ∀ (j : Nat) b, s.data.toList[j]? = some b → b.toNat < 128) :
    Calls Tryz.prog 52 #[.string s, .int .i64 n] w fun e w' =>
      e = .returned (.slice (some ⟨(w.iter s s.size).heap.size, 0, none⟩) s.size s.size) ∧ w' = (w.iter s s.size).alloc (.cells ((Lib.charsB s).map Value.string).toArray 9) := Any.strings_explode_all Tryz.lays268 (by kernel_rfl) s n w hn hs hascii
open Go.RowKit Go.Lib in
/-- strings.genSplit at sep == "", n < 0: 'return explode(s, n)'. (LAID: no walk: one application.) -/
theorem Tryz.strings_genSplit_chars (s sep : ByteArray) (sv n : Int) (w : World) (h0 : sep.size = 0) (hn : n < 0) (hs : s.size < 4294967281) (hascii : ∀ (j : Nat) b, s.data.toList[j]? = some b → b.toNat < 128) :
    Calls Tryz.prog 28 #[.string s, .string sep, .int .i64 sv, .int .i64 n] w fun e w' =>
      e = .returned (.slice (some ⟨(w.iter s s.size).heap.size, 0, none⟩) s.size s.size) ∧ w' = (w.iter s s.size).alloc (.cells ((Lib.charsB s).map Value.string).toArray 9) := Any.strings_genSplit_chars Tryz.lays221 (by kernel_rfl) s sep sv n w h0 hn hs hascii
open Go.RowKit Go.Lib in
/-- strings.Split(s, ""), s ASCII: a piece a byte. (LAID: no walk: one application.) -/
theorem Tryz.strings_Split_chars (s sep : ByteArray) (w : World) (h0 : sep.size = 0) (hs : s.size < 4294967281) (hascii : ∀ (j : Nat) b, s.data.toList[j]? = some b → b.toNat < 128) :
    Calls Tryz.prog 14 #[.string s, .string sep] w fun e w' =>
      e = .returned (.slice (some ⟨(w.iter s s.size).heap.size, 0, none⟩) s.size s.size) ∧ w' = (w.iter s s.size).alloc (.cells ((Lib.charsB s).map Value.string).toArray 9) := Any.strings_Split_chars Tryz.lays146 (by kernel_rfl) s sep w h0 hs hascii
def Tryz.lays264_ren : Go.Shelf.Ren := ⟨fun | 264 => 56 | n => n, fun | 53 => 35 | 46 => 69 | n => n, fun | n => n⟩
theorem Tryz.lays264 : Go.Proofs.Lays.n264 Tryz.prog Tryz.lays264_ren := {
  mixed := by kernel_rfl
  f264 := Tryz.func56.trans (congrArg some (by kernel_rfl))
  t46 := Tryz.underlying69
  a46 := Tryz.isAgg69
  z46 := Tryz.sizeOf69
  v46 := Tryz.zeroValue69
  t53 := Tryz.underlying35
  a53 := Tryz.isAgg35
  z53 := Tryz.sizeOf35
  v53 := Tryz.zeroValue35 }
open Go.RowKit Go.Lib in
theorem Tryz.bits_Mul64 (x y : Nat) (hx : x < 18446744073709551616) (hy : y < 18446744073709551616) (w : World) :
    Calls Tryz.prog 56 #[.int .u64 x, .int .u64 y] w fun e w' => e = .returned (.tuple #[.int .u64 ((x * y / 18446744073709551616 : Nat) : Int), .int .u64 ((x * y % 18446744073709551616 : Nat) : Int)]) ∧ w' = w := Any.bits_Mul64 Tryz.lays264 x y hx hy w
def Tryz.lays212_ren : Go.Shelf.Ren := ⟨fun | 212 => 29 | 263 => 55 | 264 => 56 | n => n, fun | 46 => 69 | 51 => 108 | 146 => 109 | 53 => 35 | 148 => 111 | n => n, fun | n => n⟩
theorem Tryz.lays212 : Go.Proofs.Lays.n212 Tryz.prog Tryz.lays212_ren := {
  mixed := by kernel_rfl
  f212 := Tryz.func29.trans (congrArg some (by kernel_rfl))
  f263 := Tryz.func55.trans (congrArg some (by kernel_rfl))
  f264 := Tryz.func56.trans (congrArg some (by kernel_rfl))
  t46 := Tryz.underlying69
  a46 := Tryz.isAgg69
  z46 := Tryz.sizeOf69
  v46 := Tryz.zeroValue69
  t51 := Tryz.underlying108
  a51 := Tryz.isAgg108
  z51 := Tryz.sizeOf108
  v51 := Tryz.zeroValue108
  t53 := Tryz.underlying35
  a53 := Tryz.isAgg35
  z53 := Tryz.sizeOf35
  v53 := Tryz.zeroValue35
  t146 := Tryz.underlying109
  a146 := Tryz.isAgg109
  z146 := Tryz.sizeOf109
  v146 := Tryz.zeroValue109
  t148 := Tryz.underlying111
  a148 := Tryz.isAgg111
  z148 := Tryz.sizeOf111
  v148 := Tryz.zeroValue111 }
open Go.RowKit Go.Lib in
/-- math/bits.Mul: "Mul returns the full-width product of x and y": on a machine of 64 bits: Mul64's. (LAID: no walk: one application.) -/
theorem Tryz.bits_Mul (x y : Nat) (hx : x < 18446744073709551616) (hy : y < 18446744073709551616) (w : World) :
    Calls Tryz.prog 29 #[.int .u64 x, .int .u64 y] w fun e w' => e = .returned (.tuple #[.int .u64 ((x * y / 18446744073709551616 : Nat) : Int), .int .u64 ((x * y % 18446744073709551616 : Nat) : Int)]) ∧ w' = w := Any.bits_Mul Tryz.lays212 x y hx hy w
def Tryz.lays105_ren : Go.Shelf.Ren := ⟨fun | 105 => 15 | 212 => 29 | 99 => 30 | 165 => 31 | 166 => 32 | 170 => 33 | 169 => 34 | 263 => 55 | 264 => 56 | 206 => 57 | 240 => 58 | 241 => 59 | 276 => 80 | 277 => 81 | n => n, fun | 9 => 9 | 3 => 3 | 4 => 4 | 20 => 20 | 0 => 0 | 46 => 69 | 109 => 70 | 5 => 5 | 72 => 75 | 76 => 79 | 51 => 108 | 146 => 109 | 53 => 35 | 148 => 111 | 70 => 73 | 37 => 22 | 75 => 78 | 127 => 113 | 164 => 132 | 80 => 82 | n => n, fun | n => n⟩
theorem Tryz.lays105 : Go.Proofs.Lays.n105 Tryz.prog Tryz.lays105_ren := {
  mixed := by kernel_rfl
  f99 := Tryz.func30.trans (congrArg some (by kernel_rfl))
  f105 := Tryz.func15.trans (congrArg some (by kernel_rfl))
  f165 := Tryz.func31.trans (congrArg some (by kernel_rfl))
  f166 := Tryz.func32.trans (congrArg some (by kernel_rfl))
  f169 := Tryz.func34.trans (congrArg some (by kernel_rfl))
  f170 := Tryz.func33.trans (congrArg some (by kernel_rfl))
  f206 := Tryz.func57.trans (congrArg some (by kernel_rfl))
  f212 := Tryz.func29.trans (congrArg some (by kernel_rfl))
  f240 := Tryz.func58.trans (congrArg some (by kernel_rfl))
  f241 := Tryz.func59.trans (congrArg some (by kernel_rfl))
  f263 := Tryz.func55.trans (congrArg some (by kernel_rfl))
  f264 := Tryz.func56.trans (congrArg some (by kernel_rfl))
  f276 := Tryz.func80.trans (congrArg some (by kernel_rfl))
  f277 := Tryz.func81.trans (congrArg some (by kernel_rfl))
  t0 := Tryz.underlying0
  a0 := Tryz.isAgg0
  z0 := Tryz.sizeOf0
  v0 := Tryz.zeroValue0
  t3 := Tryz.underlying3
  a3 := Tryz.isAgg3
  z3 := Tryz.sizeOf3
  v3 := Tryz.zeroValue3
  t4 := Tryz.underlying4
  a4 := Tryz.isAgg4
  z4 := Tryz.sizeOf4
  v4 := Tryz.zeroValue4
  t5 := Tryz.underlying5
  a5 := Tryz.isAgg5
  z5 := Tryz.sizeOf5
  v5 := Tryz.zeroValue5
  t9 := Tryz.underlying9
  a9 := Tryz.isAgg9
  z9 := Tryz.sizeOf9
  v9 := Tryz.zeroValue9
  t20 := Tryz.underlying20
  a20 := Tryz.isAgg20
  z20 := Tryz.sizeOf20
  v20 := Tryz.zeroValue20
  t37 := Tryz.underlying22
  a37 := Tryz.isAgg22
  z37 := Tryz.sizeOf22
  v37 := Tryz.zeroValue22
  t46 := Tryz.underlying69
  a46 := Tryz.isAgg69
  z46 := Tryz.sizeOf69
  v46 := Tryz.zeroValue69
  t51 := Tryz.underlying108
  a51 := Tryz.isAgg108
  z51 := Tryz.sizeOf108
  v51 := Tryz.zeroValue108
  t53 := Tryz.underlying35
  a53 := Tryz.isAgg35
  z53 := Tryz.sizeOf35
  v53 := Tryz.zeroValue35
  t70 := Tryz.underlying73
  a70 := Tryz.isAgg73
  z70 := Tryz.sizeOf73
  v70 := Tryz.zeroValue73
  t72 := Tryz.underlying75
  a72 := Tryz.isAgg75
  z72 := Tryz.sizeOf75
  v72 := Tryz.zeroValue75
  t75 := Tryz.underlying78
  a75 := Tryz.isAgg78
  z75 := Tryz.sizeOf78
  v75 := Tryz.zeroValue78
  t76 := Tryz.underlying79
  a76 := Tryz.isAgg79
  z76 := Tryz.sizeOf79
  v76 := Tryz.zeroValue79
  t109 := Tryz.underlying70
  a109 := Tryz.isAgg70
  z109 := Tryz.sizeOf70
  v109 := Tryz.zeroValue70
  t127 := Tryz.underlying113
  a127 := Tryz.isAgg113
  z127 := Tryz.sizeOf113
  v127 := Tryz.zeroValue113
  t146 := Tryz.underlying109
  a146 := Tryz.isAgg109
  z146 := Tryz.sizeOf109
  v146 := Tryz.zeroValue109
  t148 := Tryz.underlying111
  a148 := Tryz.isAgg111
  z148 := Tryz.sizeOf111
  v148 := Tryz.zeroValue111
  t164 := Tryz.underlying132
  a164 := Tryz.isAgg132
  z164 := Tryz.sizeOf132
  v164 := Tryz.zeroValue132 }
theorem Tryz.Builder_Extra_105 : Builder.Extra Tryz.prog Tryz.lays105_ren := {
  sizeBuilder := by kernel_rfl
  liesBuilder := by kernel_rfl
  t5 := Tryz.underlying5
  a5 := Tryz.isAgg5
  z5 := Tryz.sizeOf5
  v5 := Tryz.zeroValue5
  infoByte := by kernel_rfl
  cellsByte := by kernel_rfl
  sizeByte := by kernel_rfl
  neB5 := by decide }
open Go.RowKit Go.Lib in
/-- THE MAIN CASE: at least two copies of a string that is not empty. (LAID: no walk: one application.) -/
theorem Tryz.strings_Repeat_main (s : ByteArray) (c : Nat) (w : World) (hc2 : 2 ≤ c) (hc : c ≤ 9223372036854775807) (hlen : s.size * c ≤ 140737488355328) (h0 : 0 < s.size) :
    Calls Tryz.prog 15 #[.string s, .int .i64 c] w fun e w' => e = .returned (.string ⟨(Lib.repeatL s.data.toList c).toArray⟩) ∧ Below w.heap.size w w' := Any.strings_Repeat_main Tryz.lays105 Tryz.Builder_Extra_105 s c w hc2 hc hlen h0
open Go.RowKit Go.Lib in
theorem Tryz.strings_Repeat_zero (s : ByteArray) (w : World) :
    Calls Tryz.prog 15 #[.string s, .int .i64 0] w fun e w' => e = .returned (.string ⟨#[]⟩) ∧ w' = w := Any.strings_Repeat_zero Tryz.lays105 s w
open Go.RowKit Go.Lib in
theorem Tryz.strings_Repeat_one (s : ByteArray) (w : World) :
    Calls Tryz.prog 15 #[.string s, .int .i64 1] w fun e w' => e = .returned (.string s) ∧ w' = w := Any.strings_Repeat_one Tryz.lays105 s w
open Go.RowKit Go.Lib in
/-- Copies of the empty string. (LAID: no walk: one application.) -/
theorem Tryz.strings_Repeat_empty (s : ByteArray) (c : Nat) (w : World) (hc2 : 2 ≤ c) (hc : c ≤ 9223372036854775807) (h0 : s.size = 0) :
    Calls Tryz.prog 15 #[.string s, .int .i64 c] w fun e w' => e = .returned (.string ⟨#[]⟩) ∧ w' = w := Any.strings_Repeat_empty Tryz.lays105 s c w hc2 hc h0
open Go.RowKit Go.Lib in
/-- count < 0: "It panics if count is negative". (LAID: no walk: one application.) -/
theorem Tryz.strings_Repeat_negative (s : ByteArray) (c : Int) (w : World) (hc : c < 0) :
    Calls Tryz.prog 15 #[.string s, .int .i64 c] w fun e w' => e = .panicked [{ v := repeatPanic Tryz.lays105_ren "strings: negative Repeat count", recovered := false }] ∧ w' = w := Any.strings_Repeat_negative Tryz.lays105 s c w hc
open Go.RowKit Go.Lib in
/-- len(s) * count is no int: ".. or if the result of (len(s) * count) overflows". (LAID: no walk: one application.) -/
theorem Tryz.strings_Repeat_overflow (s : ByteArray) (c : Nat) (w : World) (hc : c ≤ 9223372036854775807) (hs : s.size ≤ 9223372036854775807) (hbig : 9223372036854775807 < s.size * c) :
    Calls Tryz.prog 15 #[.string s, .int .i64 c] w fun e w' => e = .panicked [{ v := repeatPanic Tryz.lays105_ren "strings: Repeat output length overflow", recovered := false }] ∧ w' = w := Any.strings_Repeat_overflow Tryz.lays105 s c w hc hs hbig
open Go.RowKit Go.Lib in
/-- **strings.Repeat: count ≥ 0, the result within one allocation: count copies of s.** (LAID: no walk: one application.) -/
theorem Tryz.strings_Repeat (s : ByteArray) (c : Nat) (w : World) (hc : c ≤ 9223372036854775807) (hlen : s.size * c ≤ 140737488355328) :
    Calls Tryz.prog 15 #[.string s, .int .i64 c] w fun e w' => e = .returned (.string ⟨(Lib.repeatL s.data.toList c).toArray⟩) ∧ Below w.heap.size w w' := Any.strings_Repeat Tryz.lays105 Tryz.Builder_Extra_105 s c w hc hlen
def Tryz.lays260_ren : Go.Shelf.Ren := ⟨fun | 260 => 93 | n => n, fun | 9 => 9 | 21 => 21 | 3 => 3 | 4 => 4 | 5 => 5 | 119 => 153 | 0 => 0 | 46 => 69 | 139 => 156 | 138 => 155 | n => n, fun | 3 => 1 | 4 => 2 | n => n⟩
theorem Tryz.lays260 : Go.Proofs.Lays.n260 Tryz.prog Tryz.lays260_ren := {
  mixed := by kernel_rfl
  f260 := Tryz.func93.trans (congrArg some (by kernel_rfl))
  t0 := Tryz.underlying0
  a0 := Tryz.isAgg0
  z0 := Tryz.sizeOf0
  v0 := Tryz.zeroValue0
  t3 := Tryz.underlying3
  a3 := Tryz.isAgg3
  z3 := Tryz.sizeOf3
  v3 := Tryz.zeroValue3
  t4 := Tryz.underlying4
  a4 := Tryz.isAgg4
  z4 := Tryz.sizeOf4
  v4 := Tryz.zeroValue4
  t5 := Tryz.underlying5
  a5 := Tryz.isAgg5
  z5 := Tryz.sizeOf5
  v5 := Tryz.zeroValue5
  t9 := Tryz.underlying9
  a9 := Tryz.isAgg9
  z9 := Tryz.sizeOf9
  v9 := Tryz.zeroValue9
  t21 := Tryz.underlying21
  a21 := Tryz.isAgg21
  z21 := Tryz.sizeOf21
  v21 := Tryz.zeroValue21
  t46 := Tryz.underlying69
  a46 := Tryz.isAgg69
  z46 := Tryz.sizeOf69
  v46 := Tryz.zeroValue69
  t119 := Tryz.underlying153
  a119 := Tryz.isAgg153
  z119 := Tryz.sizeOf153
  t138 := Tryz.underlying155
  a138 := Tryz.isAgg155
  z138 := Tryz.sizeOf155
  v138 := Tryz.zeroValue155
  t139 := Tryz.underlying156
  a139 := Tryz.isAgg156
  z139 := Tryz.sizeOf156
  v139 := Tryz.zeroValue156
  g3 := by kernel_rfl
  g4 := by kernel_rfl }
open Go.RowKit Go.Lib in
theorem Tryz.utf8_decodeRuneInStringSlow (s : ByteArray) (w : World) (hT : Lib.Utf8Tabs 1 2 w) :
    Calls Tryz.prog 93 #[.string s] w fun e w' => e = .returned (.tuple #[.int .i32 (Lib.decodeGo s).1, .int .i64 (Lib.decodeGo s).2]) ∧ Below w.heap.size w w' := Any.utf8_decodeRuneInStringSlow Tryz.lays260 s w hT
open Go.RowKit Go.Lib in
/-- **unicode/utf8.DecodeRuneInString AT EVERY STRING.** (LAID: no walk: one application.) -/
theorem Tryz.utf8_DecodeRuneInString (s : ByteArray) (w : World) (hT : Lib.Utf8Tabs 1 2 w) :
    Calls Tryz.prog 77 #[.string s] w fun e w' => e = .returned (.tuple #[.int .i32 (Lib.decodeGo s).1, .int .i64 (Lib.decodeGo s).2]) ∧ Below w.heap.size w w' := Any.utf8_DecodeRuneInString Tryz.lays197 s w hT
end Go.Proofs
/-
  A region that DRAWS ITS ORDER, of which one operation of the head may be late: it may come behind the first of the tail.
-/
namespace Go.Proofs.YtllmgmfihijejaaGreatDoor
open Go.RowKit

def orderB (md : Region.Mode) (ops : Array Oper) : List Nat → Array Bool → Bool
  | [], listed => (Region.ready md ops listed).isEmpty
  | i :: r, listed => decide (Region.ready md ops listed = [i]) && orderB md ops r (listed.setIfInBounds i true)
theorem wpAny_of_order {P : Program} {md : Region.Mode} {ops : Array Oper} {Q : Exit → Act → World → Prop} : ∀ (is : List Nat) (os : List Oper) (listed : Array Bool) (a : Act) (w : World), os.length = is.length → (∀ (j i : Nat), is[j]? = some i → ops[i]? = os[j]?) →
    orderB md ops is listed = true → wpList P ops Q os a w → wpAny P md ops Q is.length listed a w
  | [], os, _, _, _, hl, _, hB, h => by
    have : os = [] := List.length_eq_zero_iff.1 hl
    subst this
    exact ⟨by simpa [orderB] using hB, h⟩
  | i :: r, [], _, _, _, hl, _, _, _ => by simp at hl
  | i :: r, o :: os, listed, a, w, hl, hg, hB, h => by
    have h0 : ops[i]? = some o := by simpa using hg 0 i rfl
    simp only [orderB, Bool.and_eq_true, decide_eq_true_eq] at hB
    refine ⟨fun h1 => (by rw [hB.1] at h1; cases h1), fun k hk => ?_⟩
    rw [hB.1] at hk
    have hik : k = i := by simpa using hk
    subst hik
    have hw : wpOp P ops Q k (wpList P ops Q os) a w := by unfold wpOp; simp only [h0]; exact h
    exact wpOp_mono (fun a' w' h' => wpAny_of_order r os _ a' w' (by simpa using hl) (fun j i hj => by simpa using hg (j + 1) i (by simpa using hj)) hB.2 h') hw

def butListed (n e g : Nat) : Array Bool := ((List.range n).map (fun i => i != e) ++ List.replicate g false).toArray
def closB (ops : Array Oper) (n e : Nat) : Bool :=
  (List.range n).all fun i => i == e || (List.range (n + 1)).any fun j => decide (i < j) && (j != e) && (match ops[j]? with | some o => o.after.toList.any (fun ed => Region.binds .any ed && ed.on == i) | none => false)
def lateB (ops : Array Oper) (n e : Nat) : Bool :=
  decide (n ≤ ops.size) && dstsB (ops.toList.take n) &&
  ((ops.toList.take n).zipIdx.all fun (o, i) => o.after.all fun e => !Region.binds .any e || decide (e.on < i)) &&
  closB ops n e && (ops.toList.zipIdx.all fun (o, t) => decide (t ≤ n) || o.after.toList.any (fun ed => Region.binds .any ed && decide (n ≤ ed.on) && decide (ed.on < t))) &&
  Region.seqB .any ops (ops.size - n) n (headListed n (ops.size - n)) &&
  orderB .any ops (e :: List.range' (n + 1) (ops.size - n - 1)) ((butListed n e (ops.size - n)).setIfInBounds n true) && decide (e < n)
def lateL (l : List Oper) (n e : Nat) : List Oper := (l.drop n).take 1 ++ ((l.drop e).take 1 ++ l.drop (n + 1))
/-- all of them but one -/
def fillBut (e : Nat) : List Oper → Nat → (Nat → Value) → Act → Act
  | [], _, _, a => a
  | o :: r, k, vals, a => fillBut e r (k + 1) vals (if k = e then a else a.put o.dst (vals k))
theorem fill_but (e : Nat) : ∀ (l : List Oper) (k : Nat) (listed : Array Bool) (vals : Nat → Value) (a : Act), (∀ i, i < l.length → k + i ≠ e → listed.getD (k + i) false = true) → (k ≤ e → listed.getD e false = false) → fill l k listed vals a = fillBut e l k vals a
  | [], _, _, _, _, _, _ => rfl
  | o :: r, k, listed, vals, a, h, h2 => by
    simp only [fill, fillBut]
    have ih := fill_but e r (k + 1) listed vals (if k = e then a else a.put o.dst (vals k)) (fun i hi he => by have := h (i + 1) (by simp; omega) (by omega); rwa [show k + (i + 1) = k + 1 + i from by omega] at this) (fun hk => h2 (by omega))
    rw [← ih]
    congr 1
    by_cases hke : k = e
    · subst hke
      rw [h2 (Nat.le_refl _), if_pos rfl]; rfl
    · have := h 0 (by simp) (by simpa using hke)
      rw [Nat.add_zero] at this
      rw [this, if_neg hke]; rfl
theorem late_most {ops : Array Oper} {n e : Nat} {listed : Array Bool} (hc : closB ops n e = true) (hn : n ≤ ops.size) (inv : HeadInv .any ops n listed) (o : Oper) (ho : ops[n]? = some o)
    (ha : ∀ e ∈ o.after, Region.binds .any e = true → listed.getD e.on false = true) : ∀ k, k < n → k ≠ e → listed.getD k false = true := by
  have key : ∀ d k, n - k = d → k < n → k ≠ e → listed.getD k false = true := by
    intro d
    induction d using Nat.strongRecOn with
    | _ d ih =>
      intro k hd hk hke
      have h1 := List.all_eq_true.1 hc k (List.mem_range.2 hk)
      simp only [Bool.or_eq_true, beq_iff_eq] at h1
      rcases h1 with h1 | h1
      · exact absurd h1 hke
      · obtain ⟨j, hj, h2⟩ := List.any_eq_true.1 h1
        simp only [Bool.and_eq_true, decide_eq_true_eq, bne_iff_ne, ne_eq] at h2
        obtain ⟨⟨hkj, hje⟩, h3⟩ := h2
        have hjn := List.mem_range.1 hj
        cases hoj : ops[j]? with
        | none => rw [hoj] at h3; cases h3
        | some oj =>
          rw [hoj] at h3
          obtain ⟨ed, hed, hb⟩ := List.any_eq_true.1 h3
          simp only [Bool.and_eq_true, beq_iff_eq] at hb
          by_cases hjn' : j = n
          · subst hjn'
            rw [ho] at hoj; cases hoj
            have := ha ed (Array.mem_toList_iff.1 hed) hb.1
            rwa [hb.2] at this
          · have hlj := ih (n - j) (by omega) j rfl (by omega) hje
            have := inv.closed j oj hoj hlj ed (Array.mem_toList_iff.1 hed) hb.1
            rwa [hb.2] at this
  exact fun k hk hke => key _ k rfl hk hke
theorem listed_but {ops : Array Oper} {n e : Nat} {listed : Array Bool} (hn : n ≤ ops.size) (he : e < n) (inv : HeadInv .any ops n listed) (h : ∀ i, i < n → i ≠ e → listed.getD i false = true) (h2 : listed.getD e true = false) : listed = butListed n e (ops.size - n) := by
  have hs := inv.size
  apply Array.ext
  · simp [butListed, hs]; omega
  · intro i h1 h3
    by_cases hi : i < n
    · by_cases hie : i = e
      · subst hie
        rw [Array.getD_eq_getD_getElem?, Array.getElem?_eq_getElem h1] at h2
        simp at h2
        rw [h2]
        simp [butListed, hi, List.getElem_append]
      · have := h i hi hie
        rw [Array.getD_eq_getD_getElem?, Array.getElem?_eq_getElem h1] at this
        simp at this
        rw [this]
        simp [butListed, hi, List.getElem_append, hie]
    · have := inv.tail i (by omega) (by omega)
      rw [Array.getD_eq_getD_getElem?, Array.getElem?_eq_getElem h1] at this
      simp at this
      rw [this]
      simp [butListed, List.getElem_append, hi]

theorem wp_region_lateD {P : Program} {id : Nat} {Q : Exit → Act → World → Prop} {a0 : Act} {w0 : World} {l : List Oper} (n e : Nat) (Ss : Nat → Value → World → Prop) (D : Nat → Bool)
    (hm : P.follows .mixedOrders = true) (hB : lateB l.toArray n e = true) (hsz : (l.take n).all (fun o => match o.dst with | some d => decide (d < a0.tmps.size) | none => true) = true)
    (hst : ∀ i, i < n → ∀ v w w', Ss i v w → Below w.heap.size w w' → Ss i v w')
    (hlt : ∀ i, i < n → D i = true → ∀ v w, Ss i v w → blk v < w.heap.size)
    (hstep : ∀ i o, i < n → l[i]? = some o → ∀ a w, RCtx (l.take n) Ss a0 w0 o a w → RStep P l.toArray o a w (fun v w' => Ss i v w' ∧ (D i = true → w.heap.size ≤ blk v)))
    (hend : ∀ vals w, Below w0.heap.size w0 w → (∀ i, i < n → Ss i (vals i) w) → (∀ i j, i < n → j < n → i ≠ j → D i = true → D j = true → blk (vals i) ≠ blk (vals j)) → wpList P l.toArray Q (l.drop n) (fillAll (l.take n) 0 vals a0) w)
    (hend2 : ∀ vals w, Below w0.heap.size w0 w → (∀ i, i < n → i ≠ e → Ss i (vals i) w) → (∀ i j, i < n → j < n → i ≠ e → j ≠ e → i ≠ j → D i = true → D j = true → blk (vals i) ≠ blk (vals j)) →
      wpList P l.toArray Q (lateL l n e) (fillBut e (l.take n) 0 vals a0) w) :
    (Code.region id l.toArray true).wp P Q a0 w0 := by
  simp only [lateB, Bool.and_eq_true, decide_eq_true_eq] at hB
  obtain ⟨⟨⟨⟨⟨⟨⟨hn, hd⟩, haf⟩, hclo⟩, htw⟩, hseq⟩, hord⟩, hen⟩ := hB
  have hn' : n ≤ l.length := by simpa using hn
  have hd' : dstsB (l.take n) = true := hd
  have htl : (l.take n).length = n := by simp; omega
  have key : ∀ (rem : List Nat) (f : Nat), rem.length = f → rem.Nodup → ∀ (listed : Array Bool) (a : Act) (w : World), HeadInv .any l.toArray n listed →
      (∀ i, i ∈ rem ↔ (i < n ∧ listed.getD i true = false)) → (∃ vals, a = fill (l.take n) 0 listed vals a0 ∧ (∀ i, i < n → listed.getD i false = true → Ss i (vals i) w) ∧ ∀ i j, i < n → j < n → i ≠ j → listed.getD i false = true → listed.getD j false = true → D i = true → D j = true → blk (vals i) ≠ blk (vals j)) → Below w0.heap.size w0 w →
      wpAny P .any l.toArray Q (f + (l.toArray.size - n)) listed a w := by
    intro rem f
    induction f generalizing rem with
    | zero =>
      intro hl _ listed a w inv hrem ⟨vals, ha, hv, hp⟩ hb
      have hr : rem = [] := List.length_eq_zero_iff.1 hl
      subst hr
      have hall : ∀ i, i < n → listed.getD i false = true := by
        intro i hi
        have h1 : ¬ listed.getD i true = false := fun h => by have := (hrem i).2 ⟨hi, h⟩; simp at this
        have h2 : i < listed.size := by rw [inv.size]; omega
        rw [Array.getD_eq_getD_getElem?, Array.getElem?_eq_getElem h2] at h1 ⊢
        simpa using h1
      have hlist := listed_head hn inv hall
      have hw := hend vals w hb (fun i hi => hv i hi (hall i hi)) (fun i j hi hj hij => hp i j hi hj hij (hall i hi) (hall j hj))
      rw [← fill_all (l.take n) 0 listed vals a0 (fun i hi => by rw [Nat.zero_add]; exact hall i (by omega)), ← ha] at hw
      rw [Nat.zero_add]
      have hdl : (l.drop n).length = l.toArray.size - n := by simp
      rw [← hdl]
      refine wpAny_of_seq (l.drop n) n listed a w (fun j => by simp) ?_ hw
      rw [hdl, hlist]; exact hseq
    | succ f ih =>
      intro hl hnd listed a w inv hrem ⟨vals, ha, hv, hp⟩ hb
      -- the least that is not listed is ready
      have hex : ∃ i, i ∈ rem ∧ ∀ j, j ∈ rem → i ≤ j := by
        have : ∀ (r : List Nat), r ≠ [] → ∃ i, i ∈ r ∧ ∀ j, j ∈ r → i ≤ j := by
          intro r
          induction r with
          | nil => intro h; exact (h rfl).elim
          | cons x r ihr =>
            intro _
            by_cases hr : r = []
            · subst hr; exact ⟨x, by simp, by simp⟩
            · obtain ⟨i, hi, hmin⟩ := ihr hr
              by_cases hx : x ≤ i
              · exact ⟨x, by simp, fun j hj => by rcases List.mem_cons.1 hj with rfl | hj; exact Nat.le_refl _; exact Nat.le_trans hx (hmin j hj)⟩
              · exact ⟨i, by simp [hi], fun j hj => by rcases List.mem_cons.1 hj with rfl | hj; omega; exact hmin j hj⟩
        exact this rem (by intro h; subst h; simp at hl)
      have hready : Region.ready .any l.toArray listed ≠ [] := by
        obtain ⟨i, hi, hmin⟩ := hex
        obtain ⟨hin, hil⟩ := (hrem i).1 hi
        have hlt : i < l.length := by omega
        have hmem : i ∈ Region.ready .any l.toArray listed := by
          refine mem_ready.2 ⟨hil, l[i], by simp [hlt], fun e he hbd => ?_⟩
          have h1 := List.all_eq_true.1 haf (l[i], i) (by
            rw [List.mem_zipIdx_iff_getElem?]; simp [hin, hlt])
          have h2 := Array.all_eq_true'.1 h1 e he
          simp [hbd] at h2
          have hj : ¬ e.on ∈ rem := fun h => by have := hmin _ h; omega
          have h3 : ¬ listed.getD e.on true = false := fun h => hj ((hrem _).2 ⟨by omega, h⟩)
          have h4 : e.on < listed.size := by rw [inv.size]; simp; omega
          rw [Array.getD_eq_getD_getElem?, Array.getElem?_eq_getElem h4] at h3 ⊢
          simpa using h3
        intro h; rw [h] at hmem; simp at hmem
      rw [show f + 1 + (l.toArray.size - n) = (f + (l.toArray.size - n)) + 1 from by omega]
      refine ⟨fun h => (hready h).elim, fun i hi => ?_⟩
      obtain ⟨hil, o, ho, haft⟩ := mem_ready.1 hi
      by_cases hin : i < n
      case neg =>
        have hisz : i < l.toArray.size := (Array.getElem?_eq_some_iff.1 ho).1
        have hmost := late_most hclo hn inv
        -- an operation behind the head's end
        have hin' : i = n := by
          rcases Nat.lt_or_ge n i with h | h
          · exfalso
            have h1 := List.all_eq_true.1 htw (l[i]'(by simpa using hisz), i) (by
              rw [List.mem_zipIdx_iff_getElem?]; simp at hisz; simp [hisz])
            simp only [Bool.or_eq_true, decide_eq_true_eq] at h1
            rcases h1 with h1 | h1
            · omega
            · obtain ⟨ed, hed, hb⟩ := List.any_eq_true.1 h1
              simp only [Bool.and_eq_true, decide_eq_true_eq] at hb
              have ho2 : o = l[i]'(by simpa using hisz) := by
                have := (Array.getElem?_eq_some_iff.1 ho).2; simpa using this.symm
              have h3 := haft ed (by rw [ho2]; exact Array.mem_toList_iff.1 hed) hb.1.1
              have h4 := getD_both (inv.tail ed.on hb.1.2 (by omega))
              rw [h3] at h4; cases h4
          · omega
        subst hin'
        have hall : ∀ k, k < i → k ≠ e → listed.getD k false = true := fun k hk hke => hmost o ho haft k hk hke
        have hone : rem = [e] := by
          have h1 : ∀ k ∈ rem, k = e := by
            intro k hk
            obtain ⟨hk1, hk2⟩ := (hrem k).1 hk
            by_cases hke : k = e
            · exact hke
            · have := hall k hk1 hke
              rw [getD_both hk2] at this; cases this
          cases rem with
          | nil => simp at hl
          | cons x r =>
            cases r with
            | nil => rw [h1 x (by simp)]
            | cons y r =>
              have hx := h1 x (by simp); have hy := h1 y (by simp)
              rw [hx, hy] at hnd; simp at hnd
        subst hone
        have hf : f = 0 := by simp at hl; omega
        subst hf
        have hel : listed.getD e true = false := ((hrem e).1 (by simp)).2
        have hlist := listed_but hn hen inv hall hel
        have hw := hend2 vals w hb (fun k hk hke => hv k hk (hall k hk hke)) (fun k m hk hm hke hme hkm => hp k m hk hm hkm (hall k hk hke) (hall m hm hme))
        rw [← fill_but e (l.take i) 0 listed vals a0 (fun k hk hke => by rw [Nat.zero_add] at hke ⊢; exact hall k (by omega) hke) (fun _ => getD_both hel), ← ha] at hw
        have hli : l[i]? = some o := by simpa using ho
        have hl1 : (l.drop i).take 1 = [o] := by
          rw [List.drop_eq_getElem_cons (by simpa using hisz)]
          have : l[i]'(by simpa using hisz) = o := (List.getElem?_eq_some_iff.1 hli).2
          simp [this]
        have hlt' : i < l.length := by simpa using hisz
        have heL : e < l.length := by omega
        have hl2 : (l.drop e).take 1 = [l[e]] := by rw [List.drop_eq_getElem_cons heL, List.take_succ_cons, List.take_zero]
        unfold lateL at hw
        rw [hl1, hl2] at hw
        have hw2 : wpOp P l.toArray Q i (wpList P l.toArray Q ([l[e]] ++ l.drop (i + 1))) a w := by unfold wpOp; simp only [ho]; exact hw
        have hlen : (e :: List.range' (i + 1) (l.toArray.size - i - 1)).length = 0 + (l.toArray.size - i) := by simp; omega
        refine wpOp_mono (fun a' w' h' => ?_) hw2
        rw [← hlen]
        refine wpAny_of_order (e :: List.range' (i + 1) (l.toArray.size - i - 1)) ([l[e]] ++ l.drop (i + 1)) _ a' w' (by simp; omega) (fun j k hk => ?_) ?_ h'
        · cases j with
          | zero => simp at hk; subst hk; simp [heL]
          | succ j =>
            simp only [List.getElem?_cons_succ] at hk
            obtain ⟨hk1, hk2⟩ := List.getElem?_eq_some_iff.1 hk
            simp at hk2
            subst hk2
            simp
        · rw [hlist]; exact hord
      have ho' : l[i]? = some o := by simpa using ho
      have hot : (l.take n)[i]? = some o := by rw [List.getElem?_take_of_lt hin]; exact ho'
      obtain ⟨d, hod⟩ : ∃ d, o.dst = some d := by
        have : ∀ (r : List Oper) (j : Nat), dstsB r = true → r[j]? = some o → ∃ d, o.dst = some d := by
          intro r
          induction r with
          | nil => intro j _ h; simp at h
          | cons x r ihr =>
            intro j hdd h
            simp only [dstsB, Bool.and_eq_true] at hdd
            cases j with
            | zero => simp at h; subst h; exact Option.isSome_iff_exists.1 hdd.1.1
            | succ j => exact ihr j hdd.2 (by simpa using h)
        exact this _ i hd' hot
      have hbd : ∀ (j : Nat) (oj : Oper) (dj : Tmp), (l.take n)[j]? = some oj → oj.dst = some dj → dj < a0.tmps.size := by
        intro j oj dj hj hdj
        have := List.all_eq_true.1 hsz oj (List.mem_of_getElem? hj)
        simpa [hdj] using this
      have hctx : RCtx (l.take n) Ss a0 w0 o a w := by
        refine ⟨hb, fun t ht => by rw [ha]; exact fill_frame _ _ _ _ _ t ht, fun j dj hj hdj => ?_, by rw [ha, fill_size]⟩
        obtain ⟨e, he, hbe⟩ := List.any_eq_true.1 hj
        simp only [Bool.and_eq_true, beq_iff_eq] at hbe
        have hlj := haft e (Array.mem_toList_iff.1 he) hbe.1
        rw [hbe.2] at hlj
        obtain ⟨oj, hoj, hdj'⟩ := Option.bind_eq_some_iff.1 hdj
        have hjn : j < n := by have := (List.getElem?_eq_some_iff.1 hoj).1; omega
        rw [ha, fill_at _ 0 listed vals a0 j oj dj hd' hoj hdj' (hbd j oj dj hoj hdj') (by rw [Nat.zero_add]; exact hlj), Nat.zero_add]
        exact hv j hjn hlj
      have hstep' := hstep i o hin ho' a w hctx
      have hnext : ∀ v w', Below w.heap.size w w' → (Ss i v w' ∧ (D i = true → w.heap.size ≤ blk v)) → wpAny P .any l.toArray Q (f + (l.toArray.size - n)) (listed.setIfInBounds i true) (a.put o.dst v) w' := by
        intro v w' hbw ⟨hsv, hfr⟩
        have hmemi : i ∈ rem := (hrem i).2 ⟨hin, hil⟩
        refine ih (rem.erase i) (by rw [List.length_erase_of_mem hmemi, hl]; rfl) (hnd.erase i) _ _ w' (inv.set hi hin) (fun j => ?_) ⟨fun j => if j = i then v else vals j, ?_, fun j hj hlj => ?_, fun j k hj hk hjk hlj hlk hDj hDk => ?_⟩ (hb.trans (hbw.mono hb.size))
        · rw [hnd.mem_erase_iff, hrem j]
          by_cases hji : j = i
          · subst hji
            have hjs : j < listed.size := by rw [inv.size]; simp; omega
            simp [hjs]
          · rw [getD_set_ne true (fun e => hji e.symm)]
            simp [hji]
        · have := fill_set (l.take n) 0 i listed vals a0 o d v hd' hot hod (by rw [Nat.zero_add]; exact hil)
          rw [Nat.zero_add] at this
          rw [this, ← ha, hod]
        · by_cases hji : j = i
          · subst hji; simpa using hsv
          · show Ss j (if j = i then v else vals j) w'
            rw [if_neg hji]
            rw [getD_set_ne false (fun e => hji e.symm)] at hlj
            exact hst j hj _ _ _ (hv j hj hlj) hbw
        · show blk (if j = i then v else vals j) ≠ blk (if k = i then v else vals k)
          by_cases hji : j = i
          · subst hji
            rw [if_pos rfl, if_neg (fun e => hjk e.symm)]
            rw [getD_set_ne false hjk] at hlk
            have h1 := hlt k hk hDk _ _ (hv k hk hlk)
            have h2 := hfr hDj
            omega
          · rw [if_neg hji]
            rw [getD_set_ne false (fun e => hji e.symm)] at hlj
            by_cases hki : k = i
            · subst hki
              rw [if_pos rfl]
              have h1 := hlt j hj hDj _ _ (hv j hj hlj)
              have h2 := hfr hDk
              omega
            · rw [if_neg hki]
              rw [getD_set_ne false (fun e => hki e.symm)] at hlk
              exact hp j k hj hk hjk hlj hlk hDj hDk
      unfold wpOp
      simp only [ho]
      unfold RStep at hstep'
      split
      · rename_i hw
        rw [if_pos hw] at hstep'
        refine .inl (wpQ_mono (Oper.wp_mono (fun a' w' ⟨v, e, hbw, hsv⟩ => ?_) hstep'))
        subst e
        exact hnext v w' hbw hsv
      · rename_i hw
        rw [if_neg hw] at hstep'
        exact hnext undef w (Below.refl _ w) hstep'
  refine wp_region_any hm ?_
  have h0 := key (List.range n) n (by simp) List.nodup_range (Array.replicate l.toArray.size false) a0 { w0 with drawn := w0.drawn + 1 }
    ⟨by simp, fun j oj _ hl => (by rw [getD_replicate_false] at hl; cases hl), fun t _ ht => getD_in (by simpa using ht) (getD_replicate_false _ _)⟩
    (fun i => by
      rw [List.mem_range]
      constructor
      · intro h; exact ⟨h, getD_in (by simp; omega) (getD_replicate_false _ _)⟩
      · intro h; exact h.1)
    ⟨fun _ => undef, (fill_none _ _ _ _ _ (fun i => getD_replicate_false _ _)).symm, fun i _ h => (by rw [getD_replicate_false] at h; cases h), fun i j _ _ _ h => (by rw [getD_replicate_false] at h; cases h)⟩
    ((Below.refl _ w0).drew)
  rw [show n + (l.toArray.size - n) = l.toArray.size from by omega] at h0
  exact h0

theorem wp_region_late {P : Program} {id : Nat} {Q : Exit → Act → World → Prop} {a0 : Act} {w0 : World} {l : List Oper} (n e : Nat) (L : List (Value → World → Prop)) (D : Nat → Bool)
    (hm : P.follows .mixedOrders = true) (hB : lateB l.toArray n e = true) (hsz : (l.take n).all (fun o => match o.dst with | some d => decide (d < a0.tmps.size) | none => true) = true)
    (hst : AllStable L) (hlt : ∀ i, i < n → D i = true → ∀ v w, lookS L i v w → blk v < w.heap.size)
    (hstep : Obl P l (l.take n) L D a0 w0 (l.take n) 0)
    (hend : ∀ vals w, Below w0.heap.size w0 w → (∀ i, i < n → lookS L i (vals i) w) → (∀ i j, i < n → j < n → i ≠ j → D i = true → D j = true → blk (vals i) ≠ blk (vals j)) →
      wpList P l.toArray Q (l.drop n) (fillAll (l.take n) 0 vals a0) w)
    (hend2 : ∀ vals w, Below w0.heap.size w0 w → (∀ i, i < n → i ≠ e → lookS L i (vals i) w) → (∀ i j, i < n → j < n → i ≠ e → j ≠ e → i ≠ j → D i = true → D j = true → blk (vals i) ≠ blk (vals j)) →
      wpList P l.toArray Q (lateL l n e) (fillBut e (l.take n) 0 vals a0) w) :
    (Code.region id l.toArray true).wp P Q a0 w0 :=
  wp_region_lateD n e (lookS L) D hm hB hsz (fun i _ v w w' h hb => lookS_stable L i hst v w w' h hb) hlt
    (fun i o hi ho a w hc => by
      have := Obl.get (l.take n) 0 hstep i o (by rw [List.getElem?_take_of_lt hi]; exact ho) a w hc
      rwa [Nat.zero_add] at this) hend hend2
end Go.Proofs.YtllmgmfihijejaaGreatDoor
/-
  A region that DRAWS ITS ORDER, some of whose operations turn the state on, one behind the other; the others leave it.
-/
namespace Go.Proofs.YtllmgmfihijejaaGreatDoor
open Go.RowKit

structure RCtxS (l : List Oper) (Ss : Nat → Value → World → Prop) (R : World → World → Prop) (a0 : Act) (w0 : World) (o : Oper) (a : Act) (w : World) : Prop where
  rel : R w0 w
  frame : ∀ t, l.any (fun o => o.dst == some t) = false → a.eval (.tmp t) = a0.eval (.tmp t)
  dep : ∀ j d, o.after.toList.any (fun e => Region.binds .any e && e.on == j) = true → (l[j]?).bind (·.dst) = some d → Ss j (a.eval (.tmp d)) w
  defers : a.defers = a0.defers
theorem fill_defers : ∀ (l : List Oper) (k : Nat) (listed : Array Bool) (vals : Nat → Value) (a : Act), (fill l k listed vals a).defers = a.defers
  | [], _, _, _, _ => rfl
  | o :: r, k, listed, vals, a => by
    simp only [fill]
    rw [fill_defers]
    split
    · cases o.dst <;> rfl
    · rfl
/-- a step that may leave the region -/
def QStepX (P : Program) (ops : Array Oper) (R : World → World → Prop) (Q : Exit → Act → World → Prop) (o : Oper) (a : Act) (w : World) (s : Value → World → Prop) : Prop :=
  if Region.wanted o (yielded ops a.tmps) then o.wp P a w (fun a' w' => ∃ v, a' = a.put o.dst v ∧ R w w' ∧ s v w') Q else s undef w

/-- the special ones are of the head, each waits for the one ahead -/
def specialB (l : List Oper) (n : Nat) (Sp : List Nat) : Bool :=
  Sp.all (fun i => decide (i < n)) && (List.range (Sp.length - 1)).all (fun k => match Sp[k]?, Sp[k + 1]? with
    | some i, some j => decide (i < j) && (match l[j]? with | some o => o.after.toList.any (fun e => Region.binds .any e && e.on == i) | none => false)
    | _, _ => true)
theorem specialB_spec {l : List Oper} {n : Nat} {Sp : List Nat} (h : specialB l n Sp = true) :
    (∀ (k i : Nat), Sp[k]? = some i → i < n) ∧ ∀ (k i j : Nat) (o : Oper), Sp[k]? = some i → Sp[k + 1]? = some j → l[j]? = some o → ∃ e, e ∈ o.after ∧ Region.binds .any e = true ∧ e.on = i := by
  simp only [specialB, Bool.and_eq_true] at h
  refine ⟨fun k i hk => by have := List.all_eq_true.1 h.1 i (List.mem_of_getElem? hk); simpa using this, fun k i j o h1 h2 h3 => ?_⟩
  have hk : k < Sp.length - 1 := by have := (List.getElem?_eq_some_iff.1 h2).1; omega
  have := List.all_eq_true.1 h.2 k (List.mem_range.2 hk)
  rw [h1, h2] at this
  simp only [h3, Bool.and_eq_true] at this
  obtain ⟨e, he, hb⟩ := List.any_eq_true.1 this.2
  simp only [Bool.and_eq_true, beq_iff_eq] at hb
  exact ⟨e, Array.mem_toList_iff.1 he, hb⟩
theorem specialB_step {l : List Oper} {n : Nat} {Sp : List Nat} (h : specialB l n Sp = true) {k i j : Nat} (h1 : Sp[k]? = some i) (h2 : Sp[k + 1]? = some j) : i < j := by
  simp only [specialB, Bool.and_eq_true] at h
  have hk : k < Sp.length - 1 := by have := (List.getElem?_eq_some_iff.1 h2).1; omega
  have := List.all_eq_true.1 h.2 k (List.mem_range.2 hk)
  rw [h1, h2] at this
  simp only [Bool.and_eq_true, decide_eq_true_eq] at this
  exact this.1
theorem specialB_lt {l : List Oper} {n : Nat} {Sp : List Nat} (h : specialB l n Sp = true) : ∀ (d k i j : Nat), Sp[k]? = some i → Sp[k + d + 1]? = some j → i < j := by
  intro d
  induction d with
  | zero => intro k i j h1 h2; exact specialB_step h h1 h2
  | succ d ih =>
    intro k i j h1 h2
    have hl := (List.getElem?_eq_some_iff.1 h2).1
    have hm : Sp[k + d + 1]? = some (Sp[k + d + 1]'(by omega)) := List.getElem?_eq_getElem (by omega)
    exact Nat.lt_trans (ih k i _ h1 hm) (specialB_step h hm h2)
theorem specialB_nodup {l : List Oper} {n : Nat} {Sp : List Nat} (h : specialB l n Sp = true) (k m i : Nat) (h1 : Sp[k]? = some i) (h2 : Sp[m]? = some i) : k = m := by
  rcases Nat.lt_trichotomy k m with hlt | he | hlt
  · have := specialB_lt h (m - k - 1) k i i h1 (by rw [show k + (m - k - 1) + 1 = m from by omega]; exact h2); omega
  · exact he
  · have := specialB_lt h (k - m - 1) m i i h2 (by rw [show m + (k - m - 1) + 1 = k from by omega]; exact h1); omega

theorem wp_region_specSD {P : Program} {id : Nat} {Q : Exit → Act → World → Prop} {a0 : Act} {w0 : World} {l : List Oper} (R0 R : World → World → Prop) (Sp : List Nat) (St : Nat → World → Prop) (h0R : ∀ u v, R0 u v → R u v) (h0S : ∀ r u v, St r u → R0 u v → St r v) (hdrew0 : ∀ w : World, R0 w { w with drawn := w.drawn + 1 }) (hrefl0 : ∀ w, R0 w w) (htrans : ∀ u v w, R u v → R v w → R u w) (hrefl : ∀ w, R w w) (hdrew : ∀ w : World, R w { w with drawn := w.drawn + 1 }) (n : Nat) (Ss : Nat → Value → World → Prop)
    (hsp : specialB l n Sp = true) (hst0 : St 0 w0) (hm : P.follows .mixedOrders = true) (hB : specB l.toArray n = true) (hsz : (l.take n).all (fun o => match o.dst with | some d => decide (d < a0.tmps.size) | none => true) = true)
    (hst : ∀ i, i < n → ∀ v w w', Ss i v w → R w w' → Ss i v w')
    (hstep : ∀ i o, i < n → l[i]? = some o → ∀ a w, RCtxS (l.take n) Ss R a0 w0 o a w →
      (Sp.contains i = false → QStep P l.toArray R0 o a w (Ss i)) ∧ ∀ r, Sp[r]? = some i → St r w → QStepX P l.toArray R Q o a w (fun v w' => Ss i v w' ∧ St (r + 1) w'))
    (hend : ∀ vals w, R w0 w → (∀ i, i < n → Ss i (vals i) w) → St Sp.length w → wpList P l.toArray Q (l.drop n) (fillAll (l.take n) 0 vals a0) w) :
    (Code.region id l.toArray true).wp P Q a0 w0 := by
  simp only [specB, Bool.and_eq_true, decide_eq_true_eq] at hB
  obtain ⟨⟨⟨⟨hn, hd⟩, haf⟩, hsink⟩, hseq⟩ := hB
  have hn' : n ≤ l.length := by simpa using hn
  have hspn : ∀ (k i : Nat), Sp[k]? = some i → i < n := fun k i hk => (specialB_spec hsp).1 k i hk
  have hd' : dstsB (l.take n) = true := hd
  have htl : (l.take n).length = n := by simp; omega
  have key : ∀ (rem : List Nat) (f : Nat), rem.length = f → rem.Nodup → ∀ (listed : Array Bool) (a : Act) (w : World), HeadInv .any l.toArray n listed →
      (∀ i, i ∈ rem ↔ (i < n ∧ listed.getD i true = false)) → (∃ vals, a = fill (l.take n) 0 listed vals a0 ∧ (∀ i, i < n → listed.getD i false = true → Ss i (vals i) w)) → R w0 w → (∃ r, r ≤ Sp.length ∧ St r w ∧ ∀ (k i : Nat), Sp[k]? = some i → (listed.getD i false = true ↔ k < r)) →
      wpAny P .any l.toArray Q (f + (l.toArray.size - n)) listed a w := by
    intro rem f
    induction f generalizing rem with
    | zero =>
      intro hl _ listed a w inv hrem ⟨vals, ha, hv⟩ hb ⟨r, hr1, hr2, hr3⟩
      have hr : rem = [] := List.length_eq_zero_iff.1 hl
      subst hr
      have hall : ∀ i, i < n → listed.getD i false = true := by
        intro i hi
        have h1 : ¬ listed.getD i true = false := fun h => by have := (hrem i).2 ⟨hi, h⟩; simp at this
        have h2 : i < listed.size := by rw [inv.size]; omega
        rw [Array.getD_eq_getD_getElem?, Array.getElem?_eq_getElem h2] at h1 ⊢
        simpa using h1
      have hlist := listed_head hn inv hall
      have hrl : r = Sp.length := by
        rcases Nat.lt_or_ge r Sp.length with h | h
        · have := (hr3 r Sp[r] (by simp [h])).1 (hall _ (hspn r Sp[r] (by simp [h])))
          omega
        · omega
      subst hrl
      have hw := hend vals w hb (fun i hi => hv i hi (hall i hi)) hr2
      rw [← fill_all (l.take n) 0 listed vals a0 (fun i hi => by rw [Nat.zero_add]; exact hall i (by omega)), ← ha] at hw
      rw [Nat.zero_add]
      have hdl : (l.drop n).length = l.toArray.size - n := by simp
      rw [← hdl]
      refine wpAny_of_seq (l.drop n) n listed a w (fun j => by simp) ?_ hw
      rw [hdl, hlist]; exact hseq
    | succ f ih =>
      intro hl hnd listed a w inv hrem ⟨vals, ha, hv⟩ hb ⟨r, hr1, hr2, hr3⟩
      -- the least that is not listed is ready
      have hex : ∃ i, i ∈ rem ∧ ∀ j, j ∈ rem → i ≤ j := by
        have : ∀ (r : List Nat), r ≠ [] → ∃ i, i ∈ r ∧ ∀ j, j ∈ r → i ≤ j := by
          intro r
          induction r with
          | nil => intro h; exact (h rfl).elim
          | cons x r ihr =>
            intro _
            by_cases hr : r = []
            · subst hr; exact ⟨x, by simp, by simp⟩
            · obtain ⟨i, hi, hmin⟩ := ihr hr
              by_cases hx : x ≤ i
              · exact ⟨x, by simp, fun j hj => by rcases List.mem_cons.1 hj with rfl | hj; exact Nat.le_refl _; exact Nat.le_trans hx (hmin j hj)⟩
              · exact ⟨i, by simp [hi], fun j hj => by rcases List.mem_cons.1 hj with rfl | hj; omega; exact hmin j hj⟩
        exact this rem (by intro h; subst h; simp at hl)
      have hready : Region.ready .any l.toArray listed ≠ [] := by
        obtain ⟨i, hi, hmin⟩ := hex
        obtain ⟨hin, hil⟩ := (hrem i).1 hi
        have hlt : i < l.length := by omega
        have hmem : i ∈ Region.ready .any l.toArray listed := by
          refine mem_ready.2 ⟨hil, l[i], by simp [hlt], fun e he hbd => ?_⟩
          have h1 := List.all_eq_true.1 haf (l[i], i) (by
            rw [List.mem_zipIdx_iff_getElem?]; simp [hin, hlt])
          have h2 := Array.all_eq_true'.1 h1 e he
          simp [hbd] at h2
          have hj : ¬ e.on ∈ rem := fun h => by have := hmin _ h; omega
          have h3 : ¬ listed.getD e.on true = false := fun h => hj ((hrem _).2 ⟨by omega, h⟩)
          have h4 : e.on < listed.size := by rw [inv.size]; simp; omega
          rw [Array.getD_eq_getD_getElem?, Array.getElem?_eq_getElem h4] at h3 ⊢
          simpa using h3
        intro h; rw [h] at hmem; simp at hmem
      rw [show f + 1 + (l.toArray.size - n) = (f + (l.toArray.size - n)) + 1 from by omega]
      refine ⟨fun h => (hready h).elim, fun i hi => ?_⟩
      obtain ⟨hil, o, ho, haft⟩ := mem_ready.1 hi
      have hin : i < n := by
        rcases Nat.lt_or_ge i n with h | h
        · exact h
        · exfalso
          obtain ⟨i', hi', _⟩ := hex
          obtain ⟨hin', hil'⟩ := (hrem i').1 hi'
          have hisz : i < l.toArray.size := (Array.getElem?_eq_some_iff.1 ho).1
          simp only [Bool.or_eq_true, decide_eq_true_eq, Bool.and_eq_true] at hsink
          rcases hsink with h0 | ⟨hs, hc⟩
          · omega
          · exact tail_waits hs hc (by omega) inv (n - i') i' rfl hin' hil' i h hi
      have ho' : l[i]? = some o := by simpa using ho
      have hot : (l.take n)[i]? = some o := by rw [List.getElem?_take_of_lt hin]; exact ho'
      obtain ⟨d, hod⟩ : ∃ d, o.dst = some d := by
        have : ∀ (r : List Oper) (j : Nat), dstsB r = true → r[j]? = some o → ∃ d, o.dst = some d := by
          intro r
          induction r with
          | nil => intro j _ h; simp at h
          | cons x r ihr =>
            intro j hdd h
            simp only [dstsB, Bool.and_eq_true] at hdd
            cases j with
            | zero => simp at h; subst h; exact Option.isSome_iff_exists.1 hdd.1.1
            | succ j => exact ihr j hdd.2 (by simpa using h)
        exact this _ i hd' hot
      have hbd : ∀ (j : Nat) (oj : Oper) (dj : Tmp), (l.take n)[j]? = some oj → oj.dst = some dj → dj < a0.tmps.size := by
        intro j oj dj hj hdj
        have := List.all_eq_true.1 hsz oj (List.mem_of_getElem? hj)
        simpa [hdj] using this
      have hctx : RCtxS (l.take n) Ss R a0 w0 o a w := by
        refine ⟨hb, fun t ht => by rw [ha]; exact fill_frame _ _ _ _ _ t ht, fun j dj hj hdj => ?_, by rw [ha, fill_defers]⟩
        obtain ⟨e, he, hbe⟩ := List.any_eq_true.1 hj
        simp only [Bool.and_eq_true, beq_iff_eq] at hbe
        have hlj := haft e (Array.mem_toList_iff.1 he) hbe.1
        rw [hbe.2] at hlj
        obtain ⟨oj, hoj, hdj'⟩ := Option.bind_eq_some_iff.1 hdj
        have hjn : j < n := by have := (List.getElem?_eq_some_iff.1 hoj).1; omega
        rw [ha, fill_at _ 0 listed vals a0 j oj dj hd' hoj hdj' (hbd j oj dj hoj hdj') (by rw [Nat.zero_add]; exact hlj), Nat.zero_add]
        exact hv j hjn hlj
      have hstep' := hstep i o hin ho' a w hctx
      have hnext : ∀ v w', R w w' → Ss i v w' → (∃ r, r ≤ Sp.length ∧ St r w' ∧ ∀ (k j : Nat), Sp[k]? = some j → ((listed.setIfInBounds i true).getD j false = true ↔ k < r)) → wpAny P .any l.toArray Q (f + (l.toArray.size - n)) (listed.setIfInBounds i true) (a.put o.dst v) w' := by
        intro v w' hbw hsv hstt
        have hmemi : i ∈ rem := (hrem i).2 ⟨hin, hil⟩
        refine ih (rem.erase i) (by rw [List.length_erase_of_mem hmemi, hl]; rfl) (hnd.erase i) _ _ w' (inv.set hi hin) (fun j => ?_) ⟨fun j => if j = i then v else vals j, ?_, fun j hj hlj => ?_⟩ (htrans _ _ _ hb hbw) hstt
        · rw [hnd.mem_erase_iff, hrem j]
          by_cases hji : j = i
          · subst hji
            have hjs : j < listed.size := by rw [inv.size]; simp; omega
            simp [hjs]
          · rw [getD_set_ne true (fun e => hji e.symm)]
            simp [hji]
        · have := fill_set (l.take n) 0 i listed vals a0 o d v hd' hot hod (by rw [Nat.zero_add]; exact hil)
          rw [Nat.zero_add] at this
          rw [this, ← ha, hod]
        · by_cases hji : j = i
          · subst hji; simpa using hsv
          · show Ss j (if j = i then v else vals j) w'
            rw [if_neg hji]
            rw [getD_set_ne false (fun e => hji e.symm)] at hlj
            exact hst j hj _ _ _ (hv j hj hlj) hbw
      have hun : listed.getD i false = false := getD_both hil
      have hisz : i < listed.size := by rw [inv.size]; simp; omega
      by_cases hsi : Sp.contains i = true
      case neg =>
        have hsi' : Sp.contains i = false := by simpa using hsi
        have hq := hstep'.1 hsi'
        have hne : ∀ (k j : Nat), Sp[k]? = some j → j ≠ i := fun k j hk e => by
          subst e
          have : Sp.contains j = true := by simpa using List.mem_of_getElem? hk
          rw [hsi'] at this; cases this
        have hstt : ∀ w', R0 w w' → (∃ r, r ≤ Sp.length ∧ St r w' ∧ ∀ (k j : Nat), Sp[k]? = some j → ((listed.setIfInBounds i true).getD j false = true ↔ k < r)) := fun w' hw' =>
          ⟨r, hr1, h0S _ _ _ hr2 hw', fun k j hk => by rw [getD_set_ne false (fun e => hne k j hk e.symm)]; exact hr3 k j hk⟩
        unfold wpOp
        simp only [ho]
        unfold QStep at hq
        split
        · rename_i hw
          rw [if_pos hw] at hq
          refine .inl (wpQ_mono (Oper.wp_mono (fun a' w' ⟨v, e, hbw, hsv⟩ => ?_) hq))
          subst e
          exact hnext v w' (h0R _ _ hbw) hsv (hstt w' hbw)
        · rename_i hw
          rw [if_neg hw] at hq
          exact hnext undef w (hrefl w) hq (hstt w (hrefl0 w))
      obtain ⟨ri, hri⟩ := List.mem_iff_getElem?.1 (show i ∈ Sp by simpa using hsi)
      have hrr : r = ri := by
        have h1 : ¬ ri < r := fun h => by have := (hr3 ri i hri).2 h; rw [hun] at this; cases this
        rcases Nat.lt_or_ge r ri with h | h
        · exfalso
          -- the one ahead of it is listed
          have hril := (List.getElem?_eq_some_iff.1 hri).1
          obtain ⟨e, he, hbe⟩ := (specialB_spec hsp).2 (ri - 1) (Sp[ri - 1]'(by omega)) i o (List.getElem?_eq_getElem (by omega)) (by rw [show ri - 1 + 1 = ri from by omega]; exact hri) ho'
          have := haft e he hbe.1
          rw [hbe.2] at this
          have := (hr3 (ri - 1) (Sp[ri - 1]'(by omega)) (List.getElem?_eq_getElem (by omega))).1 this
          omega
        · omega
      subst hrr
      have hril := (List.getElem?_eq_some_iff.1 hri).1
      have hq := hstep'.2 r hri hr2
      have hinj : ∀ k, Sp[k]? = some i → k = r := fun k hk => by
        rcases Nat.lt_trichotomy k r with h | h | h
        · have := (hr3 k i hk).2 h; rw [hun] at this; cases this
        · exact h
        · exact (specialB_nodup hsp k r i hk hri)
      have hstt : ∀ w', St (r + 1) w' → (∃ r, r ≤ Sp.length ∧ St r w' ∧ ∀ (k j : Nat), Sp[k]? = some j → ((listed.setIfInBounds i true).getD j false = true ↔ k < r)) := fun w' hw' => by
        refine ⟨r + 1, hril, hw', fun k j hk => ?_⟩
        by_cases hji : j = i
        · subst hji
          have := hinj k hk; subst this
          simp [hisz]
        · rw [getD_set_ne false (fun e => hji e.symm), hr3 k j hk]
          have hkr : k ≠ r := fun e => by subst e; rw [hri] at hk; cases hk; exact hji rfl
          omega
      unfold wpOp
      simp only [ho]
      unfold QStepX at hq
      split
      · rename_i hw
        rw [if_pos hw] at hq
        refine .inl (Oper.wp_mono (fun a' w' ⟨v, e, hbw, hsv, hss⟩ => ?_) hq)
        subst e
        exact hnext v w' hbw hsv (hstt w' hss)
      · rename_i hw
        rw [if_neg hw] at hq
        exact hnext undef w (hrefl w) hq.1 (hstt w hq.2)
  refine wp_region_any hm ?_
  have h0 := key (List.range n) n (by simp) List.nodup_range (Array.replicate l.toArray.size false) a0 { w0 with drawn := w0.drawn + 1 }
    ⟨by simp, fun j oj _ hl => (by rw [getD_replicate_false] at hl; cases hl), fun t _ ht => getD_in (by simpa using ht) (getD_replicate_false _ _)⟩
    (fun i => by
      rw [List.mem_range]
      constructor
      · intro h; exact ⟨h, getD_in (by simp; omega) (getD_replicate_false _ _)⟩
      · intro h; exact h.1)
    ⟨fun _ => undef, (fill_none _ _ _ _ _ (fun i => getD_replicate_false _ _)).symm, fun i _ h => (by rw [getD_replicate_false] at h; cases h)⟩
    (hdrew w0) ⟨0, Nat.zero_le _, h0S _ _ _ hst0 (hdrew0 w0), fun k i _ => by rw [getD_replicate_false]; simp⟩
  rw [show n + (l.toArray.size - n) = l.toArray.size from by omega] at h0
  exact h0



/-- where an operation stands among the special ones -/
def OblS (P : Program) (Q : Exit → Act → World → Prop) (l hd : List Oper) (R0 R : World → World → Prop) (Sp : List Nat) (St : Nat → World → Prop) (L : List (Value → World → Prop)) (a0 : Act) (w0 : World) : List Oper → Nat → Prop
  | [], _ => True
  | o :: r, i => (match Sp.idxOf? i with
      | none => ∀ a w, RCtxS hd (lookS L) R a0 w0 o a w → QStep P l.toArray R0 o a w (lookS L i)
      | some r => ∀ a w, RCtxS hd (lookS L) R a0 w0 o a w → St r w → QStepX P l.toArray R Q o a w (fun v w' => lookS L i v w' ∧ St (r + 1) w')) ∧ OblS P Q l hd R0 R Sp St L a0 w0 r (i + 1)
theorem OblS.get {P : Program} {Q : Exit → Act → World → Prop} {l hd : List Oper} {R0 R : World → World → Prop} {Sp : List Nat} {St : Nat → World → Prop} {L : List (Value → World → Prop)} {a0 : Act} {w0 : World} : ∀ (r : List Oper) (k : Nat), OblS P Q l hd R0 R Sp St L a0 w0 r k → ∀ i o, r[i]? = some o →
    (match Sp.idxOf? (k + i) with
      | none => ∀ a w, RCtxS hd (lookS L) R a0 w0 o a w → QStep P l.toArray R0 o a w (lookS L (k + i))
      | some r => ∀ a w, RCtxS hd (lookS L) R a0 w0 o a w → St r w → QStepX P l.toArray R Q o a w (fun v w' => lookS L (k + i) v w' ∧ St (r + 1) w'))
  | [], _, _, _, _, h => by simp at h
  | o :: r, k, h, 0, o', h' => by simp at h'; subst h'; exact h.1
  | o :: r, k, h, i + 1, o', h' => by
    have := OblS.get r (k + 1) h.2 i o' (by simpa using h')
    rwa [show k + 1 + i = k + (i + 1) from by omega] at this
theorem wp_region_specS {P : Program} {id : Nat} {Q : Exit → Act → World → Prop} {a0 : Act} {w0 : World} {l : List Oper} (R0 R : World → World → Prop) (Sp : List Nat) (St : Nat → World → Prop) (h0R : ∀ u v, R0 u v → R u v) (h0S : ∀ r u v, St r u → R0 u v → St r v) (hdrew0 : ∀ w : World, R0 w { w with drawn := w.drawn + 1 }) (hrefl0 : ∀ w, R0 w w)
    (htrans : ∀ u v w, R u v → R v w → R u w) (n : Nat) (L : List (Value → World → Prop)) (hst : AllStableR R L) (hsp : specialB l n Sp = true) (hst0 : St 0 w0)
    (hm : P.follows .mixedOrders = true) (hB : specB l.toArray n = true) (hsz : (l.take n).all (fun o => match o.dst with | some d => decide (d < a0.tmps.size) | none => true) = true)
    (hstep : OblS P Q l (l.take n) R0 R Sp St L a0 w0 (l.take n) 0)
    (hend : ∀ vals w, R w0 w → (∀ i, i < n → lookS L i (vals i) w) → St Sp.length w → wpList P l.toArray Q (l.drop n) (fillAll (l.take n) 0 vals a0) w) :
    (Code.region id l.toArray true).wp P Q a0 w0 :=
  wp_region_specSD R0 R Sp St h0R h0S hdrew0 hrefl0 htrans (fun w => h0R _ _ (hrefl0 w)) (fun w => h0R _ _ (hdrew0 w)) n (lookS L) hsp hst0 hm hB hsz (fun i _ v w w' h hb => lookS_stableR L i hst v w w' h hb) (fun i o hi ho a w hc => by
      have := OblS.get (l.take n) 0 hstep i o (by rw [List.getElem?_take_of_lt hi]; exact ho)
      rw [Nat.zero_add] at this
      constructor
      · intro hs
        have hno : Sp.idxOf? i = none := by
          rw [List.idxOf?_eq_none_iff]
          intro hm; have : Sp.contains i = true := by simpa using hm
          rw [hs] at this; cases this
        rw [hno] at this
        exact this a w hc
      · intro r hr hSt
        have hso : Sp.idxOf? i = some r := by
          cases hx : Sp.idxOf? i with
          | none => rw [List.idxOf?_eq_none_iff] at hx; exact absurd (List.mem_of_getElem? hr) hx
          | some r' =>
            have h1 : Sp[r']? = some i := by
              have := List.idxOf?_eq_some_iff.1 hx
              obtain ⟨h1, h2, _⟩ := this
              simp [h1, h2]
            rw [specialB_nodup hsp r' r i h1 hr]
        rw [hso] at this
        exact this a w hc hSt) hend

end Go.Proofs.YtllmgmfihijejaaGreatDoor
/-
  The walks of the words' reference: escapes, bytes of classes, numbers, signs.
-/
namespace Go.Proofs.YtllmgmfihijejaaGreatDoor
open Go.RowKit Go.Shelf
attribute [local go_sem] Oper.semAt_some
set_option linter.unusedSimpArgs false

theorem named_word (w0 : World) : Calls Tryz.prog 66 #[.string ⟨#[119, 111, 114, 100]⟩] w0 fun e w' => e = .returned (.tuple #[setV wordS, .bool true]) ∧ Below w0.heap.size w0 w' := ref_named [119, 111, 114, 100] w0
theorem named_alnum (w0 : World) : Calls Tryz.prog 66 #[.string ⟨#[97, 108, 110, 117, 109]⟩] w0 fun e w' => e = .returned (.tuple #[setV alnumS, .bool true]) ∧ Below w0.heap.size w0 w' := ref_named [97, 108, 110, 117, 109] w0

theorem sort_100 {c : Nat} (h : ((c : Int) == 100) = true) : sortP c = some digitS := by obtain rfl : c = 100 := (by have := beq_iff_eq.1 h; omega); rfl
theorem sort_119 {c : Nat} (h : ((c : Int) == 119) = true) : sortP c = some wordS := by obtain rfl : c = 119 := (by have := beq_iff_eq.1 h; omega); rfl
theorem sort_115 {c : Nat} (h : ((c : Int) == 115) = true) : sortP c = some (ofS [9, 10, 12, 13, 32]) := by obtain rfl : c = 115 := (by have := beq_iff_eq.1 h; omega); rfl
theorem sort_68 {c : Nat} (h : ((c : Int) == 68) = true) : sortP c = some (notS digitS) := by obtain rfl : c = 68 := (by have := beq_iff_eq.1 h; omega); rfl
theorem sort_87 {c : Nat} (h : ((c : Int) == 87) = true) : sortP c = some (notS wordS) := by obtain rfl : c = 87 := (by have := beq_iff_eq.1 h; omega); rfl
theorem sort_83 {c : Nat} (h : ((c : Int) == 83) = true) : sortP c = some (notS (ofS [9, 10, 12, 13, 32])) := by obtain rfl : c = 83 := (by have := beq_iff_eq.1 h; omega); rfl
theorem nei {c : Nat} {n : Nat} (h : ((c : Int) == (n : Int)) = false) : (c == n) = false := by
  rw [beq_eq_false_iff_ne] at h ⊢; omega
theorem sort_no {c : Nat} (h1 : ((c : Int) == 100) = false) (h2 : ((c : Int) == 119) = false) (h3 : ((c : Int) == 115) = false) (h4 : ((c : Int) == 68) = false) (h5 : ((c : Int) == 87) = false) (h6 : ((c : Int) == 83) = false) : sortP c = none := by
  simp [sortP, sortsL, List.find?_cons, nei (n := 100) h1, nei (n := 119) h2, nei (n := 115) h3, nei (n := 68) h4, nei (n := 87) h5, nei (n := 83) h6]

set_option maxRecDepth 100000 in
set_option maxHeartbeats 4000000 in
theorem ref_sort (c : Nat) (hc : c < 256) (w0 : World) : Calls Tryz.prog 46 #[.int .u8 c] w0 fun e w' => e = .returned (setO (sortP c)) ∧ Below w0.heap.size w0 w' := by
  have H := Hold.start w0
  go_enter Tryz.func46, Tryz.ntmps46
  go_wp2_with (first | (first | ((with_reducible refine gT ?_); (refine aS H ?_; clear H; intro w H; (try simp only [nrm, nrl, Value.cells] at H))) | ((with_reducible refine gL ?_); refine aL H ?_) | ((with_reducible refine gA ?_); (refine bA H ?_; clear H; intro b w H; (try simp only [nrm, nrl, Value.cells] at H))) | ((with_reducible refine gZ ?_); refine aZ ?_)) | (go_at_call 66; (with_reducible refine ch (named_word _) H ?_); clear H; intro w H) | ((with_reducible show @wpList _ _ _ ({ dst := _, op := Op.buildSlice _ _ _, type := _, pos := _, after := _, guard := _ } :: _) _ _); refine own_build (by first | rfl | exact wanted_g rfl (yielded_of rfl (by first | rfl | (simp only [put_lit, put_no, List.setIfInBounds_toArray, List.set_cons_succ, List.set_cons_zero, ev_tmp, ev_const, ev_glob, ev_func, List.getD_cons_succ, List.getD_cons_zero]; rfl)))) _ _ _ rfl H (#[.int .u8 9, .int .u8 10, .int .u8 12, .int .u8 13, .int .u8 32]) 5 (by intro W; simp only [List.map_toArray, List.map_cons, List.map_nil]; (try simp only [put_lit, put_no, List.setIfInBounds_toArray, List.set_cons_succ, List.set_cons_zero, ev_tmp, ev_const, ev_glob, ev_func, List.getD_cons_succ, List.getD_cons_zero]); (try unfold setV); simp [go_sem] <;> rfl) ?_; clear H; intro b w H; (try simp only [nrm, nrl, Value.cells] at H)) | (go_at_call 51; (with_reducible refine ch (ref_Of _ [9, 10, 12, 13, 32] (by simp) _ (H.rdn (cs := [.int .u8 9, .int .u8 10, .int .u8 12, .int .u8 13, .int .u8 32]) (by repeat (first | (with_reducible exact At.zero) | apply At.succ)) (by simp) (by simp [maxLen]))) H ?_); clear H; intro w H) | (go_at_call 67; (with_reducible refine ch (ref_digits _) H ?_); clear H; intro w H) | (go_at_call 68; (with_reducible refine ch (ref_Not digitS digitS_ok _) H ?_); clear H; intro w H) | (go_at_call 68; (with_reducible refine ch (ref_Not wordS wordS_ok _) H ?_); clear H; intro w H) | (go_at_call 68; (with_reducible refine ch (ref_Not (ofS [9, 10, 12, 13, 32]) (ofS_ok _) _) H ?_); clear H; intro w H))
  all_goals
    (refine ret_ctS Tryz.results46 rfl (by first | rfl | (simp only [put_lit, put_no, List.setIfInBounds_toArray, List.set_cons_succ, List.set_cons_zero]; rfl)) H (by repeat (first | (with_reducible exact At.zero) | apply At.succ)) (by with_reducible exact row_Set) rfl ?_)
    first | exact ⟨congrArg _ (setO_none (sort_no (by assumption) (by assumption) (by assumption) (by assumption) (by assumption) (by assumption))), H.below⟩ | exact ⟨congrArg _ (setO_some (sort_100 (by assumption))), H.below⟩ | exact ⟨congrArg _ (setO_some (sort_119 (by assumption))), H.below⟩ | exact ⟨congrArg _ (setO_some (sort_115 (by assumption))), H.below⟩ | exact ⟨congrArg _ (setO_some (sort_68 (by assumption))), H.below⟩ | exact ⟨congrArg _ (setO_some (sort_87 (by assumption))), H.below⟩ | exact ⟨congrArg _ (setO_some (sort_83 (by assumption))), H.below⟩

def numV : Option (Nat × Nat) → Value
  | some (n, k) => .tuple #[.int .i64 n, .int .i64 k]
  | none => .tuple #[.int .i64 0, .int .i64 (-1)]
def escV : Option (Nat × Nat) → Value
  | some (b, e) => .tuple #[.int .u8 b, .int .i64 e]
  | none => .tuple #[.int .u8 0, .int .i64 (-1)]

set_option maxRecDepth 100000 in
set_option maxHeartbeats 4000000 in
theorem ref_number (L : Str) (i : Nat) (hL : L.length ≤ 2000) (hi : i ≤ L.length) (w0 : World) : Calls Tryz.prog 50 #[.string ⟨L.toArray⟩, .int .i64 i] w0 fun e w' =>
    e = .returned (numV (numberP L i)) ∧ Below w0.heap.size w0 w' := by
  have H := Hold.start w0
  go_enter Tryz.func50, Tryz.ntmps50
  go_wp2_with (first | fail)
  go_loopw [6, 7] (fun n k wr => ∃ j : Nat, i ≤ j ∧ j ≤ L.length ∧ k = .int .i64 j ∧ n = .int .i64 (numF ((L.drop i).take (j - i)) : Nat) ∧ Hid (((L.drop i).take (j - i)).all isDigit = true) ∧ Hold w0 wr []) (fun _ k _ => L.length + 1 - (intOf k).toNat)
  case atStart => exact ⟨i, by omega, by omega, rfl, by simp [numF], Lib.hid (by simp), H⟩
  case round =>
    clear H
    obtain ⟨j, hij, hj, rfl, rfl, G, H⟩ := hrel
    have hb := byt_lt L j
    have hnle := numF_le ((L.drop i).take (j - i))
    have EX : ∀ he : (j < L.length → digB (byt L j) = false), numberP L i = if j = i ∨ (i + 1 < j ∧ byt L i = 48) then none else some (numF ((L.drop i).take (j - i)), j) := fun he => numberP_eq hij hj G.out he
    have ST : ∀ hlt : j < L.length, numF ((L.drop i).take (j + 1 - i)) = min (10 * numF ((L.drop i).take (j - i)) + (byt L j - 48)) 101 := fun hlt => num_step hij hlt
    generalize hn : numF ((L.drop i).take (j - i)) = n at hnle EX ST
    clear hn
    have EX2 := Lib.hid EX; clear EX
    have ST2 := Lib.hid ST; clear ST
    by_cases hlt : j < L.length
    · by_cases h48 : 48 ≤ byt L j
      · by_cases h57 : byt L j ≤ 57
        · have hd : decide ((j : Int) < (L.length : Int)) = true := by simp; omega
          have hw1 : IntKind.u8.wrap ((byt L j : Int) - 48) = (byt L j : Int) - 48 := by rw [IntKind.wrap_u8]; omega
          go_wp2_with (first | ((with_reducible refine gI ?_); refine aI ?_))
          go_roundw
          case rel => exact ⟨j + 1, by omega, by omega, by go_num, by rw [ST2.out hlt]; congr 1; omega, Lib.hid (dig_step hij hlt G.out (by simp [digB]; omega)), H⟩
          case measure => simp [intOf]; omega
        · have g57 : decide ((byt L j : Int) ≤ 57) = false := by simp; omega
          have g48 : decide (48 ≤ (byt L j : Int)) = true := by simp; omega
          have hd : decide ((j : Int) < (L.length : Int)) = true := by simp; omega
          have HE := EX2.out (fun _ => by simp [digB]; omega)
          by_cases e1 : j = i
          · subst e1
            have d1 : ((j : Int) == (j : Int)) = true := by simp
            rw [if_pos (.inl rfl)] at HE
            have HX := Lib.hid HE; clear HE
            go_wp2_with (first | ((with_reducible refine gI ?_); refine aI ?_))
            go_ret2
            exact ⟨by rw [HX.out]; rfl, H.below⟩
          · have d1 : ((j : Int) == (i : Int)) = false := by rw [beq_eq_false_iff_ne]; omega
            by_cases e2 : byt L i = 48
            · have d2 : ((byt L i : Int) == 48) = true := by rw [beq_iff_eq]; omega
              by_cases e3 : i + 1 < j
              · have d3 : decide ((i : Int) + 1 < (j : Int)) = true := by simp; omega
                rw [if_pos (.inr ⟨e3, e2⟩)] at HE
                have HX := Lib.hid HE; clear HE
                clear e2
                go_wp2_with (first | ((with_reducible refine gI ?_); refine aI ?_))
                go_ret2
                exact ⟨by rw [HX.out]; rfl, H.below⟩
              · have d3 : decide ((i : Int) + 1 < (j : Int)) = false := by simp; omega
                rw [if_neg (by omega)] at HE
                have HX := Lib.hid HE; clear HE
                clear e2
                go_wp2_with (first | ((with_reducible refine gI ?_); refine aI ?_))
                go_ret2
                exact ⟨by rw [HX.out]; rfl, H.below⟩
            · have d2 : ((byt L i : Int) == 48) = false := by rw [beq_eq_false_iff_ne]; omega
              rw [if_neg (by omega)] at HE
              have HX := Lib.hid HE; clear HE
              clear e2
              go_wp2_with (first | ((with_reducible refine gI ?_); refine aI ?_))
              go_ret2
              exact ⟨by rw [HX.out]; rfl, H.below⟩
      · have g48 : decide (48 ≤ (byt L j : Int)) = false := by simp; omega
        have hd : decide ((j : Int) < (L.length : Int)) = true := by simp; omega
        have HE := EX2.out (fun _ => by simp [digB]; omega)
        by_cases e1 : j = i
        · subst e1
          have d1 : ((j : Int) == (j : Int)) = true := by simp
          rw [if_pos (.inl rfl)] at HE
          have HX := Lib.hid HE; clear HE
          go_wp2_with (first | ((with_reducible refine gI ?_); refine aI ?_))
          go_ret2
          exact ⟨by rw [HX.out]; rfl, H.below⟩
        · have d1 : ((j : Int) == (i : Int)) = false := by rw [beq_eq_false_iff_ne]; omega
          by_cases e2 : byt L i = 48
          · have d2 : ((byt L i : Int) == 48) = true := by rw [beq_iff_eq]; omega
            by_cases e3 : i + 1 < j
            · have d3 : decide ((i : Int) + 1 < (j : Int)) = true := by simp; omega
              rw [if_pos (.inr ⟨e3, e2⟩)] at HE
              have HX := Lib.hid HE; clear HE
              clear e2
              go_wp2_with (first | ((with_reducible refine gI ?_); refine aI ?_))
              go_ret2
              exact ⟨by rw [HX.out]; rfl, H.below⟩
            · have d3 : decide ((i : Int) + 1 < (j : Int)) = false := by simp; omega
              rw [if_neg (by omega)] at HE
              have HX := Lib.hid HE; clear HE
              clear e2
              go_wp2_with (first | ((with_reducible refine gI ?_); refine aI ?_))
              go_ret2
              exact ⟨by rw [HX.out]; rfl, H.below⟩
          · have d2 : ((byt L i : Int) == 48) = false := by rw [beq_eq_false_iff_ne]; omega
            rw [if_neg (by omega)] at HE
            have HX := Lib.hid HE; clear HE
            clear e2
            go_wp2_with (first | ((with_reducible refine gI ?_); refine aI ?_))
            go_ret2
            exact ⟨by rw [HX.out]; rfl, H.below⟩
    · have hd : decide ((j : Int) < (L.length : Int)) = false := by simp; omega
      have HE := EX2.out (fun h => absurd h hlt)
      by_cases e1 : j = i
      · subst e1
        have d1 : ((j : Int) == (j : Int)) = true := by simp
        rw [if_pos (.inl rfl)] at HE
        have HX := Lib.hid HE; clear HE
        go_wp2_with (first | fail)
        go_ret2
        exact ⟨by rw [HX.out]; rfl, H.below⟩
      · have d1 : ((j : Int) == (i : Int)) = false := by rw [beq_eq_false_iff_ne]; omega
        by_cases e2 : byt L i = 48
        · have d2 : ((byt L i : Int) == 48) = true := by rw [beq_iff_eq]; omega
          by_cases e3 : i + 1 < j
          · have d3 : decide ((i : Int) + 1 < (j : Int)) = true := by simp; omega
            rw [if_pos (.inr ⟨e3, e2⟩)] at HE
            have HX := Lib.hid HE; clear HE
            clear e2
            go_wp2_with (first | ((with_reducible refine gI ?_); refine aI ?_))
            go_ret2
            exact ⟨by rw [HX.out]; rfl, H.below⟩
          · have d3 : decide ((i : Int) + 1 < (j : Int)) = false := by simp; omega
            rw [if_neg (by omega)] at HE
            have HX := Lib.hid HE; clear HE
            clear e2
            go_wp2_with (first | ((with_reducible refine gI ?_); refine aI ?_))
            go_ret2
            exact ⟨by rw [HX.out]; rfl, H.below⟩
        · have d2 : ((byt L i : Int) == 48) = false := by rw [beq_eq_false_iff_ne]; omega
          rw [if_neg (by omega)] at HE
          have HX := Lib.hid HE; clear HE
          clear e2
          go_wp2_with (first | ((with_reducible refine gI ?_); refine aI ?_))
          go_ret2
          exact ⟨by rw [HX.out]; rfl, H.below⟩
end Go.Proofs.YtllmgmfihijejaaGreatDoor
/-
  The walks of the words' reference: escapes, bytes of classes.
-/
namespace Go.Proofs.YtllmgmfihijejaaGreatDoor
open Go.RowKit Go.Shelf
attribute [local go_sem] Oper.semAt_some
set_option linter.unusedSimpArgs false

def plainL : Str := [110, 116, 114, 102, 118, 97]
def plainB : List Nat := [10, 9, 13, 12, 11, 7]
theorem plain_hit {c k : Nat} (hk : k < 6) (h : c = byt plainL k) : plainP c = some (plainB.getD k 0) := by
  subst h
  match k, hk with
  | 0, _ => rfl
  | 1, _ => rfl
  | 2, _ => rfl
  | 3, _ => rfl
  | 4, _ => rfl
  | 5, _ => rfl
theorem plain_none {c : Nat} (h : ∀ m, m < 6 → c ≠ byt plainL m) : plainP c = none := by
  have h0 : c ≠ 110 := h 0 (by omega)
  have h1 : c ≠ 116 := h 1 (by omega)
  have h2 : c ≠ 114 := h 2 (by omega)
  have h3 : c ≠ 102 := h 3 (by omega)
  have h4 : c ≠ 118 := h 4 (by omega)
  have h5 : c ≠ 97 := h 5 (by omega)
  unfold plainP
  rw [if_neg h0, if_neg h1, if_neg h2, if_neg h3, if_neg h4, if_neg h5]
theorem hexP_le {c h : Nat} (e : hexP c = some h) : h ≤ 15 := by
  unfold hexP at e
  split at e
  · cases e; omega
  · split at e
    · cases e; omega
    · split at e
      · cases e; omega
      · cases e

set_option maxRecDepth 100000 in
set_option maxHeartbeats 8000000 in
theorem ref_escape (L : Str) (i : Nat) (hL : L.length ≤ 2000) (hi : i ≤ L.length) (w0 : World) : Calls Tryz.prog 47 #[.string ⟨L.toArray⟩, .int .i64 i] w0 fun e w' => e = .returned (escV (escP L i)) ∧ Below w0.heap.size w0 w' := by
  have H := Hold.start w0
  by_cases hlt : i + 1 < L.length
  · have hd : decide ((L.length : Int) ≤ (i : Int) + 1) = false := by simp; omega
    have hb := byt_lt L (i + 1)
    have ES : escP L i = escP L i := rfl
    conv at ES => rhs; unfold escP
    rw [if_pos hlt] at ES
    generalize hc : byt L (i + 1) = c at hb ES
    have HC := Lib.hid hc
    have E2 := Lib.hid ES; clear ES
    go_enter Tryz.func47, Tryz.ntmps47
    go_wp2_with (first | ((with_reducible refine gI ?_); refine aI ?_))
    clear hc
    go_loopw [8] (fun k wr => ∃ j : Nat, j ≤ 6 ∧ k = .int .i64 j ∧ Hid (∀ m, m < j → c ≠ byt plainL m) ∧ Hold w0 wr []) (fun k _ => 7 - (intOf k).toNat)
    case atStart => exact ⟨0, by omega, rfl, Lib.hid (fun m hm => by omega), H⟩
    case round =>
      clear H
      obtain ⟨j, hj, rfl, G, H⟩ := hrel
      by_cases hj6 : j < 6
      · have hd6 : decide ((j : Int) < 6) = true := by simp; omega
        by_cases hit : c = byt plainL j
        · have he := plain_hit hj6 hit
          have he2 := E2.out
          rw [he] at he2
          simp only [] at he2
          have E3 := Lib.hid he2; clear he he2
          have h3 : ((c : Int) == (byt plainL j : Int)) = true := by rw [beq_iff_eq, hit]
          clear hit
          have hj' : j = 0 ∨ j = 1 ∨ j = 2 ∨ j = 3 ∨ j = 4 ∨ j = 5 := by omega
          unfold plainL at h3
          rcases hj' with rfl | rfl | rfl | rfl | rfl | rfl
          all_goals
            go_wp2_with (first | (first | ((with_reducible refine gL ?_); refine aG H ?_) | ((with_reducible refine gI ?_); refine aI ?_)) | ((with_reducible show @wpList _ _ _ ({ dst := _, op := Op.buildSlice _ _ _, type := _, pos := _, after := _, guard := _ } :: _) _ _); refine own_build (by first | rfl | exact wanted_g rfl (yielded_of rfl (by first | rfl | (simp only [put_lit, put_no, List.setIfInBounds_toArray, List.set_cons_succ, List.set_cons_zero, ev_tmp, ev_const, ev_glob, ev_func, List.getD_cons_succ, List.getD_cons_zero]; rfl)))) _ _ _ rfl H (#[.int .u8 10, .int .u8 9, .int .u8 13, .int .u8 12, .int .u8 11, .int .u8 7]) 5 (by intro W; simp only [List.map_toArray, List.map_cons, List.map_nil]; (try simp only [put_lit, put_no, List.setIfInBounds_toArray, List.set_cons_succ, List.set_cons_zero, ev_tmp, ev_const, ev_glob, ev_func, List.getD_cons_succ, List.getD_cons_zero]); (try unfold setV); simp [go_sem] <;> rfl) ?_; clear H; intro b w H; (try simp only [nrm, nrl, Value.cells] at H)))
            go_ret2
            exact ⟨by rw [E3.out]; rfl, H.below⟩
        · have h3 : ((c : Int) == (byt plainL j : Int)) = false := by rw [beq_eq_false_iff_ne]; omega
          unfold plainL at h3
          have HIT := Lib.hid hit; clear hit
          go_wp2_with (first | ((with_reducible refine gI ?_); refine aI ?_))
          go_roundw
          case rel => exact ⟨j + 1, by omega, by go_num, Lib.hid (fun m hm => by
            by_cases e : m = j
            · subst e; exact HIT.out
            · exact G.out m (by omega)), H⟩
          case measure => simp [intOf]; omega
      · obtain rfl : j = 6 := by omega
        have he := plain_none (fun m hm => G.out m hm)
        have he2 := E2.out
        rw [he] at he2
        simp only [] at he2
        have E3 := Lib.hid he2; clear he he2
        clear hd
        by_cases hx : c = 120
        · have dx : ((c : Int) == 120) = true := by rw [beq_iff_eq]; omega
          have e3 := E3.out
          rw [if_pos hx] at e3
          clear hx
          by_cases h3 : i + 3 < L.length
          · have d3 : decide ((L.length : Int) ≤ (i : Int) + 3) = false := by simp; omega
            rw [if_pos (by omega)] at e3
            have hb2 := byt_lt L (i + 2)
            have hb3 := byt_lt L (i + 3)
            have hc2 := fun w => ref_hex (byt L (i + 2)) hb2 w
            have hc3 := fun w => ref_hex (byt L (i + 3)) hb3 w
            cases h2 : hexP (byt L (i + 2)) with
            | none =>
              rw [h2] at e3 hc2
              simp only [optI] at hc2
              have E4 := Lib.hid e3; clear e3 h2
              go_wp2_with (first | ((with_reducible refine gI ?_); refine aI ?_) | (go_at_call 69; (with_reducible refine ch (hc2 _) H ?_); clear H; intro w H) | (go_at_call 69; (with_reducible refine ch (hc3 _) H ?_); clear H; intro w H))
              go_ret2
              exact ⟨by rw [E4.out]; rfl, H.below⟩
            | some x =>
              rw [h2] at e3 hc2
              simp only [] at e3
              rw [if_pos h3] at e3
              have hh := hexP_le h2
              simp only [optI] at hc2
              cases h4 : hexP (byt L (i + 3)) with
              | none =>
                rw [h4] at hc3
                simp only [h4, optI] at hc3 e3
                have E4 := Lib.hid e3; clear e3 h2 h4
                have dh : decide ((x : Int) < 0) = false := by simp
                go_wp2_with (first | ((with_reducible refine gI ?_); refine aI ?_) | (go_at_call 69; (with_reducible refine ch (hc2 _) H ?_); clear H; intro w H) | (go_at_call 69; (with_reducible refine ch (hc3 _) H ?_); clear H; intro w H))
                go_ret2
                exact ⟨by rw [E4.out]; rfl, H.below⟩
              | some y =>
                rw [h4] at hc3
                simp only [h4, optI] at hc3 e3
                have hg := hexP_le h4
                have E4 := Lib.hid e3; clear e3 h2 h4
                have dh : decide ((x : Int) < 0) = false := by simp
                have dg : decide ((y : Int) < 0) = false := by simp
                go_wp2_with (first | ((with_reducible refine gI ?_); refine aI ?_) | (go_at_call 69; (with_reducible refine ch (hc2 _) H ?_); clear H; intro w H) | (go_at_call 69; (with_reducible refine ch (hc3 _) H ?_); clear H; intro w H))
                refine wp_region_spec 17 [fun v _ => v = .string ⟨L.toArray⟩, fun v _ => v = .int .i64 (i : Int), fun v _ => v = .int .i64 ((i + 2 : Nat) : Int), fun v _ => v = .int .u8 (byt L (i + 2) : Int), fun v _ => v = .int .i64 (x : Int), fun v _ => v = .int .i64 ((16 * x : Nat) : Int), fun v _ => v = .string ⟨L.toArray⟩, fun v _ => v = .int .i64 (i : Int), fun v _ => v = .int .i64 ((i + 3 : Nat) : Int), fun v _ => v = .int .u8 (byt L (i + 3) : Int), fun v _ => v = .int .i64 (y : Int), fun v _ => v = .int .i64 ((16 * x + y : Nat) : Int), fun v _ => v = .int .u8 ((16 * x + y : Nat) : Int), fun v _ => v = .int .i64 (i : Int), fun v _ => v = .int .i64 ((i + 4 : Nat) : Int), fun v _ => v = .int .u8 ((16 * x + y : Nat) : Int), fun v _ => v = .int .i64 ((i + 4 : Nat) : Int)] (fun _ => false) (by kernel_rfl) (by kernel_rfl) (by kernel_rfl) ⟨stable_eq _, stable_eq _, stable_eq _, stable_eq _, stable_eq _, stable_eq _, stable_eq _, stable_eq _, stable_eq _, stable_eq _, stable_eq _, stable_eq _, stable_eq _, stable_eq _, stable_eq _, stable_eq _, stable_eq _, trivial⟩ (fun _ _ h => by cases h) ?ob ?en
                case ob =>
                  refine ⟨?_, ?_, ?_, ?_, ?_, ?_, ?_, ?_, ?_, ?_, ?_, ?_, ?_, ?_, ?_, ?_, ?_, trivial⟩ <;> intro A W h
                  · exact rs_move rfl rfl (h.frame 0 rfl) (by decide)
                  · exact rs_move rfl rfl (h.frame 1 rfl) (by decide)
                  · (have e61 : A.eval (.tmp 61) = .int .i64 (i : Int) := h.dep 1 61 rfl rfl; refine rs_pure rfl ?_ (by decide); simp only [execOp, e61]; (simp [go_sem] <;> first | done | omega | (rw [IntKind.wrap_i64]; omega) | (rw [IntKind.wrap_u8]; omega) | (rw [IntKind.wrap_u64]; omega)))
                  · exact rs_pure rfl (str_index_run rfl Tryz.underlying9 (h.dep 0 60 rfl rfl) (h.dep 2 62 rfl rfl) rfl (by omega)) (by decide)
                  · exact rs_calln rfl rfl (enters_of Tryz.func69 (by kernel_rfl) rfl) (args1 (h.dep 3 63 rfl rfl)) (hc2 W) (by decide)
                  · (have e64 : A.eval (.tmp 64) = .int .i64 (x : Int) := h.dep 4 64 rfl rfl; refine rs_pure rfl ?_ (by decide); simp only [execOp, e64]; (simp [go_sem] <;> first | done | omega | (rw [IntKind.wrap_i64]; omega) | (rw [IntKind.wrap_u8]; omega) | (rw [IntKind.wrap_u64]; omega)))
                  · exact rs_move rfl rfl (h.frame 0 rfl) (by decide)
                  · exact rs_move rfl rfl (h.frame 1 rfl) (by decide)
                  · (have e67 : A.eval (.tmp 67) = .int .i64 (i : Int) := h.dep 7 67 rfl rfl; refine rs_pure rfl ?_ (by decide); simp only [execOp, e67]; (simp [go_sem] <;> first | done | omega | (rw [IntKind.wrap_i64]; omega) | (rw [IntKind.wrap_u8]; omega) | (rw [IntKind.wrap_u64]; omega)))
                  · exact rs_pure rfl (str_index_run rfl Tryz.underlying9 (h.dep 6 66 rfl rfl) (h.dep 8 68 rfl rfl) rfl (by omega)) (by decide)
                  · exact rs_calln rfl rfl (enters_of Tryz.func69 (by kernel_rfl) rfl) (args1 (h.dep 9 69 rfl rfl)) (hc3 W) (by decide)
                  · (have e65 : A.eval (.tmp 65) = .int .i64 ((16 * x : Nat) : Int) := h.dep 5 65 rfl rfl; have e70 : A.eval (.tmp 70) = .int .i64 (y : Int) := h.dep 10 70 rfl rfl; refine rs_pure rfl ?_ (by decide); simp only [execOp, e65, e70]; (simp [go_sem] <;> first | done | omega | (rw [IntKind.wrap_i64]; omega) | (rw [IntKind.wrap_u8]; omega) | (rw [IntKind.wrap_u64]; omega)))
                  · (have e71 : A.eval (.tmp 71) = .int .i64 ((16 * x + y : Nat) : Int) := h.dep 11 71 rfl rfl; refine rs_pure rfl ?_ (by decide); simp only [execOp, e71]; (simp [go_sem] <;> first | done | omega | (rw [IntKind.wrap_i64]; omega) | (rw [IntKind.wrap_u8]; omega) | (rw [IntKind.wrap_u64]; omega)))
                  · exact rs_move rfl rfl (h.frame 1 rfl) (by decide)
                  · (have e73 : A.eval (.tmp 73) = .int .i64 (i : Int) := h.dep 13 73 rfl rfl; refine rs_pure rfl ?_ (by decide); simp only [execOp, e73]; (simp [go_sem] <;> first | done | omega | (rw [IntKind.wrap_i64]; omega) | (rw [IntKind.wrap_u8]; omega) | (rw [IntKind.wrap_u64]; omega)))
                  · exact rs_assign rfl rfl (h.dep 12 72 rfl rfl) (by decide)
                  · exact rs_assign rfl rfl (h.dep 14 74 rfl rfl) (by decide)
                case en =>
                  intro vals W hbw hv _
                  have v0 : vals 0 = .string ⟨L.toArray⟩ := hv 0 (by omega)
                  have v1 : vals 1 = .int .i64 (i : Int) := hv 1 (by omega)
                  have v2 : vals 2 = .int .i64 ((i + 2 : Nat) : Int) := hv 2 (by omega)
                  have v3 : vals 3 = .int .u8 (byt L (i + 2) : Int) := hv 3 (by omega)
                  have v4 : vals 4 = .int .i64 (x : Int) := hv 4 (by omega)
                  have v5 : vals 5 = .int .i64 ((16 * x : Nat) : Int) := hv 5 (by omega)
                  have v6 : vals 6 = .string ⟨L.toArray⟩ := hv 6 (by omega)
                  have v7 : vals 7 = .int .i64 (i : Int) := hv 7 (by omega)
                  have v8 : vals 8 = .int .i64 ((i + 3 : Nat) : Int) := hv 8 (by omega)
                  have v9 : vals 9 = .int .u8 (byt L (i + 3) : Int) := hv 9 (by omega)
                  have v10 : vals 10 = .int .i64 (y : Int) := hv 10 (by omega)
                  have v11 : vals 11 = .int .i64 ((16 * x + y : Nat) : Int) := hv 11 (by omega)
                  have v12 : vals 12 = .int .u8 ((16 * x + y : Nat) : Int) := hv 12 (by omega)
                  have v13 : vals 13 = .int .i64 (i : Int) := hv 13 (by omega)
                  have v14 : vals 14 = .int .i64 ((i + 4 : Nat) : Int) := hv 14 (by omega)
                  have v15 : vals 15 = .int .u8 ((16 * x + y : Nat) : Int) := hv 15 (by omega)
                  have v16 : vals 16 = .int .i64 ((i + 4 : Nat) : Int) := hv 16 (by omega)
                  simp only [List.take_succ_cons, List.take_zero, List.drop_succ_cons, List.drop_zero, List.drop_nil, List.take_nil, fillAll, Nat.zero_add, Nat.reduceAdd]
                  rw [v0, v1, v2, v3, v4, v5, v6, v7, v8, v9, v10, v11, v12, v13, v14, v15, v16]
                  clear hv v0 v1 v2 v3 v4 v5 v6 v7 v8 v9 v10 v11 v12 v13 v14 v15 v16
                  try simp only [put_lit, List.setIfInBounds_toArray, List.set_cons_succ, List.set_cons_zero]
                  replace H := H.call hbw; clear hbw
                  go_wp2_with (first | fail)
                  go_ret2
                  exact ⟨by rw [E4.out]; simp [escV], H.below⟩
          · have d3 : decide ((L.length : Int) ≤ (i : Int) + 3) = true := by simp; omega
            have e4 : escP L i = none := by
              rw [e3]
              by_cases h2 : i + 2 < L.length
              · rw [if_pos h2]
                cases hexP (byt L (i + 2)) with
                | none => rfl
                | some h => simp only []; rw [if_neg h3]
              · rw [if_neg h2]
            have E4 := Lib.hid e4; clear e3 e4
            go_wp2_with (first | fail)
            go_ret2
            exact ⟨by rw [E4.out]; rfl, H.below⟩
        · have dx : ((c : Int) == 120) = false := by rw [beq_eq_false_iff_ne]; omega
          have e3 := E3.out
          rw [if_neg hx] at e3
          clear hx
          by_cases h128 : 128 ≤ c
          · have d8 : decide (128 ≤ (c : Int)) = true := by simp; omega
            rw [if_pos h128] at e3
            have E4 := Lib.hid e3; clear e3
            go_wp2_with (first | (first | ((with_reducible refine gT ?_); (refine aS H ?_; clear H; intro w H; (try simp only [nrm, nrl, Value.cells] at H))) | ((with_reducible refine gA ?_); (refine bA H ?_; clear H; intro b w H; (try simp only [nrm, nrl, Value.cells] at H)))) | (go_at_call 66; (with_reducible refine ch (named_alnum _) H ?_); clear H; intro w H))
            go_ret2
            exact ⟨by rw [E4.out]; rfl, H.below⟩
          · have d8 : decide (128 ≤ (c : Int)) = false := by simp; omega
            rw [if_neg h128] at e3
            have hH := fun w => ref_Has alnumS alnumS_ok c hb w
            cases hs : hasB alnumS c with
            | true =>
              rw [hs] at e3 hH
              rw [if_pos rfl] at e3
              have E4 := Lib.hid e3; clear e3 hs
              go_wp2_with (first | (first | ((with_reducible refine gT ?_); (refine aS H ?_; clear H; intro w H; (try simp only [nrm, nrl, Value.cells] at H))) | ((with_reducible refine gL ?_); refine aL H ?_) | ((with_reducible refine gA ?_); (refine bA H ?_; clear H; intro b w H; (try simp only [nrm, nrl, Value.cells] at H)))) | (go_at_call 66; (with_reducible refine ch (named_alnum _) H ?_); clear H; intro w H) | (go_at_call 70; (with_reducible refine ch (hH _) H ?_); clear H; intro w H))
              go_ret2
              exact ⟨by rw [E4.out]; rfl, H.below⟩
            | false =>
              rw [hs] at e3 hH
              rw [if_neg (by simp)] at e3
              have E4 := Lib.hid e3; clear e3 hs
              go_wp2_with (first | (first | ((with_reducible refine gT ?_); (refine aS H ?_; clear H; intro w H; (try simp only [nrm, nrl, Value.cells] at H))) | ((with_reducible refine gL ?_); refine aL H ?_) | ((with_reducible refine gA ?_); (refine bA H ?_; clear H; intro b w H; (try simp only [nrm, nrl, Value.cells] at H)))) | (go_at_call 66; (with_reducible refine ch (named_alnum _) H ?_); clear H; intro w H) | (go_at_call 70; (with_reducible refine ch (hH _) H ?_); clear H; intro w H))
              go_ret2
              exact ⟨by rw [E4.out]; rfl, H.below⟩
  · have hd : decide ((L.length : Int) ≤ (i : Int) + 1) = true := by simp; omega
    go_enter Tryz.func47, Tryz.ntmps47
    go_wp2_with (first | fail)
    go_ret2
    exact ⟨by unfold escP; rw [if_neg hlt]; rfl, H.below⟩
end Go.Proofs.YtllmgmfihijejaaGreatDoor
/-
  The same inside the widest fence, where an operation may be a round of a loop over a function.
-/
namespace Go.Proofs.YtllmgmfihijejaaGreatDoor
open Go.RowKit

theorem rowsIn_of_rows {m : Nat} {P : Program} {row : String} {args : Array Value} {w : World} {R : Value → World → Prop} (h : Rows P row args w R) : RowsIn Fence.wide m P row args w R :=
  fun c cs _ => let ⟨v, w', r, s⟩ := h c cs; ⟨v, w', r, stepsIn_wide.2 s⟩
theorem wpIn_of_wp {m : Nat} {P : Program} {o : Oper} {a : Act} {w : World} {K : Act → World → Prop} {Q : Exit → Act → World → Prop} (h : o.wp P a w K Q) : o.wpIn Fence.wide m P a w K Q := by
  unfold Oper.wp at h
  refine ⟨fun _ _ => trivial, ?_⟩
  rw [show o.semAt Fence.wide.round a.eval = execOp a.eval o from rfl]
  generalize (execOp a.eval o).run P w = r at *
  cases r with
  | ok x w' =>
    cases x <;> simp only [Oper.upon, Oper.uponIn] at h ⊢ <;>
      first
        | exact h
        | exact ⟨fun h => by simp [Fence.wide] at h, callsIn_wide.2 h⟩
        | exact ⟨fun h => by simp [Fence.wide] at h, rowsIn_of_rows h⟩
        | exact h.elim
  | halt x w' => cases x <;> simp only [Oper.upon, Oper.uponIn] at h ⊢ <;> first | exact h | exact h.elim
/-- a step that may leave the region, or be a round -/
def QStepI (m : Nat) (P : Program) (ops : Array Oper) (R : World → World → Prop) (Q : Exit → Act → World → Prop) (o : Oper) (a : Act) (w : World) (s : Value → World → Prop) : Prop :=
  if Region.wanted o (yielded ops a.tmps) then o.wpIn Fence.wide m P a w (fun a' w' => ∃ v, a' = a.put o.dst v ∧ R w w' ∧ s v w') Q else s undef w
theorem QStepX.toI {m : Nat} {P : Program} {ops : Array Oper} {R : World → World → Prop} {Q : Exit → Act → World → Prop} {o : Oper} {a : Act} {w : World} {s : Value → World → Prop} (h : QStepX P ops R Q o a w s) : QStepI m P ops R Q o a w s := by
  unfold QStepX at h
  unfold QStepI
  split
  · rename_i hw; rw [if_pos hw] at h; exact wpIn_of_wp h
  · rename_i hw; rw [if_neg hw] at h; exact h

/-- one operation waits for another, straight or through others -/
def depB (l : List Oper) : Nat → Nat → Nat → Bool
  | 0, _, _ => false
  | f + 1, i, j => match l[j]? with
    | some o => o.after.toList.any (fun e => Region.binds .any e && (e.on == i || depB l f i e.on))
    | none => false
theorem depB_listed {l : List Oper} {listed : Array Bool} (hc : ∀ j oj, l.toArray[j]? = some oj → listed.getD j false = true → ∀ e ∈ oj.after, Region.binds .any e = true → listed.getD e.on false = true) : ∀ (f i j : Nat), depB l f i j = true → listed.getD j false = true → listed.getD i false = true
  | 0, _, _, h, _ => by cases h
  | f + 1, i, j, h, hl => by
    unfold depB at h
    cases ho : l[j]? with
    | none => rw [ho] at h; cases h
    | some o =>
      rw [ho] at h
      obtain ⟨e, he, hb⟩ := List.any_eq_true.1 h
      simp only [Bool.and_eq_true, Bool.or_eq_true, beq_iff_eq] at hb
      have h1 := hc j o (by simpa using ho) hl e (Array.mem_toList_iff.1 he) hb.1
      rcases hb.2 with h2 | h2
      · rwa [h2] at h1
      · exact depB_listed hc f i e.on h2 h1
theorem wpIn_region_specSD {P : Program} {id : Nat} {Q : Exit → Act → World → Prop} {a0 : Act} {w0 : World} {l : List Oper} (R0 R : World → World → Prop) (Sp : List Nat) (St : Nat → World → Prop) (h0R : ∀ u v, R0 u v → R u v) (h0S : ∀ r u v, St r u → R0 u v → St r v) (hdrew0 : ∀ w : World, R0 w { w with drawn := w.drawn + 1 }) (hrefl0 : ∀ w, R0 w w) (htrans : ∀ u v w, R u v → R v w → R u w) (hrefl : ∀ w, R w w) (hdrew : ∀ w : World, R w { w with drawn := w.drawn + 1 }) (m n : Nat) (hnn : n = l.length) (Ss : Nat → Value → World → Prop)
    (hsp : specialB l n Sp = true) (hst0 : St 0 w0) (hm : P.follows .mixedOrders = true) (hB : specB l.toArray n = true) (hsz : (l.take n).all (fun o => match o.dst with | some d => decide (d < a0.tmps.size) | none => true) = true)
    (hst : ∀ i, i < n → ∀ v w w', Ss i v w → R w w' → Ss i v w')
    (hstep : ∀ i o, i < n → l[i]? = some o → ∀ a w, RCtxS (l.take n) Ss R a0 w0 o a w →
      (Sp.contains i = false → ∀ r, St r w → (∀ (k j : Nat), Sp[k]? = some j → depB l l.length i j = true → r ≤ k) → QStep P l.toArray R0 o a w (Ss i)) ∧ ∀ r, Sp[r]? = some i → St r w → QStepI m P l.toArray R Q o a w (fun v w' => Ss i v w' ∧ St (r + 1) w'))
    (hend : ∀ vals w, R w0 w → (∀ i, i < n → Ss i (vals i) w) → St Sp.length w → Q .normal (fillAll (l.take n) 0 vals a0) w) :
    (Code.region id l.toArray true).wpIn Fence.wide m P Q a0 w0 := by
  simp only [specB, Bool.and_eq_true, decide_eq_true_eq] at hB
  obtain ⟨⟨⟨⟨hn, hd⟩, haf⟩, hsink⟩, hseq⟩ := hB
  have hn' : n ≤ l.length := by simpa using hn
  have hspn : ∀ (k i : Nat), Sp[k]? = some i → i < n := fun k i hk => (specialB_spec hsp).1 k i hk
  have hd' : dstsB (l.take n) = true := hd
  have htl : (l.take n).length = n := by simp; omega
  have key : ∀ (rem : List Nat) (f : Nat), rem.length = f → rem.Nodup → ∀ (listed : Array Bool) (a : Act) (w : World), HeadInv .any l.toArray n listed →
      (∀ i, i ∈ rem ↔ (i < n ∧ listed.getD i true = false)) → (∃ vals, a = fill (l.take n) 0 listed vals a0 ∧ (∀ i, i < n → listed.getD i false = true → Ss i (vals i) w)) → R w0 w → (∃ r, r ≤ Sp.length ∧ St r w ∧ ∀ (k i : Nat), Sp[k]? = some i → (listed.getD i false = true ↔ k < r)) →
      wpAnyIn Fence.wide m P .any l.toArray Q (f + (l.toArray.size - n)) listed a w := by
    intro rem f
    induction f generalizing rem with
    | zero =>
      intro hl _ listed a w inv hrem ⟨vals, ha, hv⟩ hb ⟨r, hr1, hr2, hr3⟩
      have hr : rem = [] := List.length_eq_zero_iff.1 hl
      subst hr
      have hall : ∀ i, i < n → listed.getD i false = true := by
        intro i hi
        have h1 : ¬ listed.getD i true = false := fun h => by have := (hrem i).2 ⟨hi, h⟩; simp at this
        have h2 : i < listed.size := by rw [inv.size]; omega
        rw [Array.getD_eq_getD_getElem?, Array.getElem?_eq_getElem h2] at h1 ⊢
        simpa using h1
      have hlist := listed_head hn inv hall
      have hrl : r = Sp.length := by
        rcases Nat.lt_or_ge r Sp.length with h | h
        · have := (hr3 r Sp[r] (by simp [h])).1 (hall _ (hspn r Sp[r] (by simp [h])))
          omega
        · omega
      subst hrl
      have hw := hend vals w hb (fun i hi => hv i hi (hall i hi)) hr2
      rw [← fill_all (l.take n) 0 listed vals a0 (fun i hi => by rw [Nat.zero_add]; exact hall i (by omega)), ← ha] at hw
      have hz : 0 + (l.toArray.size - n) = 0 := by simp; omega
      rw [hz]
      refine ⟨?_, hw⟩
      have hz2 : l.toArray.size - n = 0 := by omega
      rw [hz2] at hseq
      rw [hlist, hz2]
      simpa [Region.seqB] using hseq
    | succ f ih =>
      intro hl hnd listed a w inv hrem ⟨vals, ha, hv⟩ hb ⟨r, hr1, hr2, hr3⟩
      -- the least that is not listed is ready
      have hex : ∃ i, i ∈ rem ∧ ∀ j, j ∈ rem → i ≤ j := by
        have : ∀ (r : List Nat), r ≠ [] → ∃ i, i ∈ r ∧ ∀ j, j ∈ r → i ≤ j := by
          intro r
          induction r with
          | nil => intro h; exact (h rfl).elim
          | cons x r ihr =>
            intro _
            by_cases hr : r = []
            · subst hr; exact ⟨x, by simp, by simp⟩
            · obtain ⟨i, hi, hmin⟩ := ihr hr
              by_cases hx : x ≤ i
              · exact ⟨x, by simp, fun j hj => by rcases List.mem_cons.1 hj with rfl | hj; exact Nat.le_refl _; exact Nat.le_trans hx (hmin j hj)⟩
              · exact ⟨i, by simp [hi], fun j hj => by rcases List.mem_cons.1 hj with rfl | hj; omega; exact hmin j hj⟩
        exact this rem (by intro h; subst h; simp at hl)
      have hready : Region.ready .any l.toArray listed ≠ [] := by
        obtain ⟨i, hi, hmin⟩ := hex
        obtain ⟨hin, hil⟩ := (hrem i).1 hi
        have hlt : i < l.length := by omega
        have hmem : i ∈ Region.ready .any l.toArray listed := by
          refine mem_ready.2 ⟨hil, l[i], by simp [hlt], fun e he hbd => ?_⟩
          have h1 := List.all_eq_true.1 haf (l[i], i) (by
            rw [List.mem_zipIdx_iff_getElem?]; simp [hin, hlt])
          have h2 := Array.all_eq_true'.1 h1 e he
          simp [hbd] at h2
          have hj : ¬ e.on ∈ rem := fun h => by have := hmin _ h; omega
          have h3 : ¬ listed.getD e.on true = false := fun h => hj ((hrem _).2 ⟨by omega, h⟩)
          have h4 : e.on < listed.size := by rw [inv.size]; simp; omega
          rw [Array.getD_eq_getD_getElem?, Array.getElem?_eq_getElem h4] at h3 ⊢
          simpa using h3
        intro h; rw [h] at hmem; simp at hmem
      rw [show f + 1 + (l.toArray.size - n) = (f + (l.toArray.size - n)) + 1 from by omega]
      refine ⟨fun h => (hready h).elim, fun i hi => ?_⟩
      obtain ⟨hil, o, ho, haft⟩ := mem_ready.1 hi
      have hin : i < n := by
        rcases Nat.lt_or_ge i n with h | h
        · exact h
        · exfalso
          obtain ⟨i', hi', _⟩ := hex
          obtain ⟨hin', hil'⟩ := (hrem i').1 hi'
          have hisz : i < l.toArray.size := (Array.getElem?_eq_some_iff.1 ho).1
          simp only [Bool.or_eq_true, decide_eq_true_eq, Bool.and_eq_true] at hsink
          rcases hsink with h0 | ⟨hs, hc⟩
          · omega
          · exact tail_waits hs hc (by omega) inv (n - i') i' rfl hin' hil' i h hi
      have ho' : l[i]? = some o := by simpa using ho
      have hot : (l.take n)[i]? = some o := by rw [List.getElem?_take_of_lt hin]; exact ho'
      obtain ⟨d, hod⟩ : ∃ d, o.dst = some d := by
        have : ∀ (r : List Oper) (j : Nat), dstsB r = true → r[j]? = some o → ∃ d, o.dst = some d := by
          intro r
          induction r with
          | nil => intro j _ h; simp at h
          | cons x r ihr =>
            intro j hdd h
            simp only [dstsB, Bool.and_eq_true] at hdd
            cases j with
            | zero => simp at h; subst h; exact Option.isSome_iff_exists.1 hdd.1.1
            | succ j => exact ihr j hdd.2 (by simpa using h)
        exact this _ i hd' hot
      have hbd : ∀ (j : Nat) (oj : Oper) (dj : Tmp), (l.take n)[j]? = some oj → oj.dst = some dj → dj < a0.tmps.size := by
        intro j oj dj hj hdj
        have := List.all_eq_true.1 hsz oj (List.mem_of_getElem? hj)
        simpa [hdj] using this
      have hctx : RCtxS (l.take n) Ss R a0 w0 o a w := by
        refine ⟨hb, fun t ht => by rw [ha]; exact fill_frame _ _ _ _ _ t ht, fun j dj hj hdj => ?_, by rw [ha, fill_defers]⟩
        obtain ⟨e, he, hbe⟩ := List.any_eq_true.1 hj
        simp only [Bool.and_eq_true, beq_iff_eq] at hbe
        have hlj := haft e (Array.mem_toList_iff.1 he) hbe.1
        rw [hbe.2] at hlj
        obtain ⟨oj, hoj, hdj'⟩ := Option.bind_eq_some_iff.1 hdj
        have hjn : j < n := by have := (List.getElem?_eq_some_iff.1 hoj).1; omega
        rw [ha, fill_at _ 0 listed vals a0 j oj dj hd' hoj hdj' (hbd j oj dj hoj hdj') (by rw [Nat.zero_add]; exact hlj), Nat.zero_add]
        exact hv j hjn hlj
      have hstep' := hstep i o hin ho' a w hctx
      have hnext : ∀ v w', R w w' → Ss i v w' → (∃ r, r ≤ Sp.length ∧ St r w' ∧ ∀ (k j : Nat), Sp[k]? = some j → ((listed.setIfInBounds i true).getD j false = true ↔ k < r)) → wpAnyIn Fence.wide m P .any l.toArray Q (f + (l.toArray.size - n)) (listed.setIfInBounds i true) (a.put o.dst v) w' := by
        intro v w' hbw hsv hstt
        have hmemi : i ∈ rem := (hrem i).2 ⟨hin, hil⟩
        refine ih (rem.erase i) (by rw [List.length_erase_of_mem hmemi, hl]; rfl) (hnd.erase i) _ _ w' (inv.set hi hin) (fun j => ?_) ⟨fun j => if j = i then v else vals j, ?_, fun j hj hlj => ?_⟩ (htrans _ _ _ hb hbw) hstt
        · rw [hnd.mem_erase_iff, hrem j]
          by_cases hji : j = i
          · subst hji
            have hjs : j < listed.size := by rw [inv.size]; simp; omega
            simp [hjs]
          · rw [getD_set_ne true (fun e => hji e.symm)]
            simp [hji]
        · have := fill_set (l.take n) 0 i listed vals a0 o d v hd' hot hod (by rw [Nat.zero_add]; exact hil)
          rw [Nat.zero_add] at this
          rw [this, ← ha, hod]
        · by_cases hji : j = i
          · subst hji; simpa using hsv
          · show Ss j (if j = i then v else vals j) w'
            rw [if_neg hji]
            rw [getD_set_ne false (fun e => hji e.symm)] at hlj
            exact hst j hj _ _ _ (hv j hj hlj) hbw
      have hun : listed.getD i false = false := getD_both hil
      have hisz : i < listed.size := by rw [inv.size]; simp; omega
      by_cases hsi : Sp.contains i = true
      case neg =>
        have hsi' : Sp.contains i = false := by simpa using hsi
        have hq := hstep'.1 hsi' r hr2 (fun k j hk hdj => by
          rcases Nat.lt_or_ge k r with h | h
          · exfalso
            have h1 := (hr3 k j hk).2 h
            have h2 := depB_listed inv.closed l.length i j hdj h1
            rw [hun] at h2; cases h2
          · exact h)
        have hne : ∀ (k j : Nat), Sp[k]? = some j → j ≠ i := fun k j hk e => by
          subst e
          have : Sp.contains j = true := by simpa using List.mem_of_getElem? hk
          rw [hsi'] at this; cases this
        have hstt : ∀ w', R0 w w' → (∃ r, r ≤ Sp.length ∧ St r w' ∧ ∀ (k j : Nat), Sp[k]? = some j → ((listed.setIfInBounds i true).getD j false = true ↔ k < r)) := fun w' hw' =>
          ⟨r, hr1, h0S _ _ _ hr2 hw', fun k j hk => by rw [getD_set_ne false (fun e => hne k j hk e.symm)]; exact hr3 k j hk⟩
        unfold wpOpIn
        simp only [ho]
        unfold QStep at hq
        split
        · rename_i hw
          rw [if_pos hw] at hq
          refine wpIn_of_wp (wpQ_mono (Oper.wp_mono (fun a' w' ⟨v, e, hbw, hsv⟩ => ?_) hq))
          subst e
          exact hnext v w' (h0R _ _ hbw) hsv (hstt w' hbw)
        · rename_i hw
          rw [if_neg hw] at hq
          exact ⟨fun _ _ => trivial, hnext undef w (hrefl w) hq (hstt w (hrefl0 w))⟩
      obtain ⟨ri, hri⟩ := List.mem_iff_getElem?.1 (show i ∈ Sp by simpa using hsi)
      have hrr : r = ri := by
        have h1 : ¬ ri < r := fun h => by have := (hr3 ri i hri).2 h; rw [hun] at this; cases this
        rcases Nat.lt_or_ge r ri with h | h
        · exfalso
          -- the one ahead of it is listed
          have hril := (List.getElem?_eq_some_iff.1 hri).1
          obtain ⟨e, he, hbe⟩ := (specialB_spec hsp).2 (ri - 1) (Sp[ri - 1]'(by omega)) i o (List.getElem?_eq_getElem (by omega)) (by rw [show ri - 1 + 1 = ri from by omega]; exact hri) ho'
          have := haft e he hbe.1
          rw [hbe.2] at this
          have := (hr3 (ri - 1) (Sp[ri - 1]'(by omega)) (List.getElem?_eq_getElem (by omega))).1 this
          omega
        · omega
      subst hrr
      have hril := (List.getElem?_eq_some_iff.1 hri).1
      have hq := hstep'.2 r hri hr2
      have hinj : ∀ k, Sp[k]? = some i → k = r := fun k hk => by
        rcases Nat.lt_trichotomy k r with h | h | h
        · have := (hr3 k i hk).2 h; rw [hun] at this; cases this
        · exact h
        · exact (specialB_nodup hsp k r i hk hri)
      have hstt : ∀ w', St (r + 1) w' → (∃ r, r ≤ Sp.length ∧ St r w' ∧ ∀ (k j : Nat), Sp[k]? = some j → ((listed.setIfInBounds i true).getD j false = true ↔ k < r)) := fun w' hw' => by
        refine ⟨r + 1, hril, hw', fun k j hk => ?_⟩
        by_cases hji : j = i
        · subst hji
          have := hinj k hk; subst this
          simp [hisz]
        · rw [getD_set_ne false (fun e => hji e.symm), hr3 k j hk]
          have hkr : k ≠ r := fun e => by subst e; rw [hri] at hk; cases hk; exact hji rfl
          omega
      unfold wpOpIn
      simp only [ho]
      unfold QStepI at hq
      split
      · rename_i hw
        rw [if_pos hw] at hq
        refine Oper.wpIn_mono (fun a' w' ⟨v, e, hbw, hsv, hss⟩ => ?_) hq
        subst e
        exact hnext v w' hbw hsv (hstt w' hss)
      · rename_i hw
        rw [if_neg hw] at hq
        exact ⟨fun _ _ => trivial, hnext undef w (hrefl w) hq.1 (hstt w hq.2)⟩
  refine wpIn_region_any hm ?_
  have h0 := key (List.range n) n (by simp) List.nodup_range (Array.replicate l.toArray.size false) a0 { w0 with drawn := w0.drawn + 1 }
    ⟨by simp, fun j oj _ hl => (by rw [getD_replicate_false] at hl; cases hl), fun t _ ht => getD_in (by simpa using ht) (getD_replicate_false _ _)⟩
    (fun i => by
      rw [List.mem_range]
      constructor
      · intro h; exact ⟨h, getD_in (by simp; omega) (getD_replicate_false _ _)⟩
      · intro h; exact h.1)
    ⟨fun _ => undef, (fill_none _ _ _ _ _ (fun i => getD_replicate_false _ _)).symm, fun i _ h => (by rw [getD_replicate_false] at h; cases h)⟩
    (hdrew w0) ⟨0, Nat.zero_le _, h0S _ _ _ hst0 (hdrew0 w0), fun k i _ => by rw [getD_replicate_false]; simp⟩
  rw [show n + (l.toArray.size - n) = l.toArray.size from by omega] at h0
  exact h0



/-- where an operation stands among the special ones -/
def OblI (m : Nat) (P : Program) (Q : Exit → Act → World → Prop) (l hd : List Oper) (R0 R : World → World → Prop) (Sp : List Nat) (St : Nat → World → Prop) (L : List (Value → World → Prop)) (a0 : Act) (w0 : World) : List Oper → Nat → Prop
  | [], _ => True
  | o :: r, i => (match Sp.idxOf? i with
      | none => ∀ a w, RCtxS hd (lookS L) R a0 w0 o a w → ∀ r, St r w → (∀ (k j : Nat), Sp[k]? = some j → depB l l.length i j = true → r ≤ k) → QStep P l.toArray R0 o a w (lookS L i)
      | some r => ∀ a w, RCtxS hd (lookS L) R a0 w0 o a w → St r w → QStepI m P l.toArray R Q o a w (fun v w' => lookS L i v w' ∧ St (r + 1) w')) ∧ OblI m P Q l hd R0 R Sp St L a0 w0 r (i + 1)
theorem OblI.get {m : Nat} {P : Program} {Q : Exit → Act → World → Prop} {l hd : List Oper} {R0 R : World → World → Prop} {Sp : List Nat} {St : Nat → World → Prop} {L : List (Value → World → Prop)} {a0 : Act} {w0 : World} : ∀ (r : List Oper) (k : Nat), OblI m P Q l hd R0 R Sp St L a0 w0 r k → ∀ i o, r[i]? = some o →
    (match Sp.idxOf? (k + i) with
      | none => ∀ a w, RCtxS hd (lookS L) R a0 w0 o a w → ∀ r, St r w → (∀ (q j : Nat), Sp[q]? = some j → depB l l.length (k + i) j = true → r ≤ q) → QStep P l.toArray R0 o a w (lookS L (k + i))
      | some r => ∀ a w, RCtxS hd (lookS L) R a0 w0 o a w → St r w → QStepI m P l.toArray R Q o a w (fun v w' => lookS L (k + i) v w' ∧ St (r + 1) w'))
  | [], _, _, _, _, h => by simp at h
  | o :: r, k, h, 0, o', h' => by simp at h'; subst h'; exact h.1
  | o :: r, k, h, i + 1, o', h' => by
    have := OblI.get r (k + 1) h.2 i o' (by simpa using h')
    rwa [show k + 1 + i = k + (i + 1) from by omega] at this
theorem wpIn_region_specS {P : Program} {id : Nat} {Q : Exit → Act → World → Prop} {a0 : Act} {w0 : World} {l : List Oper} (R0 R : World → World → Prop) (Sp : List Nat) (St : Nat → World → Prop) (h0R : ∀ u v, R0 u v → R u v) (h0S : ∀ r u v, St r u → R0 u v → St r v) (hdrew0 : ∀ w : World, R0 w { w with drawn := w.drawn + 1 }) (hrefl0 : ∀ w, R0 w w)
    (htrans : ∀ u v w, R u v → R v w → R u w) (m n : Nat) (hnn : n = l.length) (L : List (Value → World → Prop)) (hst : AllStableR R L) (hsp : specialB l n Sp = true) (hst0 : St 0 w0)
    (hm : P.follows .mixedOrders = true) (hB : specB l.toArray n = true) (hsz : (l.take n).all (fun o => match o.dst with | some d => decide (d < a0.tmps.size) | none => true) = true)
    (hstep : OblI m P Q l (l.take n) R0 R Sp St L a0 w0 (l.take n) 0)
    (hend : ∀ vals w, R w0 w → (∀ i, i < n → lookS L i (vals i) w) → St Sp.length w → Q .normal (fillAll (l.take n) 0 vals a0) w) :
    (Code.region id l.toArray true).wpIn Fence.wide m P Q a0 w0 :=
  wpIn_region_specSD R0 R Sp St h0R h0S hdrew0 hrefl0 htrans (fun w => h0R _ _ (hrefl0 w)) (fun w => h0R _ _ (hdrew0 w)) m n hnn (lookS L) hsp hst0 hm hB hsz (fun i _ v w w' h hb => lookS_stableR L i hst v w w' h hb) (fun i o hi ho a w hc => by
      have := OblI.get (l.take n) 0 hstep i o (by rw [List.getElem?_take_of_lt hi]; exact ho)
      rw [Nat.zero_add] at this
      constructor
      · intro hs
        have hno : Sp.idxOf? i = none := by
          rw [List.idxOf?_eq_none_iff]
          intro hm; have : Sp.contains i = true := by simpa using hm
          rw [hs] at this; cases this
        rw [hno] at this
        exact this a w hc
      · intro r hr hSt
        have hso : Sp.idxOf? i = some r := by
          cases hx : Sp.idxOf? i with
          | none => rw [List.idxOf?_eq_none_iff] at hx; exact absurd (List.mem_of_getElem? hr) hx
          | some r' =>
            have h1 : Sp[r']? = some i := by
              have := List.idxOf?_eq_some_iff.1 hx
              obtain ⟨h1, h2, _⟩ := this
              simp [h1, h2]
            rw [specialB_nodup hsp r' r i h1 hr]
        rw [hso] at this
        exact this a w hc hSt) hend

end Go.Proofs.YtllmgmfihijejaaGreatDoor
/-
  A RANGE OVER A FUNCTION whose rounds all end, and whose function may panic: by a state between the rounds; the function is walked by the caller.
-/
namespace Go.Proofs.YtllmgmfihijejaaGreatDoor
open Go.RowKit

/-- what is no cells, and lies at or beyond B, may be turned, new memory made: it still holds -/
def Stay (B : Nat) (I : World → Prop) : Prop := ∀ W W' row, I W → W.grownBy W' row → (∀ r, row = some r → B ≤ r ∧ ∃ o : Obj, W.heap[r]? = some o ∧ o.isCells = false) → I W'
theorem Stay.putObj {B : Nat} {I : World → Prop} (h : Stay B I) {W : World} {l : Nat} {o : Obj} (o' : Obj) (hs : I W) (hB : B ≤ l) (hl : W.heap[l]? = some o) (ho : o.isCells = false) : I (W.putObj l o') :=
  h W _ (some l) hs (grownBy_putObj' W l o') (fun r e => by cases e; exact ⟨hB, o, hl, ho⟩)
theorem Stay.alloc {B : Nat} {I : World → Prop} (h : Stay B I) {W : World} (o : Obj) (hs : I W) : I (W.alloc o) :=
  h W _ none hs (World.grownBy_alloc W o none) (fun r e => by cases e)

variable {F : Fence} {n : Nat} {P : Program}
/-- how a round's body ends -/
def stateEnd (B : Nat) (Y : World → Prop) (W : World) : Exit → Act → World → Prop
  | .normal, _, W' => KeepsFrom B W W' ∧ Y W'
  | _, _, _ => False

theorem wpIn_rangeFunc_state {σ α : Type} {g : Operand} {ps : Array Tmp} {assign body : Code} {Q : Exit → Act → World → Prop} {a : Act} {w : World}
    (hro : F.round = none) (h1 : 1 ≤ n) {gf : Nat} {lb : Array Value} (hg : a.eval g = .func (.func gf) #[] lb) (hFg : F.fn gf) (eg : ∀ args w, (callFunc gf args).run P w = .ok (.enter gf args) w)
    {encs : α → Array Value} (hps : ∀ x, (encs x).size = ps.size)
    (I0 S : World → Prop) (Pn : List PanicEntry → World → Prop) (Yp Yq : σ → α → World → Prop) (Ya : σ → α → Act → World → Prop)
    (st0 : Stay w.heap.size I0) (stS : Stay w.heap.size S) (stP : ∀ ch, Stay w.heap.size (Pn ch)) (stYq : ∀ s x, Stay w.heap.size (Yq s x)) (stYa : ∀ s x a, Stay w.heap.size (Ya s x a))
    (hiter : ∀ (l : Nat) (B : World → Prop), (∀ W W', KeepsFrom w.heap.size W W' → B W → B W') →
      (∀ s x W1, Yp s x W1 → B W1 → YieldAt F (n - 1 - 1) P l (encs x) W1 fun e W' => e = .returned (.bool true) ∧ Yq s x W' ∧ B W') →
      ∀ W, I0 W → B W → CallsIn F (n - 1) P gf (#[.func (.yield l) #[] #[]] ++ lb) W fun e W' => B W' ∧ ((∃ v, e = .returned v ∧ S W') ∨ ∃ ch, e = .panicked ch ∧ Pn ch W'))
    (h0 : I0 w)
    (hassign : ∀ (l : Nat) (s : σ) (x : α) (W : World), Yp s x W →
      assign.wpIn (F.inRound l) (n - 1 - 1) P (Exit.then (fun a1 W1 => KeepsFrom w.heap.size W W1 ∧ Ya s x a1 W1) (fun _ _ _ => False)) { tmps := (ps.zip (encs x)).foldl (fun t (p, v) => t.setIfInBounds p v) a.tmps, defers := [] } W)
    (hbody : ∀ (l : Nat) (s : σ) (x : α) (a1 : Act) (W : World), Ya s x a1 W → body.wpIn (F.inRound l) (n - 1 - 1) P (stateEnd w.heap.size (Yq s x) W) a1 W)
    (hdone : ∀ (D : Nat) (W : World), w.heap.size ≤ D → S W → W.heap[D]? = some (.deferred (some [])) → Q .normal { a with defers := { target := .collected D, args := #[] } :: a.defers } W)
    (hpan : ∀ (D : Nat) (ch : List PanicEntry) (W : World), w.heap.size ≤ D → Pn ch W → W.heap[D]? = some (.deferred (some [])) → Q (.panic ch) { a with defers := { target := .collected D, args := #[] } :: a.defers } W) :
    (Code.rangeFunc g ps assign body).wpIn F n P Q a w := by
  refine wpIn_rangeFunc ?_
  intro fn hfn
  rw [hro]
  obtain ⟨rec, hrec⟩ : ∃ rec : LoopState → Option Code → Loop, rec = fun st pe => { state := st, pending := pe, fn, tmps := a.tmps, params := ps, assign, body, defers := w.heap.size } := ⟨_, rfl⟩
  obtain ⟨W1, hW1⟩ : ∃ W1, (w.alloc (.deferred (some []))).alloc (.loop (rec .ready none)) = W1 := ⟨_, rfl⟩
  have hL1 : W1.heap[w.heap.size + 1]? = some (.loop (rec .ready none)) := by
    rw [← hW1]; have := World.alloc_heap_new (w.alloc (.deferred (some []))) (.loop (rec .ready none)); rwa [World.size_alloc] at this
  have hK1 : W1.heap[w.heap.size]? = some (.deferred (some [])) := by
    rw [← hW1]; exact (Below.heap_alloc _ _ _ (by simp)).trans (World.alloc_heap_new w _)
  have hI1 : I0 W1 := by rw [← hW1]; exact st0.alloc _ (st0.alloc _ h0)
  refine ⟨w.heap.size + 1, [{ target := .collected w.heap.size, args := #[] }], W1, { target := .fn (.func gf) lb, args := #[.func (.yield (w.heap.size + 1)) #[] #[]] }, W1, gf,
    #[.func (.yield (w.heap.size + 1)) #[] #[]] ++ lb, W1, ?_, ?_, ?_, ?_, fun _ => h1, ?_⟩
  · rw [← hW1, hrec]; exact run_enterLoop_outer _ _ _ _ _
  · simp only [resolve, hg]
    simp [go_sem]
  · intro f' hf'; simp [Target.leads] at hf'; subst hf'; exact hFg
  · simp [invoke, go_sem, eg]
  · refine (hiter (w.heap.size + 1) (fun W => W.heap[w.heap.size + 1]? = some (.loop (rec .ready none)) ∧ W.heap[w.heap.size]? = some (.deferred (some [])))
      (fun W W' hk hB => ⟨hk.same _ _ (by omega) hB.1 rfl, hk.same _ _ (Nat.le_refl _) hB.2 rfl⟩) ?_ W1 hI1 ⟨hL1, hK1⟩).mono ?_
    · rintro s x W hy ⟨hl, hk⟩
      have hlt : w.heap.size + 1 < W.heap.size := (Array.getElem?_eq_some_iff.1 hl).1
      have hyr := run_yield (P := P) (args := encs x) hl (by rw [hrec]; exact hps x)
      rw [hrec] at hyr
      refine ⟨fn, _, assign, body, hyr, roundIn_of_wpIn hfn (wpIn_mono (hassign (w.heap.size + 1) s x W hy) ?_)⟩
      rintro e a1 Wa hp
      cases e with
      | normal =>
        obtain ⟨hka, hya⟩ := hp
        have hla := hka.same _ _ (by omega) hl rfl
        have hda := hka.same _ _ (Nat.le_refl _) hk rfl
        refine ⟨_, run_beginRound hla (by rw [hrec]), ?_⟩
        have hlt2 : w.heap.size + 1 < Wa.heap.size := (Array.getElem?_eq_some_iff.1 hla).1
        have hl2 : (Wa.putObj (w.heap.size + 1) (.loop { rec .ready none with state := .busy })).heap[w.heap.size + 1]? = some (.loop { rec .ready none with state := .busy }) := World.putObj_heap_same hlt2
        have hk2 : (Wa.putObj (w.heap.size + 1) (.loop { rec .ready none with state := .busy })).heap[w.heap.size]? = some (.deferred (some [])) := (World.putObj_heap_other (by omega)).trans hda
        refine wpIn_mono (hbody _ s x a1 _ ((stYa s x a1).putObj _ hya (by omega) hla rfl)) ?_
        rintro e a3 W3 hp
        cases e with
        | normal =>
          obtain ⟨hk3, hq3⟩ := hp
          have hl3 := hk3.same _ _ (by omega) hl2 rfl
          have hd3 := hk3.same _ _ (Nat.le_refl _) hk2 rfl
          have hre := run_endRound (P := P) none hl3
          rw [hrec] at hre
          refine ⟨_, _, hre, rfl, (stYq s x).putObj _ hq3 (by omega) hl3 rfl, ?_, (World.putObj_heap_other (by omega)).trans hd3⟩
          rw [World.putObj_heap_same (Array.getElem?_eq_some_iff.1 hl3).1, hrec]
          rfl
        | ret => exact hp.elim
        | exit id => exact hp.elim
        | goto t => exact hp.elim
        | panic ch => exact hp.elim
        | outgrown => exact hp.elim
      | ret => exact hp.elim
      | exit id => exact hp.elim
      | goto t => exact hp.elim
      | panic ch => exact hp.elim
      | outgrown => exact hp.elim
    · rintro e W2 ⟨⟨hl, hk⟩, (⟨v, rfl, hS⟩ | ⟨ch, rfl, hP⟩)⟩
      · exact ⟨none, _, by have := run_endLoop (P := P) hl (by rw [hrec]; simp); rw [hrec] at this; exact this, hdone _ _ (Nat.le_refl _) (stS.putObj _ hS (by omega) hl rfl) ((World.putObj_heap_other (by omega)).trans hk)⟩
      · exact hpan _ ch _ (Nat.le_refl _) hP hk
end Go.Proofs.YtllmgmfihijejaaGreatDoor
/-
  Within a round of a loop over a function: regions are walked as plain ones.
-/
namespace Go.Proofs.YtllmgmfihijejaaGreatDoor
open Go.RowKit

def noDefer (l : List Oper) : Bool := l.all (fun o => match o.op with | .defer _ => false | _ => true)
theorem wpIn_inRound {k l : Nat} {P : Program} {o : Oper} {a : Act} {w : World} {K : Act → World → Prop} {Q : Exit → Act → World → Prop} (hd : ∀ c, o.op ≠ .defer c) (h : o.wp P a w K Q) : o.wpIn (Fence.wide.inRound l) k P a w K Q := by
  unfold Oper.wp at h
  refine ⟨fun _ _ => trivial, ?_⟩
  rw [show o.semAt (Fence.wide.inRound l).round a.eval = execOp a.eval o from Oper.semAt_some l a.eval o hd]
  generalize (execOp a.eval o).run P w = r at *
  cases r with
  | ok x w' =>
    cases x <;> simp only [Oper.upon, Oper.uponIn] at h ⊢ <;>
      first
        | exact h
        | exact ⟨fun h => by simp [Fence.wide, Fence.inRound] at h, CallsIn.inRound l (callsIn_wide.2 h)⟩
        | exact ⟨fun h => by simp [Fence.wide, Fence.inRound] at h, rowsIn_of_rows (m := k - 1) h⟩
        | exact h.elim
  | halt x w' => cases x <;> simp only [Oper.upon, Oper.uponIn] at h ⊢ <;> first | exact h | exact h.elim
theorem list_inRound {k l : Nat} {P : Program} {ops : Array Oper} {Q : Exit → Act → World → Prop} (hQ : ¬ LetsOut Q) : ∀ (r : List Oper) (a : Act) (w : World), noDefer r = true → wpList P ops Q r a w → wpListIn (Fence.wide.inRound l) k P ops Q r a w
  | [], _, _, _, h => h
  | o :: r, a, w, hc, h => by
    simp only [noDefer, List.all_cons, Bool.and_eq_true] at hc
    have ih := list_inRound (k := k) (l := l) (P := P) (ops := ops) (Q := Q) hQ r
    unfold wpList at h
    unfold wpListIn
    split at h
    · rename_i hw
      rw [if_pos hw]
      exact wpIn_inRound (fun c e => by rw [e] at hc; simp at hc) (Oper.wp_mono (fun a' w' h' => ih a' w' (by simpa [noDefer] using hc.2) h') (h.resolve_right (fun h => hQ h.2)))
    · rename_i hw
      rw [if_neg hw]
      exact ⟨fun _ _ => trivial, ih _ _ (by simpa [noDefer] using hc.2) h⟩
end Go.Proofs.YtllmgmfihijejaaGreatDoor
