/- Texts of this claim, put together by a program of this session (prune.py): CardA. -/
import Derived.Test.YtnblabfkkcohgaaGreatDoorCards
import Derived.Test.YtnblabfkkcohgaaGreatDoorTie
import Derived.Test.YtnblabfkkcohgaaGreatDoorQUCB
import Derived.WalkKit
import Derived.ProofKit
import Derived.OpenShut
import Derived.ShutString
import Derived.SizedLaws
import Derived.ChangeOld
import Derived.Deep.DeepHandedRow
import Derived.Deep.DeepWitnessRowRef
import Derived.Lib.LaidTab
import Derived.Stop.LaidErr
section
/- What the rows of layer 3 list, as the walks want it; a world for their witnesses. -/
namespace Go.Proofs.YtnblabfkkcohgaaGreatDoor.Card
open Go.ChangeShapes Go.WideShapes Go.ChangeAt Go.RowKit
open Go.ChangeMaps (open_string shut_string)
set_option linter.unusedVariables false

theorem own : ownKnob Tryz.prog.godebug = none := by kernel_rfl
theorem laidOut : laidOutB Tryz.prog = true := by kernel_rfl
theorem gTabType : (Tryz.prog.globals[4]?).map (·.type) = some 155 := by kernel_rfl
theorem cellsTab : Tryz.prog.cellsOf 155 = 20 := by kernel_rfl
theorem cellsU64 : Tryz.prog.cellsOf 139 = 1 := by kernel_rfl
theorem gDig : Tryz.prog.globalNamed "mullion/octal.digits" = some 0 := by kernel_rfl
theorem gDigType : (Tryz.prog.globals[0]?).map (·.type) = some 124 := by kernel_rfl
theorem cellsDig : Tryz.prog.cellsOf 124 = 8 := by kernel_rfl
theorem cellsU8 : Tryz.prog.cellsOf 5 = 1 := by kernel_rfl
theorem gSyn : Tryz.prog.globalNamed "strconv.ErrSyntax" = some 2 := by kernel_rfl
theorem gRng : Tryz.prog.globalNamed "strconv.ErrRange" = some 3 := by kernel_rfl
theorem gSynType : (Tryz.prog.globals[2]?).map (·.type) = some 55 := by kernel_rfl
theorem gRngType : (Tryz.prog.globals[3]?).map (·.type) = some 55 := by kernel_rfl
theorem cells153 : Tryz.prog.cellsOf 153 = 1 := by kernel_rfl
theorem cells9 : Tryz.prog.cellsOf 9 = 1 := by kernel_rfl
theorem star : "*" ++ "errors.errorString" = "*errors.errorString" := by decide
theorem row151 (u : TypeId) (h : Tryz.prog.typeName? 3 u = some "*errors.errorString") : u = 151 :=
  typeName_ptr_named (nm := "errors.errorString") (by rw [star]; kernel_rfl) (by kernel_rfl) (by decide) u (by rw [star]; exact h)
theorem maxLenCell {w : World} (h : w.ShapedOpen Tryz.prog) : ∃ m : Int, w.cell? ⟨1, 0, none⟩ = some (.int .i64 m) :=
  Go.Proofs.cell_of_shapedOpen_int (zero := #[.int .i64 0]) (t := 3) h (of_decide_eq_true (by kernel_rfl)) (by kernel_rfl) rfl (by kernel_rfl) (by kernel_rfl) Tryz.underlying3
/-- What a row's list of six gives. -/
theorem laidW {W : World} (h : laidMet Tryz.prog [("math/bits.deBruijn32tab", Rows.laid_math_bits_deBruijn32tab), ("math/bits.deBruijn64tab", Rows.laid_math_bits_deBruijn64tab), ("internal/strconv.uint64pow10", Rows.laid_internal_strconv_uint64pow10), ("strconv.ErrRange", Rows.laid_strconv_ErrRange), ("strconv.ErrSyntax", Rows.laid_strconv_ErrSyntax), ("mullion/octal.digits", Rows.laid_mullion_octal_digits)] W) (hs : W.ShapedOpen Tryz.prog) : Given.LaidW W := by
  have h2 := laidMet.tail (laidMet.tail h)
  have h3 := laidMet.tail h2
  have h4 := laidMet.tail h3
  have h5 := laidMet.tail h4
  obtain ⟨a, s, hv, _⟩ := laid_sentinel h3 gRng gRngType Tryz.underlying55 row151 Tryz.underlying151 Tryz.underlying153 rfl rfl Tryz.underlying9 cells153 cells9
  obtain ⟨a', s', hv', _⟩ := laid_sentinel h4 gSyn gSynType Tryz.underlying55 row151 Tryz.underlying151 Tryz.underlying153 rfl rfl Tryz.underlying9 cells153 cells9
  have hd : Lib.TabIs Tryz.prog W "mullion/octal.digits" .u8 [48, 49, 50, 51, 52, 53, 54, 55] := Lib.tabIs_of_head (rest := []) gDig gDigType Tryz.underlying124 Tryz.underlying5 cellsU8 cellsDig h5
  refine ⟨Lib.tabIs_of_head (rest := _) Given.glob gTabType Tryz.underlying155 Tryz.underlying139 cellsU64 cellsTab h2, ?_, maxLenCell hs, ?_, ?_⟩
  · intro i hi
    have hc := World.var?_cell gDig hd i
    match i, hi, hc with
    | 0, _, hc => exact hc
    | 1, _, hc => exact hc
    | 2, _, hc => exact hc
    | 3, _, hc => exact hc
    | 4, _, hc => exact hc
    | 5, _, hc => exact hc
    | 6, _, hc => exact hc
    | 7, _, hc => exact hc
    | n + 8, h, _ => omega
  · exact ⟨_, by simpa using World.var?_cell gSyn hv' 0, .inr ⟨_, _, rfl⟩⟩
  · exact ⟨_, by simpa using World.var?_cell gRng hv 0, .inr ⟨_, _, rfl⟩⟩
def put (cs : Array Value) : Obj → Obj
  | .cells _ t frozen => .cells cs t frozen
  | o => o
/-- So many blocks has the settled world. -/
noncomputable def low : Nat := (World.holding Tryz.prog default ⟨#[], #[], []⟩).heap.size
/-- A WORLD FOR THE WITNESS: the variables holding what their initialisers lay; two blocks more, the errors. -/
noncomputable def laidWorld (os : Os) : World :=
  let w0 := World.holding Tryz.prog os ⟨#[.cells #[.string { data := #[118, 97, 108, 117, 101, 32, 111, 117, 116, 32, 111, 102, 32, 114, 97, 110, 103, 101] }] 153, .cells #[.string { data := #[105, 110, 118, 97, 108, 105, 100, 32, 115, 121, 110, 116, 97, 120] }] 153], #[], []⟩
  { w0 with heap := ((((((w0.heap.modify 4 (put #[.int .u64 1, .int .u64 10, .int .u64 100, .int .u64 1000, .int .u64 10000, .int .u64 100000, .int .u64 1000000, .int .u64 10000000, .int .u64 100000000, .int .u64 1000000000, .int .u64 10000000000, .int .u64 100000000000, .int .u64 1000000000000, .int .u64 10000000000000, .int .u64 100000000000000, .int .u64 1000000000000000, .int .u64 10000000000000000, .int .u64 100000000000000000, .int .u64 1000000000000000000, .int .u64 10000000000000000000])).modify 5 (put #[.int .u8 0, .int .u8 1, .int .u8 28, .int .u8 2, .int .u8 29, .int .u8 14, .int .u8 24, .int .u8 3, .int .u8 30, .int .u8 22, .int .u8 20, .int .u8 15, .int .u8 25, .int .u8 17, .int .u8 4, .int .u8 8, .int .u8 31, .int .u8 27, .int .u8 13, .int .u8 23, .int .u8 21, .int .u8 19, .int .u8 16, .int .u8 7, .int .u8 26, .int .u8 12, .int .u8 18, .int .u8 6, .int .u8 11, .int .u8 5, .int .u8 10, .int .u8 9])).modify 6 (put #[.int .u8 0, .int .u8 1, .int .u8 56, .int .u8 2, .int .u8 57, .int .u8 49, .int .u8 28, .int .u8 3, .int .u8 61, .int .u8 58, .int .u8 42, .int .u8 50, .int .u8 38, .int .u8 29, .int .u8 17, .int .u8 4, .int .u8 62, .int .u8 47, .int .u8 59, .int .u8 36, .int .u8 45, .int .u8 43, .int .u8 51, .int .u8 22, .int .u8 53, .int .u8 39, .int .u8 33, .int .u8 30, .int .u8 24, .int .u8 18, .int .u8 12, .int .u8 5, .int .u8 63, .int .u8 55, .int .u8 48, .int .u8 27, .int .u8 60, .int .u8 41, .int .u8 37, .int .u8 16, .int .u8 46, .int .u8 35, .int .u8 44, .int .u8 21, .int .u8 52, .int .u8 32, .int .u8 23, .int .u8 11, .int .u8 54, .int .u8 26, .int .u8 40, .int .u8 15, .int .u8 34, .int .u8 20, .int .u8 31, .int .u8 10, .int .u8 25, .int .u8 14, .int .u8 19, .int .u8 9, .int .u8 13, .int .u8 8, .int .u8 7, .int .u8 6])).modify 0 (put #[.int .u8 48, .int .u8 49, .int .u8 50, .int .u8 51, .int .u8 52, .int .u8 53, .int .u8 54, .int .u8 55])).modify 3 (put #[.iface 151 (.pointer (some ⟨low, 0, none⟩))])).modify 2 (put #[.iface 151 (.pointer (some ⟨low + 1, 0, none⟩))])) }
end Go.Proofs.YtnblabfkkcohgaaGreatDoor.Card
end
