/- What strconv.Itoa answers, in the form in which the printed texts take a contract: the decimal numeral of every int, where the table of powers of ten lies as the program's text lays it. -/
import Derived.Test.YtednollcioekhaaDoorShelf
import Derived.Lib.AppendIntMem
import Derived.Below
namespace Go.Proofs.YtednollcioekhaaDoor.Given
open Go Go.Shelf Go.RowKit

/-- The table of powers of ten lies as it is laid. -/
structure LaidW (w : World) : Prop where
  out : Lib.TabIs Tryd.prog w "internal/strconv.uint64pow10" .u64 Lib.pow10Tab

theorem glob : Tryd.prog.globalNamed "internal/strconv.uint64pow10" = some 0 := by kernel_rfl

theorem LaidW.below {w w' : World} (h : LaidW w) (hb : Below w.heap.size w w') : LaidW w' := by
  refine ⟨?_⟩
  have h0 := h.out
  unfold Lib.TabIs World.var? at h0 ⊢
  rw [glob] at h0 ⊢
  simp only [Option.bind_some] at h0 ⊢
  have hlt : 0 < w.heap.size := by
    rcases Nat.lt_or_ge 0 w.heap.size with hl | hl
    · exact hl
    · have hn : w.heap[0]? = none := Array.getElem?_eq_none hl
      rw [hn] at h0
      simp at h0
  rw [hb.block 0 hlt]
  exact h0

def given_Itoa.f (a0 : Int) : Option ByteArray := if -9223372036854775808 ≤ a0 then if a0 ≤ 9223372036854775807 then some ⟨(Lib.itoa a0).toArray⟩ else none else none

theorem given_Itoa.calls (a0 : Int) (r : ByteArray) (w : World) (hL : LaidW w) (h : given_Itoa.f a0 = some r) :
    Calls Tryd.prog 10 #[.int .i64 a0] w fun e w' => e = .returned (.string r) ∧ Below w.heap.size w w' := by
  unfold given_Itoa.f at h
  by_cases h0 : -9223372036854775808 ≤ a0
  · rw [if_pos h0] at h
    by_cases h1 : a0 ≤ 9223372036854775807
    · rw [if_pos h1] at h
      obtain rfl := Option.some.inj h
      refine (Tryd.strconv_Itoa a0 h0 h1 w hL.out).mono ?_
      rintro e w' ⟨rfl, k, os, rfl⟩
      exact ⟨rfl, Lib.below_grow _ w (Nat.le_refl _) k os⟩
    · rw [if_neg h1] at h
      exact absurd h (by simp)
  · rw [if_neg h0] at h
    exact absurd h (by simp)

theorem size_mk (a : Array UInt8) : (⟨a⟩ : ByteArray).size = a.size := rfl

end Go.Proofs.YtednollcioekhaaDoor.Given
