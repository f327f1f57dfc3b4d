/- What the library answers (strconv.Itoa, strings.IndexByte), in the form in which the printed texts take a contract: Itoa tells the decimal numeral of every int where the table of powers of ten lies as the program's text lays it. -/
import Derived.Test.YtjkmmfjlladlfaaDoorSShelf
import Derived.Lib.AppendIntMem
import Derived.Below
import Derived.Test.YtjkmmfjlladlfaaDoorSWWords
namespace Go.Proofs.YtjkmmfjlladlfaaDoor.Given
open Go Go.Shelf Go.RowKit Go.Proofs.YtjkmmfjlladlfaaDoorW.PrintWords

/-- The library's tables lie as they are laid. -/
structure LaidW (w : World) : Prop where
  out : Lib.TabIs Tryd.prog w "internal/strconv.uint64pow10" .u64 Lib.pow10Tab
  len : ∃ m : Int, w.cell? ⟨0, 0, none⟩ = some (.int .i64 m)

theorem glob : Tryd.prog.globalNamed "internal/strconv.uint64pow10" = some 3 := by kernel_rfl

theorem LaidW.below {w w' : World} (h : LaidW w) (hb : Below w.heap.size w w') : LaidW w' := by
  have h0 := h.out
  refine ⟨?_, ?_⟩
  · unfold Lib.TabIs World.var? at h0 ⊢
    rw [glob] at h0 ⊢
    simp only [Option.bind_some] at h0 ⊢
    have hlt : 3 < w.heap.size := by
      rcases Nat.lt_or_ge 3 w.heap.size with hl | hl
      · exact hl
      · have hn : w.heap[3]? = none := Array.getElem?_eq_none hl
        rw [hn] at h0
        simp at h0
    rw [hb.block 3 hlt]
    exact h0
  · obtain ⟨m, hm⟩ := h.len
    exact ⟨m, pw_cell_below hb hm⟩

def given_Itoa.f (a0 : Int) : Option ByteArray := if -9223372036854775808 ≤ a0 then if a0 ≤ 9223372036854775807 then some ⟨(Lib.itoa a0).toArray⟩ else none else none

theorem given_Itoa.calls (a0 : Int) (r : ByteArray) (w : World) (hL : LaidW w) (h : given_Itoa.f a0 = some r) :
    Calls Tryd.prog 52 #[.int .i64 a0] w fun e w' => e = .returned (.string r) ∧ Below w.heap.size w w' := by
  unfold given_Itoa.f at h
  by_cases h0 : -9223372036854775808 ≤ a0
  · rw [if_pos h0] at h
    by_cases h1 : a0 ≤ 9223372036854775807
    · rw [if_pos h1] at h
      obtain rfl := Option.some.inj h
      refine (Tryd.strconv_Itoa a0 h0 h1 w hL.out).mono ?_
      rintro e w' ⟨rfl, k, os, rfl⟩
      exact ⟨rfl, Lib.below_grow _ w (Nat.le_refl _) k os⟩
    · rw [if_neg h1] at h
      exact absurd h (by simp)
  · rw [if_neg h0] at h
    exact absurd h (by simp)

theorem hdr_inj {x : Option Value} {A A2 : Option Addr} {n c c2 : Nat} (h : x = some (.slice A n c)) (h2 : x = some (.slice A2 n c2)) : A = A2 ∧ c = c2 := by
  rw [h] at h2
  injection h2 with h2
  injection h2 with h3 _ h4
  exact ⟨h3, h4⟩

theorem size_mk (a : Array UInt8) : (⟨a⟩ : ByteArray).size = a.size := rfl

def given_IndexByte.f (a0 : ByteArray) (a1 : Int) : Option Int := some (Lib.indexByte a0.data.toList a1.toNat.toUInt8)
theorem given_IndexByte.calls (a0 : ByteArray) (a1 : Int) (r : Int) (w : World) (h : given_IndexByte.f a0 a1 = some r) :
    Calls Tryd.prog 48 #[.string a0, .int .u8 a1] w fun e w' => e = .returned (.int .i64 r) ∧ Drawn0 w w' := by
  obtain rfl := Option.some.inj h
  refine (Tryd.strings_IndexByte a0 a1 w).mono ?_
  rintro e w' ⟨rfl, rfl⟩
  exact ⟨rfl, Drawn0.refl _⟩

end Go.Proofs.YtjkmmfjlladlfaaDoor.Given

