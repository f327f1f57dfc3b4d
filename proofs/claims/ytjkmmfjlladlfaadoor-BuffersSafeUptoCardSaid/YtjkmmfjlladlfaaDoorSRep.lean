/- ReplaceAll as a plain recursion over the bytes: each instance from the left is exchanged, the other bytes stay. Condition: what is sought is not empty. -/
import Derived.Lib.ReplaceLaws
import Derived.Lib.CountLaws
namespace Go.Proofs.YtjkmmfjlladlfaaDoor.Rep
open Go.Lib

def rep (old new : List UInt8) : Nat → List UInt8 → List UInt8
  | 0, s => s
  | _ + 1, [] => []
  | k + 1, b :: l => if old.isPrefixOf (b :: l) = true then new ++ rep old new k ((b :: l).drop old.length) else b :: rep old new k l

theorem replaceK_rep (old new : List UInt8) (ho : old ≠ []) : ∀ (k : Nat) (s : List UInt8), s.length ≤ k → replaceK old new (count s old) s = rep old new k s := by
  intro k
  induction k with
  | zero =>
    intro s hs
    have : s = [] := List.length_eq_zero_iff.1 (by omega)
    subst this
    have hi : index [] old = -1 := by cases old with
      | nil => exact absurd rfl ho
      | cons x y => rfl
    rw [count_miss hi]
    rfl
  | succ k ih =>
    intro s hs
    cases s with
    | nil =>
      have hi : index [] old = -1 := by cases old with
        | nil => exact absurd rfl ho
        | cons x y => rfl
      rw [count_miss hi]
      rfl
    | cons b l =>
      have hol : 0 < old.length := List.length_pos_iff.2 ho
      simp only [List.length_cons] at hs
      by_cases hp : old.isPrefixOf (b :: l) = true
      · have hi : index (b :: l) old = ((0 : Nat) : Int) := by
          unfold index
          rw [if_pos hp]
          rfl
        rw [count_hit ho hi, Nat.add_comm, replaceK_hit _ _ _ _ 0 hi]
        simp only [rep, if_pos hp, List.take_zero, List.nil_append, Nat.zero_add]
        rw [ih _ (by simp only [List.length_drop, List.length_cons]; omega)]
      · simp only [rep, if_neg hp]
        rw [← ih l (by omega)]
        have hstep : index (b :: l) old = if index l old == -1 then -1 else index l old + 1 := by
          rw [index, if_neg hp]
        by_cases hm : index l old = -1
        · have h1 : index (b :: l) old = -1 := by rw [hstep, hm]; rfl
          rw [count_miss h1, count_miss hm]
          rfl
        · have hge := index_ge l old
          obtain ⟨i, hi⟩ : ∃ i : Nat, index l old = i := ⟨(index l old).toNat, by omega⟩
          have h1 : index (b :: l) old = ((i + 1 : Nat) : Int) := by
            rw [hstep, if_neg (by simpa using hm), hi]
            rfl
          rw [count_hit ho h1, count_hit ho hi, Nat.add_comm 1, Nat.add_comm 1, replaceK_hit _ _ _ _ _ h1, replaceK_hit _ _ _ _ _ hi]
          have e : (b :: l).drop (i + 1 + old.length) = l.drop (i + old.length) := by
            rw [show i + 1 + old.length = (i + old.length) + 1 by omega, List.drop_succ_cons]
          rw [e, List.take_succ_cons]
          rfl

theorem replaceAll_rep (s old new : List UInt8) (ho : old ≠ []) (hne : old ≠ new) : replaceAll s old new = rep old new s.length s := by
  unfold replaceAll replace
  rw [if_neg (by simpa using hne)]
  have : replaceNum s old (-1) = count s old := by unfold replaceNum; rw [if_pos (.inl (by decide))]
  rw [this]
  exact replaceK_rep old new ho _ s (Nat.le_refl _)
/-- One byte: each is exchanged. -/
def each (c : UInt8) (new : List UInt8) (s : List UInt8) : List UInt8 := s.flatMap fun b => if b = c then new else [b]
theorem rep_one (c : UInt8) (new : List UInt8) : ∀ (k : Nat) (s : List UInt8), s.length ≤ k → rep [c] new k s = each c new s := by
  intro k
  induction k with
  | zero =>
    intro s hs
    have : s = [] := List.length_eq_zero_iff.1 (by omega)
    subst this
    rfl
  | succ k ih =>
    intro s hs
    cases s with
    | nil => rfl
    | cons b l =>
      simp only [List.length_cons] at hs
      unfold each
      rw [List.flatMap_cons]
      by_cases hb : b = c
      · subst hb
        rw [if_pos rfl]
        simp only [rep]
        rw [if_pos (by simp [List.isPrefixOf])]
        simp only [List.length_cons, List.length_nil, Nat.zero_add, List.drop_succ_cons, List.drop_zero]
        rw [ih l (by omega)]
        rfl
      · rw [if_neg hb]
        simp only [rep]
        rw [if_neg (by simp [List.isPrefixOf]; exact fun h => hb h.symm), ih l (by omega)]
        rfl
theorem replaceAll_one (s new : List UInt8) (c : UInt8) : replaceAll s [c] new = each c new s := by
  by_cases hne : [c] = new
  · subst hne
    unfold replaceAll replace
    rw [if_pos (by simp)]
    unfold each
    induction s with
    | nil => rfl
    | cons b l ih =>
      rw [List.flatMap_cons, ← ih]
      by_cases hb : b = c
      · rw [if_pos hb, hb]; rfl
      · rw [if_neg hb]; rfl
  · rw [replaceAll_rep s [c] new (by simp) hne]
    exact rep_one c new _ s (Nat.le_refl _)
theorem each_length (c : UInt8) (new s : List UInt8) : (each c new s).length = s.length - s.count c + s.count c * new.length ∧ s.count c ≤ s.length := by
  induction s with
  | nil => exact ⟨by simp [each], by simp⟩
  | cons b l ih =>
    obtain ⟨h1, h2⟩ := ih
    rw [show each c new (b :: l) = (if b = c then new else [b]) ++ each c new l from List.flatMap_cons, List.length_append, h1]
    by_cases hb : b = c
    · subst hb
      rw [if_pos rfl, List.count_cons_self]
      simp only [List.length_cons]
      refine ⟨?_, by omega⟩
      rw [Nat.add_mul, Nat.one_mul]
      omega
    · rw [if_neg hb, List.count_cons_of_ne hb]
      exact ⟨by simp only [List.length_cons, List.length_nil]; omega, by simp only [List.length_cons]; omega⟩
end Go.Proofs.YtjkmmfjlladlfaaDoor.Rep
