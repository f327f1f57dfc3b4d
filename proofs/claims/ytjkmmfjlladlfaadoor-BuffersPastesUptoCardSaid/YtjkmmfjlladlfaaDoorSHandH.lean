/- The buffers, in plain words, fourth part: there are never more than may be. Conditions: the limit lies between 1 and 20. -/
import Derived.Test.YtjkmmfjlladlfaaDoorSHandD
namespace Go.Proofs.YtjkmmfjlladlfaaDoor.Hand
set_option linter.unusedVariables false
set_option linter.unusedSimpArgs false
open Go.RowKit Go.Proofs.YtjkmmfjlladlfaaDoor.PBuf Go.Proofs.YtjkmmfjlladlfaaDoor.Given Go.Proofs.YtjkmmfjlladlfaaDoorW.PrintWords Go.Proofs.YtjkmmfjlladlfaaDoorW.PrintLast

/-- No more than may be. -/
structure Few (l : List S79) (c m : Int) : Prop where
  auto : countN l true ≤ m
  hand : countN l false ≤ 20
  m1 : 1 ≤ m
  m2 : m ≤ 20
  c0 : 0 ≤ c
theorem Few.len {l : List S79} {c m : Int} (h : Few l c m) : l.length ≤ 40 := by
  have := countN_two l
  have := h.auto
  have := h.hand
  have := h.m2
  omega
theorem countN_cons (x : S79) (l : List S79) (b : Bool) : countN (x :: l) b = (if x.f2 == b then 1 else 0) + countN l b := rfl
theorem countN_set (l : List S79) (x : S79) (b : Bool) : ∀ i : Nat, i < l.length → countN (l.set i x) b = countN l b - (if (l.getD i z79).f2 == b then 1 else 0) + (if x.f2 == b then 1 else 0) := by
  induction l with
  | nil => intro i h; simp at h
  | cons y l ih =>
    intro i h
    cases i with
    | zero =>
      simp only [List.set_cons_zero, countN_cons, List.getD_cons_zero]
      omega
    | succ i =>
      have := ih i (by simpa using h)
      simp only [List.set_cons_succ, countN_cons, List.getD_cons_succ]
      omega
theorem rd_getD (l : List S79) (i : Int) (h : 0 ≤ i) : l.getD i.toNat z79 = rd_T79 l i := rfl
theorem few_new : Few [] 0 20 := ⟨by decide, by decide, by decide, by decide, by decide⟩
theorem few_trim {l : List S79} {c m c' : Int} (h : countN l false ≤ 20) (h1 : 1 ≤ m) (h2 : m ≤ 20) (hc : 0 ≤ c') : Few (trimN l m) c' m := by
  obtain ⟨a, b, d⟩ := trimN_counts l m (by omega)
  exact ⟨a, by omega, h1, h2, hc⟩
theorem few_erase {l : List S79} {c m : Int} (h : Few l c m) (i : Nat) (hi : i < l.length) : Few (l.eraseIdx i) c m := by
  have h1 := countN_erase l i hi true
  have h2 := countN_erase l i hi false
  refine ⟨?_, ?_, h.m1, h.m2, h.c0⟩
  · have := h.auto
    rw [h1]
    split <;> omega
  · have := h.hand
    rw [h2]
    split <;> omega
theorem few_set {l : List S79} {c m : Int} (h : Few l c m) (name text : ByteArray) : Few (setN l c m name text).1 (setN l c m name text).2.1 m ∧ (setN l c m name text).2.1 ≤ c + 42 := by
  have hl := h.len
  unfold setN
  by_cases h1 : (text.size : Int) > 65536
  · rw [if_pos h1]
    exact ⟨h, by show c ≤ c + 42; omega⟩
  · rw [if_neg h1]
    by_cases h2 : name.toList = ([] : List UInt8)
    · rw [if_pos h2]
      have hn := nextN_spec l c h.c0
      have hc0 := h.c0
      refine ⟨few_trim (c := c) ?_ h.m1 h.m2 (by show 0 ≤ nextN l c + 1; omega), by show nextN l c + 1 ≤ c + 42; omega⟩
      rw [countN_cons]
      have := h.hand
      simpa using this
    · rw [if_neg h2]
      by_cases h3 : wordN name = true
      · rw [if_pos h3]
        by_cases h4 : 0 ≤ atN l name
        · rw [if_pos h4]
          have hr := atN_range l name
          have hi : (atN l name).toNat < l.length := by omega
          have e1 := countN_erase l _ hi true
          have e2 := countN_erase l _ hi false
          rw [rd_getD l _ h4] at e1 e2
          refine ⟨⟨?_, ?_, h.m1, h.m2, h.c0⟩, by show c ≤ c + 42; omega⟩
          · show countN (_ :: _) true ≤ m
            rw [countN_cons, e1]
            have := h.auto
            show (if (rd_T79 l (atN l name)).f2 == true then 1 else 0) + _ ≤ m
            omega
          · show countN (_ :: _) false ≤ 20
            rw [countN_cons, e2]
            have := h.hand
            show (if (rd_T79 l (atN l name)).f2 == false then 1 else 0) + _ ≤ (20 : Int)
            omega
        · rw [if_neg h4]
          by_cases h5 : 20 ≤ countN l false
          · rw [if_pos h5]
            exact ⟨h, by show c ≤ c + 42; omega⟩
          · rw [if_neg h5]
            refine ⟨⟨?_, ?_, h.m1, h.m2, h.c0⟩, by show c ≤ c + 42; omega⟩
            · show countN (_ :: _) true ≤ m
              rw [countN_cons]
              have := h.auto
              simpa using this
            · show countN (_ :: _) false ≤ 20
              rw [countN_cons]
              simp
              omega
      · rw [if_neg h3]
        exact ⟨h, by show c ≤ c + 42; omega⟩
theorem few_delete {l : List S79} {c m : Int} (h : Few l c m) (name : ByteArray) : Few (deleteN l name).1 c m := by
  unfold deleteN
  by_cases h1 : meantN l name < 0
  · rw [if_pos h1]
    exact h
  · rw [if_neg h1]
    have := meantN_range l name
    exact few_erase h _ (by omega)
theorem few_rename {l : List S79} {c m : Int} (h : Few l c m) (name nu : ByteArray) : Few (renameN l name nu).1 c m := by
  unfold renameN
  have hr := meantN_range l name
  by_cases h1 : meantN l name < 0
  · rw [if_pos h1]
    exact h
  · rw [if_neg h1]
    by_cases h2 : wordN nu = true
    · rw [if_pos h2]
      by_cases h3 : 0 ≤ atN l nu ∧ atN l nu ≠ meantN l name
      · rw [if_pos h3]
        exact h
      · rw [if_neg h3]
        by_cases h4 : (rd_T79 l (meantN l name)).f2 = true ∧ 20 ≤ countN l false
        · rw [if_pos h4]
          exact h
        · rw [if_neg h4]
          have hi : (meantN l name).toNat < l.length := by omega
          have e1 := countN_set l ⟨nu, (rd_T79 l (meantN l name)).f1, false⟩ true _ hi
          have e2 := countN_set l ⟨nu, (rd_T79 l (meantN l name)).f1, false⟩ false _ hi
          rw [rd_getD l _ (by omega)] at e1 e2
          have ha := h.auto
          have hh := h.hand
          refine ⟨?_, ?_, h.m1, h.m2, h.c0⟩
          · show countN (l.set _ _) true ≤ m
            rw [e1]
            simp
            split <;> omega
          · show countN (l.set _ _) false ≤ 20
            rw [e2]
            by_cases h5 : (rd_T79 l (meantN l name)).f2 = true
            · have : ¬ 20 ≤ countN l false := fun q => h4 ⟨h5, q⟩
              simp [h5]
              omega
            · simp [h5]
              omega
    · rw [if_neg h2]
      exact h
theorem few_limit {l : List S79} {c m : Int} (h : Few l c m) (n : Int) : Few (limitN l m n).1 c (limitN l m n).2.1 := by
  unfold limitN
  by_cases h1 : n < 1
  · rw [if_pos h1]
    exact h
  · rw [if_neg h1]
    by_cases h2 : n > 20
    · rw [if_pos h2]
      exact h
    · rw [if_neg h2]
      exact few_trim (c := c) h.hand (by omega) (by omega) h.c0
end Go.Proofs.YtjkmmfjlladlfaaDoor.Hand
