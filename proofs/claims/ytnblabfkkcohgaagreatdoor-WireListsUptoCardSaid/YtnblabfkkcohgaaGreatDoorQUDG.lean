/- Texts of this claim, put together by a program of this session (prune.py): PlainE. -/
import Derived.Test.YtnblabfkkcohgaaGreatDoorQUDB
section
/- The plain laws of texts: a list's text is read back as the list; a text cut anywhere is read in two pieces as in one. -/
namespace Go.Proofs.YtnblabfkkcohgaaGreatDoor.Wire
set_option linter.unusedVariables false
set_option linter.unusedSimpArgs false
open Go Go.Shelf Go.RowKit

theorem escB_ge (x y : UInt8) (h : y ∈ escB x) : 32 ≤ y.toNat := by
  unfold escB at h
  have hx : x.toNat < 256 := x.toNat_lt
  split at h
  · simp only [List.mem_cons, List.not_mem_nil, or_false] at h
    rcases h with rfl | rfl | rfl | rfl
    · decide
    · simp only [UInt8.toNat_ofNat']; omega
    · simp only [UInt8.toNat_ofNat']; omega
    · simp only [UInt8.toNat_ofNat']; omega
  · rename_i hm
    simp only [List.mem_cons, List.not_mem_nil, or_false] at h
    subst h
    unfold mustN at hm
    simp at hm
    omega
theorem escL_ge {l : List UInt8} {y : UInt8} (h : y ∈ escL l) : 32 ≤ y.toNat := by
  obtain ⟨x, _, hy⟩ := List.mem_flatMap.1 h
  exact escB_ge x y hy
theorem escL_nl (l : List UInt8) : (10 : UInt8) ∉ escL l := fun h => by
  have := escL_ge h
  revert this
  decide
theorem escBody_nl (l : List UInt8) : (10 : UInt8) ∉ escBodyN l := by
  unfold escBodyN
  split
  · simp only [List.mem_append, not_or]
    exact ⟨by decide, escL_nl _⟩
  · exact escL_nl _
def Fd.clean : Fd → Bool
  | .id m _ => decide (m ≠ 10)
  | _ => true
theorem rows_clean (n : Nat) : ∀ f ∈ fdsOf n, f.clean = true := by
  have h : (fdsOf n).all Fd.clean = true := by
    unfold fdsOf
    split <;> decide
  exact List.all_eq_true.1 h
theorem dec_nl (n : Nat) : (10 : UInt8) ∉ Lib.decDigits n := fun h => by
  have := dec_mem _ _ h
  revert this
  decide
theorem put_nl {fd : Fd} (hf : fd.clean = true) {e : Evt} (h : (fd.put e).2 = true) : (10 : UInt8) ∉ (fd.put e).1.data.toList := by
  cases fd with
  | num p m => simp only [Fd.put, ofL_data]; unfold putNumN; split; exact dec_nl _; simp
  | id m p =>
    simp only [Fd.put, ofL_data]
    unfold putIdN
    split
    · simp only [List.mem_cons, not_or]
      exact ⟨fun e => by simp [Fd.clean] at hf; exact hf e.symm, dec_nl _⟩
    · simp
  | name b =>
    have hn : nameN e.name.data.toList = true := by
      simp only [Fd.put] at h
      cases b with
      | true => exact h
      | false =>
        have h2 : wordN e.name.data.toList = true := h
        unfold wordN at h2
        simp only [Bool.and_eq_true] at h2
        exact h2.1
    intro hm
    unfold nameN at hn
    simp only [Bool.and_eq_true, List.all_eq_true] at hn
    have := hn.1.2 _ hm
    revert this
    decide
  | text a b => simp only [Fd.put, ofL_data]; exact escL_nl _
  | plan v =>
    have key : ∀ l : List UInt8, planN l = true → (10 : UInt8) ∉ l := by
      intro l hl hm
      unfold planN at hl
      simp only [Bool.and_eq_true, List.all_eq_true] at hl
      have := hl.1 _ hm
      revert this
      decide
    cases v <;> (simp only [Fd.put, Bool.and_eq_true] at h; simp only [Fd.put]; exact key _ h.2)
  | zoom => simp only [Fd.put, ofL_data]; split <;> decide
  | colon => simp only [Fd.put, ofL_data]; decide
theorem puts_nl : ∀ {fds : List Fd} {e t t' : Evt} {acc s : List UInt8}, putsN fds e acc t = some (s, t') → (∀ f ∈ fds, f.clean = true) → (10 : UInt8) ∉ acc → (10 : UInt8) ∉ s := by
  intro fds
  induction fds with
  | nil => intro e t t' acc s h _ ha; simp only [putsN, Option.some.injEq, Prod.mk.injEq] at h; rw [← h.1]; exact ha
  | cons f fs ih =>
    intro e t t' acc s h hc ha
    unfold putsN at h
    split at h
    · rename_i hok
      refine ih h (fun g hg => hc g (List.mem_cons_of_mem _ hg)) ?_
      simp only [List.mem_append, not_or]
      exact ⟨⟨ha, by decide⟩, put_nl (hc f (by simp)) hok⟩
    · cases h
theorem kw_nl (k : Int) : (10 : UInt8) ∉ (kwN k).data.toList := by
  by_cases h : Kinds k
  · rcases h with rfl | rfl | rfl | rfl | rfl | rfl | rfl | rfl | rfl | rfl | rfl | rfl | rfl | rfl | rfl | rfl | rfl | rfl | rfl | rfl | rfl | rfl | rfl
    all_goals decide +kernel
  · rw [kw_kinds h]
    simp
/-- No line has a line's end in it. -/
theorem enc_nl (e : Evt) : (10 : UInt8) ∉ (encN e).1.data.toList := by
  unfold encN
  split
  · split
    · rw [ofL_data]; exact escBody_nl _
    · simp
  · split
    · exact kw_nl 24
    · split
      · simp
      · cases hp : putsN (fdsOf e.kind.toNat) e (kwN e.kind).data.toList (bareEv e.kind) with
        | none => simp
        | some st =>
          obtain ⟨s, t⟩ := st
          simp only
          split
          · rw [ofL_data]; exact puts_nl hp (rows_clean _) (kw_nl _)
          · simp
/-- The events of a text, and what has not ended. -/
def evF : Nat → List UInt8 → List Evt × List UInt8
  | 0, l => ([], l)
  | n + 1, l => if (cutN 10 l).2.2 = true then (decN (ofL (cutN 10 l).1) :: (evF n (cutN 10 l).2.1).1, (evF n (cutN 10 l).2.1).2) else ([], l)
def evsN (l : List UInt8) : List Evt × List UInt8 := evF l.length l
theorem evF_succ (n : Nat) (l : List UInt8) : evF (n + 1) l = if (cutN 10 l).2.2 = true then (decN (ofL (cutN 10 l).1) :: (evF n (cutN 10 l).2.1).1, (evF n (cutN 10 l).2.1).2) else ([], l) := rfl
theorem cut_lt {c : UInt8} {l : List UInt8} (h : (cutN c l).2.2 = true) : (cutN c l).2.1.length < l.length := by
  have e := congrArg List.length (cutN_found h)
  rw [List.length_append, List.length_cons] at e
  omega
theorem evF_more : ∀ (n m : Nat) (l : List UInt8), l.length ≤ n → l.length ≤ m → evF n l = evF m l := by
  intro n
  induction n with
  | zero =>
    intro m l hn hm
    obtain rfl : l = [] := List.length_eq_zero_iff.1 (by omega)
    cases m with
    | zero => rfl
    | succ m => rfl
  | succ n ih =>
    intro m l hn hm
    cases m with
    | zero =>
      obtain rfl : l = [] := List.length_eq_zero_iff.1 (by omega)
      rfl
    | succ m =>
      unfold evF
      by_cases h : (cutN 10 l).2.2 = true
      · have hl := cut_lt h
        rw [if_pos h, if_pos h, ih m _ (by omega) (by omega)]
      · rw [if_neg h, if_neg h]
theorem evs_cons {a r : List UInt8} (h : (10 : UInt8) ∉ a) : evsN (a ++ 10 :: r) = (decN (ofL a) :: (evsN r).1, (evsN r).2) := by
  unfold evsN
  rw [show (a ++ 10 :: r).length = (a.length + r.length) + 1 by simp; omega]
  rw [evF_succ, cutN_app h]
  simp only [if_pos]
  rw [evF_more (a.length + r.length) r.length r (by omega) (Nat.le_refl _)]
theorem evs_end {a : List UInt8} (h : (10 : UInt8) ∉ a) : evsN a = ([], a) := by
  unfold evsN
  cases hn : a.length with
  | zero => rfl
  | succ n =>
    unfold evF
    rw [cutN_all h]
    rfl
theorem cut_split (c : UInt8) (l : List UInt8) : c ∉ l ∨ ∃ a r, l = a ++ c :: r ∧ c ∉ a := by
  cases h : (cutN c l).2.2 with
  | true => exact .inr ⟨_, _, cutN_found h, cutN_none⟩
  | false =>
    have e := (cutN_not h).1
    have := cutN_none (c := c) (l := l)
    rw [e] at this
    exact .inl this
/-- A text is read in two pieces as in one. -/
theorem evs_app : ∀ (n : Nat) (p q : List UInt8), p.length ≤ n → evsN (p ++ q) = ((evsN p).1 ++ (evsN ((evsN p).2 ++ q)).1, (evsN ((evsN p).2 ++ q)).2) := by
  intro n
  induction n with
  | zero =>
    intro p q hp
    obtain rfl : p = [] := List.length_eq_zero_iff.1 (by omega)
    rfl
  | succ n ih =>
    intro p q hp
    rcases cut_split 10 p with h | ⟨a, r, rfl, ha⟩
    · rw [evs_end h]
      rfl
    · simp only [List.length_append, List.length_cons] at hp
      rw [List.append_assoc, List.cons_append, evs_cons ha, evs_cons ha, ih r q (by omega)]
      rfl
theorem evs_len : ∀ (n : Nat) (l : List UInt8), l.length ≤ n → (evsN l).1.length ≤ l.length ∧ (evsN l).2.length ≤ l.length := by
  intro n
  induction n with
  | zero =>
    intro l hl
    obtain rfl : l = [] := List.length_eq_zero_iff.1 (by omega)
    exact ⟨Nat.le_refl _, Nat.le_refl _⟩
  | succ n ih =>
    intro l hl
    rcases cut_split 10 l with h | ⟨a, r, rfl, ha⟩
    · rw [evs_end h]
      simp
    · simp only [List.length_append, List.length_cons] at hl ⊢
      rw [evs_cons ha]
      have := ih r (by omega)
      simp only [List.length_cons]
      omega
/-- The lines of events, each ended. -/
def linesL (l : List Evt) : List UInt8 := l.flatMap fun e => (encN e).1.data.toList ++ [10]
theorem lines_cons (e : Evt) (l : List Evt) : linesL (e :: l) = (encN e).1.data.toList ++ 10 :: linesL l := by
  unfold linesL
  rw [List.flatMap_cons]
  simp
theorem text_ok : ∀ {l : List Evt} {acc : List UInt8}, (∀ e ∈ l, (encN e).2 = 0) → textN l acc = (ofL (acc ++ linesL l), 0) := by
  intro l
  induction l with
  | nil => intro acc _; simp [textN, linesL]
  | cons e l ih =>
    intro acc h
    unfold textN
    rw [if_pos (h e (by simp)), ih (fun x hx => h x (List.mem_cons_of_mem _ hx)), lines_cons]
    simp
theorem text_bad : ∀ {l : List Evt} {acc : List UInt8}, (textN l acc).2 ≠ 0 → ∃ i : Nat, ∃ e, l[i]? = some e ∧ (encN e).2 ≠ 0 := by
  intro l
  induction l with
  | nil => intro acc h; exact absurd rfl h
  | cons e l ih =>
    intro acc h
    unfold textN at h
    split at h
    · obtain ⟨i, x, hi, hx⟩ := ih h
      exact ⟨i + 1, x, hi, hx⟩
    · rename_i he
      exact ⟨0, e, rfl, he⟩
theorem text_all : ∀ {l : List Evt} {acc : List UInt8}, (textN l acc).2 = 0 → ∀ e ∈ l, (encN e).2 = 0 := by
  intro l
  induction l with
  | nil => intro acc _ e he; simp at he
  | cons x l ih =>
    intro acc h e he
    unfold textN at h
    split at h
    · rename_i hx
      rcases List.mem_cons.1 he with rfl | he
      · exact hx
      · exact ih h e he
    · rename_i hx
      exact absurd h hx
/-- A list's text is read back as the list. -/
theorem evs_lines : ∀ {l : List Evt}, (∀ e ∈ l, (encN e).2 = 0) → ∀ r, evsN (linesL l ++ r) = (l ++ (evsN r).1, (evsN r).2) := by
  intro l
  induction l with
  | nil => intro _ r; rfl
  | cons e l ih =>
    intro h r
    rw [lines_cons, List.append_assoc, List.cons_append, evs_cons (enc_nl e), ih (fun x hx => h x (List.mem_cons_of_mem _ hx))]
    rw [show ofL (encN e).1.data.toList = (encN e).1 from ofL_list _, dec_enc (h e (by simp))]
    rfl
theorem evs_text {l : List Evt} (h : (textN l []).2 = 0) : evsN (textN l []).1.data.toList = (l, []) := by
  have ha := text_all h
  rw [text_ok ha, ofL_data]
  have := evs_lines ha []
  rw [List.append_nil] at this
  rw [List.nil_append, this]
  simp [evsN, evF]
/-- Without its last byte the last event is left. -/
theorem evs_less {l : List Evt} {e : Evt} (h : (textN (l ++ [e]) []).2 = 0) : (textN (l ++ [e]) []).1.data.toList.dropLast = linesL l ++ (encN e).1.data.toList ∧ evsN (linesL l ++ (encN e).1.data.toList) = (l, (encN e).1.data.toList) := by
  have ha := text_all h
  constructor
  · rw [text_ok ha, ofL_data]
    have : linesL (l ++ [e]) = (linesL l ++ (encN e).1.data.toList) ++ [10] := by
      unfold linesL
      rw [List.flatMap_append]
      simp
    rw [List.nil_append, this, List.dropLast_concat]
  · rw [evs_lines (fun x hx => ha x (by simp [hx])), evs_end (enc_nl e)]
    simp
end Go.Proofs.YtnblabfkkcohgaaGreatDoor.Wire
end
