/- The buffers, in plain words: what the loops of the program and of the document's answer come to. Conditions: the list has at most 1,000 buffers, numbers are ints. -/
import Derived.Test.YtjkmmfjlladlfaaDoorSPBufx8
import Derived.Test.YtjkmmfjlladlfaaDoorSPBufx7
import Derived.Test.YtjkmmfjlladlfaaDoorSPBufx6
import Derived.Test.YtjkmmfjlladlfaaDoorSPBufx5
import Derived.Test.YtjkmmfjlladlfaaDoorSPBufx4
import Derived.Test.YtjkmmfjlladlfaaDoorSPBufx3
namespace Go.Proofs.YtjkmmfjlladlfaaDoor.Hand
set_option linter.unusedVariables false
set_option linter.unusedSimpArgs false
open Go.RowKit Go.Proofs.YtjkmmfjlladlfaaDoor.PBuf Go.Proofs.YtjkmmfjlladlfaaDoor.Given Go.Proofs.YtjkmmfjlladlfaaDoorW.PrintWords Go.Proofs.YtjkmmfjlladlfaaDoorW.PrintLast

theorem wrap_in {i : Int} (h0 : -9223372036854775808 ≤ i) (h1 : i ≤ 9223372036854775807) : wrap64 i = i := by
  unfold wrap64
  omega

/-- The first place from i on at which it is so; -1: none. -/
def fromN {α : Type} (p : α → Bool) : List α → Int → Int
  | [], _ => -1
  | x :: l, i => if p x then i else fromN p l (i + 1)
/-- How many are so. -/
def cntN {α : Type} (p : α → Bool) : List α → Int
  | [] => 0
  | x :: l => (if p x then 1 else 0) + cntN p l
theorem cntN_range {α : Type} (p : α → Bool) (l : List α) : 0 ≤ cntN p l ∧ cntN p l ≤ l.length := by
  induction l with
  | nil => exact ⟨Int.le_refl _, by simp [cntN]⟩
  | cons x l ih =>
    simp only [cntN, List.length_cons]
    split <;> omega
theorem fromN_range {α : Type} (p : α → Bool) (l : List α) (i : Int) (hi : 0 ≤ i) : fromN p l i = -1 ∨ (i ≤ fromN p l i ∧ fromN p l i < i + l.length) := by
  induction l generalizing i with
  | nil => exact .inl rfl
  | cons x l ih =>
    simp only [fromN]
    split
    · right
      simp only [List.length_cons]
      omega
    · rcases ih (i + 1) (by omega) with h | h
      · exact .inl h
      · right
        simp only [List.length_cons]
        omega

/-- A buffer as the document has it. -/
def tr (x : S68) : S79 := ⟨x.f0.f0, x.f0.f1, x.f1⟩
def isN (name : ByteArray) (x : S79) : Bool := decide (x.f0.toList = name.toList)
def atN (l : List S79) (name : ByteArray) : Int := fromN (isN name) l 0
def countN (l : List S79) (b : Bool) : Int := cntN (fun x => x.f2 == b) l
def meantN (l : List S79) (name : ByteArray) : Int := if name.toList = ([] : List UInt8) then (if fromN (fun x => x.f2) l 0 = -1 then mn 0 ((l.length : Int) - 1) else fromN (fun x => x.f2) l 0) else atN l name

theorem rd68_at (pre l : List S68) (x : S68) : rd_T68 (pre ++ x :: l) (pre.length : Int) = x := by simp [rd_T68]
theorem rd79_at (pre l : List S79) (x : S79) : rd_T79 (pre ++ x :: l) (pre.length : Int) = x := by simp [rd_T79]

theorem at68_loop (name : ByteArray) (c m : Int) (l : List S68) (hl : l.length ≤ 1000) : ∀ (l2 pre : List S68), l = pre ++ l2 →
    Ev (fun k => buffers_Buffers_at.l0 k name l (l.length : Int) (pre.length : Int) l c m) (fromN (isN name) (l2.map tr) pre.length, c, m) := by
  intro l2
  induction l2 with
  | nil =>
    intro pre h
    refine Ev.step (f := fun _ => some (-1, c, m)) (fun k => ?_) (Ev.now _)
    simp only [buffers_Buffers_at.l0]
    rw [if_neg (by rw [h]; simp)]
  | cons x l2 ih =>
    intro pre h
    have hlen : (pre.length : Int) < l.length := by rw [h]; simp; omega
    have hrd : rd_T68 l (pre.length : Int) = x := by rw [h]; exact rd68_at pre l2 x
    by_cases hx : x.f0.f0.toList = name.toList
    · refine Ev.step (f := fun _ => some ((pre.length : Int), c, m)) (fun k => ?_) ?_
      · simp only [buffers_Buffers_at.l0]
        rw [if_pos hlen, if_pos (by omega), if_pos hlen, hrd, if_pos hx]
      · have e : fromN (isN name) ((x :: l2).map tr) pre.length = pre.length := by simp [fromN, isN, tr, hx]
        rw [e]
        exact Ev.now _
    · refine Ev.step (f := fun k => buffers_Buffers_at.l0 k name l (l.length : Int) (((pre ++ [x]).length : Nat) : Int) l c m) (fun k => ?_) ?_
      · simp only [buffers_Buffers_at.l0]
        rw [if_pos hlen, if_pos (by omega), if_pos hlen, hrd, if_neg hx, wrap_in (by omega) (by omega)]
        simp
      · have e : fromN (isN name) ((x :: l2).map tr) pre.length = fromN (isN name) (l2.map tr) (((pre ++ [x]).length : Nat) : Int) := by simp [fromN, isN, tr, hx]
        rw [e]
        exact ih (pre ++ [x]) (by rw [h]; simp)
theorem at68_ev (name : ByteArray) (c m : Int) (l : List S68) (hl : l.length ≤ 1000) : Ev (fun k => buffers_Buffers_at.f k l c m name) (atN (l.map tr) name, c, m) :=
  at68_loop name c m l hl l [] rfl

theorem at79_loop (name : ByteArray) (c m : Int) (l : List S79) (hl : l.length ≤ 1000) : ∀ (l2 pre : List S79), l = pre ++ l2 →
    Ev (fun k => mullionref24_at.l0 k name (pre.length : Int) l c m) (fromN (isN name) l2 pre.length) := by
  intro l2
  induction l2 with
  | nil =>
    intro pre h
    refine Ev.step (f := fun _ => some (-1)) (fun k => ?_) (Ev.now _)
    simp only [mullionref24_at.l0]
    rw [if_neg (by rw [h]; simp)]
  | cons x l2 ih =>
    intro pre h
    have hlen : (pre.length : Int) < l.length := by rw [h]; simp; omega
    have hrd : rd_T79 l (pre.length : Int) = x := by rw [h]; exact rd79_at pre l2 x
    by_cases hx : x.f0.toList = name.toList
    · refine Ev.step (f := fun _ => some ((pre.length : Int))) (fun k => ?_) ?_
      · simp only [mullionref24_at.l0]
        rw [if_pos hlen, if_pos (by omega), hrd, if_pos hx]
      · have e : fromN (isN name) (x :: l2) pre.length = pre.length := by simp [fromN, isN, hx]
        rw [e]
        exact Ev.now _
    · refine Ev.step (f := fun k => mullionref24_at.l0 k name (((pre ++ [x]).length : Nat) : Int) l c m) (fun k => ?_) ?_
      · simp only [mullionref24_at.l0]
        rw [if_pos hlen, if_pos (by omega), hrd, if_neg hx, wrap_in (by omega) (by omega)]
        simp
      · have e : fromN (isN name) (x :: l2) pre.length = fromN (isN name) l2 (((pre ++ [x]).length : Nat) : Int) := by simp [fromN, isN, hx]
        rw [e]
        exact ih (pre ++ [x]) (by rw [h]; simp)
theorem at79_ev (name : ByteArray) (c m : Int) (l : List S79) (hl : l.length ≤ 1000) : Ev (fun k => mullionref24_at.f k l c m name) (atN l name) :=
  at79_loop name c m l hl l [] rfl

theorem count68_loop (b : Bool) (c m : Int) (l : List S68) (hl : l.length ≤ 1000) : ∀ (l2 pre : List S68) (a : Int), l = pre ++ l2 → 0 ≤ a → a ≤ pre.length →
    Ev (fun k => buffers_Buffers_count.l0 k b a l (l.length : Int) (pre.length : Int) l c m) (a + countN (l2.map tr) b, c, m) := by
  intro l2
  induction l2 with
  | nil =>
    intro pre a h h0 h1
    refine Ev.step (f := fun _ => some (a + countN [] b, c, m)) (fun k => ?_) (Ev.now _)
    simp only [buffers_Buffers_count.l0]
    rw [if_neg (by rw [h]; simp)]
    simp [countN, cntN]
  | cons x l2 ih =>
    intro pre a h h0 h1
    have hlen : (pre.length : Int) < l.length := by rw [h]; simp; omega
    have hrd : rd_T68 l (pre.length : Int) = x := by rw [h]; exact rd68_at pre l2 x
    by_cases hx : (x.f1 == b) = true
    · refine Ev.step (f := fun k => buffers_Buffers_count.l0 k b (a + 1) l (l.length : Int) (((pre ++ [x]).length : Nat) : Int) l c m) (fun k => ?_) ?_
      · simp only [buffers_Buffers_count.l0]
        rw [if_pos hlen, if_pos (by omega), if_pos hlen, hrd, if_pos hx, wrap_in (by omega) (by omega), wrap_in (by omega) (by omega)]
        simp
      · have e : a + countN ((x :: l2).map tr) b = (a + 1) + countN (l2.map tr) b := by
          simp only [List.map_cons, countN, cntN, tr, hx, if_true]
          omega
        rw [e]
        exact ih (pre ++ [x]) (a + 1) (by rw [h]; simp) (by omega) (by simp; omega)
    · refine Ev.step (f := fun k => buffers_Buffers_count.l0 k b a l (l.length : Int) (((pre ++ [x]).length : Nat) : Int) l c m) (fun k => ?_) ?_
      · simp only [buffers_Buffers_count.l0]
        rw [if_pos hlen, if_pos (by omega), if_pos hlen, hrd, if_neg hx, wrap_in (by omega) (by omega)]
        simp
      · have e : a + countN ((x :: l2).map tr) b = a + countN (l2.map tr) b := by
          simp only [List.map_cons, countN, cntN, tr, if_neg hx]
          omega
        rw [e]
        exact ih (pre ++ [x]) a (by rw [h]; simp) (by omega) (by simp; omega)
theorem count68_ev (b : Bool) (c m : Int) (l : List S68) (hl : l.length ≤ 1000) : Ev (fun k => buffers_Buffers_count.f k l c m b) (countN (l.map tr) b, c, m) := by
  have := count68_loop b c m l hl l [] 0 rfl (by omega) (by simp)
  rw [Int.zero_add] at this
  exact this
theorem count79_loop (b : Bool) (c m : Int) (l : List S79) (hl : l.length ≤ 1000) : ∀ (l2 pre : List S79) (a : Int), l = pre ++ l2 → 0 ≤ a → a ≤ pre.length →
    Ev (fun k => mullionref24_count.l0 k b a (pre.length : Int) l c m) (a + countN l2 b) := by
  intro l2
  induction l2 with
  | nil =>
    intro pre a h h0 h1
    refine Ev.step (f := fun _ => some (a + countN [] b)) (fun k => ?_) (Ev.now _)
    simp only [mullionref24_count.l0]
    rw [if_neg (by rw [h]; simp)]
    simp [countN, cntN]
  | cons x l2 ih =>
    intro pre a h h0 h1
    have hlen : (pre.length : Int) < l.length := by rw [h]; simp; omega
    have hrd : rd_T79 l (pre.length : Int) = x := by rw [h]; exact rd79_at pre l2 x
    by_cases hx : (x.f2 == b) = true
    · refine Ev.step (f := fun k => mullionref24_count.l0 k b (a + 1) (((pre ++ [x]).length : Nat) : Int) l c m) (fun k => ?_) ?_
      · simp only [mullionref24_count.l0]
        rw [if_pos hlen, if_pos (by omega), hrd, if_pos hx, wrap_in (by omega) (by omega), wrap_in (by omega) (by omega)]
        simp
      · have e : a + countN (x :: l2) b = (a + 1) + countN l2 b := by
          simp only [countN, cntN, hx, if_true]
          omega
        rw [e]
        exact ih (pre ++ [x]) (a + 1) (by rw [h]; simp) (by omega) (by simp; omega)
    · refine Ev.step (f := fun k => mullionref24_count.l0 k b a (((pre ++ [x]).length : Nat) : Int) l c m) (fun k => ?_) ?_
      · simp only [mullionref24_count.l0]
        rw [if_pos hlen, if_pos (by omega), hrd, if_neg hx, wrap_in (by omega) (by omega)]
        simp
      · have e : a + countN (x :: l2) b = a + countN l2 b := by
          simp only [countN, cntN, if_neg hx]
          omega
        rw [e]
        exact ih (pre ++ [x]) a (by rw [h]; simp) (by omega) (by simp; omega)
theorem count79_ev (b : Bool) (c m : Int) (l : List S79) (hl : l.length ≤ 1000) : Ev (fun k => mullionref24_count.f k l c m b) (countN l b) := by
  have := count79_loop b c m l hl l [] 0 rfl (by omega) (by simp)
  rw [Int.zero_add] at this
  exact this

end Go.Proofs.YtjkmmfjlladlfaaDoor.Hand
