/- The buffers, in plain words, second part: what Get, List, Delete, Limit and the document's Set come to, over lists of buffers as the document has them. Conditions: the list has at most 1,000 buffers, numbers are ints. -/
import Derived.Test.YtjkmmfjlladlfaaDoorSHandB
import Derived.Lib.ItoaMem
import Derived.Lib.IndexLaws
namespace Go.Proofs.YtjkmmfjlladlfaaDoor.Hand
set_option linter.unusedVariables false
set_option linter.unusedSimpArgs false
open Go.RowKit Go.Proofs.YtjkmmfjlladlfaaDoor.PBuf Go.Proofs.YtjkmmfjlladlfaaDoor.Given Go.Proofs.YtjkmmfjlladlfaaDoorW.PrintWords Go.Proofs.YtjkmmfjlladlfaaDoorW.PrintLast

theorem toList_inj {a b : ByteArray} (h : a.toList = b.toList) : a = b := by
  rw [ByteArray.toList_eq, ByteArray.toList_eq] at h
  cases a; cases b
  congr
  exact Array.toList_inj.1 h

/-! ### what a name means -/
def autoN (x : S79) : Bool := x.f2
theorem of68_loop (c m : Int) (l : List S68) (hl : l.length ≤ 1000) : ∀ (l2 pre : List S68), l = pre ++ l2 →
    Ev (fun k => buffers_Buffers_of.l0 k l (l.length : Int) (pre.length : Int) l c m) (if fromN autoN (l2.map tr) pre.length = -1 then mn 0 ((l.length : Int) - 1) else fromN autoN (l2.map tr) pre.length, c, m) := by
  intro l2
  induction l2 with
  | nil =>
    intro pre h
    refine Ev.step (f := fun _ => some (mn 0 ((l.length : Int) - 1), c, m)) (fun k => ?_) ?_
    · simp only [buffers_Buffers_of.l0]
      rw [if_neg (by rw [h]; simp), wrap_in (by omega) (by omega)]
    · exact Ev.now _
  | cons x l2 ih =>
    intro pre h
    have hlen : (pre.length : Int) < l.length := by rw [h]; simp; omega
    have hrd : rd_T68 l (pre.length : Int) = x := by rw [h]; exact rd68_at pre l2 x
    by_cases hx : x.f1 = true
    · refine Ev.step (f := fun _ => some ((pre.length : Int), c, m)) (fun k => ?_) ?_
      · simp only [buffers_Buffers_of.l0]
        rw [if_pos hlen, if_pos (by omega), if_pos hlen, hrd, if_pos hx]
      · have e : fromN autoN ((x :: l2).map tr) pre.length = pre.length := by simp [fromN, autoN, tr, hx]
        rw [e, if_neg (by omega)]
        exact Ev.now _
    · refine Ev.step (f := fun k => buffers_Buffers_of.l0 k l (l.length : Int) (((pre ++ [x]).length : Nat) : Int) l c m) (fun k => ?_) ?_
      · simp only [buffers_Buffers_of.l0]
        rw [if_pos hlen, if_pos (by omega), if_pos hlen, hrd, if_neg hx, wrap_in (by omega) (by omega)]
        simp
      · have e : fromN autoN ((x :: l2).map tr) pre.length = fromN autoN (l2.map tr) (((pre ++ [x]).length : Nat) : Int) := by simp [fromN, autoN, tr, hx]
        rw [e]
        exact ih (pre ++ [x]) (by rw [h]; simp)
theorem of68_ev (name : ByteArray) (c m : Int) (l : List S68) (hl : l.length ≤ 1000) : Ev (fun k => buffers_Buffers_of.f k l c m name) (meantN (l.map tr) name, c, m) := by
  unfold buffers_Buffers_of.f meantN
  by_cases h : name.toList = ([] : List UInt8)
  · refine Ev.congr (fun k => if_pos h) ?_
    rw [if_pos h, List.length_map]
    exact of68_loop c m l hl l [] rfl
  · refine Ev.congr (fun k => if_neg h) ?_
    rw [if_neg h]
    exact Ev.bind (at68_ev name c m l hl) (Ev.now _)

theorem meant79_loop (c m : Int) (l : List S79) (hl : l.length ≤ 1000) : ∀ (l2 pre : List S79), l = pre ++ l2 →
    Ev (fun k => mullionref24_meant.l0 k (pre.length : Int) l c m) (if fromN autoN l2 pre.length = -1 then mn 0 ((l.length : Int) - 1) else fromN autoN l2 pre.length) := by
  intro l2
  induction l2 with
  | nil =>
    intro pre h
    refine Ev.step (f := fun _ => some (mn 0 ((l.length : Int) - 1))) (fun k => ?_) ?_
    · simp only [mullionref24_meant.l0]
      rw [if_neg (by rw [h]; simp), wrap_in (by omega) (by omega)]
    · exact Ev.now _
  | cons x l2 ih =>
    intro pre h
    have hlen : (pre.length : Int) < l.length := by rw [h]; simp; omega
    have hrd : rd_T79 l (pre.length : Int) = x := by rw [h]; exact rd79_at pre l2 x
    by_cases hx : x.f2 = true
    · refine Ev.step (f := fun _ => some ((pre.length : Int))) (fun k => ?_) ?_
      · simp only [mullionref24_meant.l0]
        rw [if_pos hlen, if_pos (by omega), hrd, if_pos hx]
      · have e : fromN autoN (x :: l2) pre.length = pre.length := by simp [fromN, autoN, hx]
        rw [e, if_neg (by omega)]
        exact Ev.now _
    · refine Ev.step (f := fun k => mullionref24_meant.l0 k (((pre ++ [x]).length : Nat) : Int) l c m) (fun k => ?_) ?_
      · simp only [mullionref24_meant.l0]
        rw [if_pos hlen, if_pos (by omega), hrd, if_neg hx, wrap_in (by omega) (by omega)]
        simp
      · have e : fromN autoN (x :: l2) pre.length = fromN autoN l2 (((pre ++ [x]).length : Nat) : Int) := by simp [fromN, autoN, hx]
        rw [e]
        exact ih (pre ++ [x]) (by rw [h]; simp)
theorem meant79_ev (name : ByteArray) (c m : Int) (l : List S79) (hl : l.length ≤ 1000) : Ev (fun k => mullionref24_meant.f k l c m name) (meantN l name) := by
  unfold mullionref24_meant.f meantN
  by_cases h : name.toList = ([] : List UInt8)
  · refine Ev.congr (fun k => if_pos h) ?_
    rw [if_pos h]
    exact meant79_loop c m l hl l [] rfl
  · refine Ev.congr (fun k => if_neg h) ?_
    rw [if_neg h]
    exact Ev.bind (at79_ev name c m l hl) (Ev.now _)
theorem meantN_range (l : List S79) (name : ByteArray) : -1 ≤ meantN l name ∧ meantN l name < l.length := by
  unfold meantN
  split
  · rcases fromN_range (fun x : S79 => x.f2) l 0 (by omega) with h | h
    · rw [if_pos h]
      unfold mn
      split <;> omega
    · rw [if_neg (by omega)]
      omega
  · rcases fromN_range (isN name) l 0 (by omega) with h | h
    · unfold atN
      omega
    · unfold atN
      omega
theorem atN_range (l : List S79) (name : ByteArray) : -1 ≤ atN l name ∧ atN l name < l.length := by
  unfold atN
  rcases fromN_range (isN name) l 0 (by omega) with h | h <;> omega

/-! ### List -/
def shownN (x : S79) : S36 := ⟨x.f0, x.f1⟩
def listN (l : List S79) : List S36 := l.map shownN
theorem list68_loop (c m : Int) (l : List S68) (hl : l.length ≤ 1000) : ∀ (l2 pre : List S68), l = pre ++ l2 →
    Ev (fun k => buffers_Buffers_List.l0 k (listN (pre.map tr)) l (l.length : Int) (pre.length : Int) l c m) (listN (l.map tr), c, m) := by
  intro l2
  induction l2 with
  | nil =>
    intro pre h
    refine Ev.step (f := fun _ => some (listN (l.map tr), c, m)) (fun k => ?_) (Ev.now _)
    simp only [buffers_Buffers_List.l0]
    rw [if_neg (by rw [h]; simp)]
    rw [h, List.append_nil]
  | cons x l2 ih =>
    intro pre h
    have hlen : (pre.length : Int) < l.length := by rw [h]; simp; omega
    have hrd : rd_T68 l (pre.length : Int) = x := by rw [h]; exact rd68_at pre l2 x
    refine Ev.step (f := fun k => buffers_Buffers_List.l0 k (listN ((pre ++ [x]).map tr)) l (l.length : Int) (((pre ++ [x]).length : Nat) : Int) l c m) (fun k => ?_) (ih (pre ++ [x]) (by rw [h]; simp))
    simp only [buffers_Buffers_List.l0]
    rw [if_pos hlen, if_pos (by omega), if_pos hlen, hrd, if_pos (by simp [listN]; omega), wrap_in (by omega) (by omega)]
    simp [listN, shownN, tr]
theorem list68_ev (c m : Int) (l : List S68) (hl : l.length ≤ 1000) : Ev (fun k => buffers_Buffers_List.f k l c m) (listN (l.map tr), c, m) := list68_loop c m l hl l [] rfl
theorem list79_loop (c m : Int) (l : List S79) (hl : l.length ≤ 1000) : ∀ (l2 pre : List S79), l = pre ++ l2 →
    Ev (fun k => mullionref24_List.l0 k (listN pre) (pre.length : Int) l c m) (listN l) := by
  intro l2
  induction l2 with
  | nil =>
    intro pre h
    refine Ev.step (f := fun _ => some (listN l)) (fun k => ?_) (Ev.now _)
    simp only [mullionref24_List.l0]
    rw [if_neg (by rw [h]; simp)]
    rw [h, List.append_nil]
  | cons x l2 ih =>
    intro pre h
    have hlen : (pre.length : Int) < l.length := by rw [h]; simp; omega
    have hrd : rd_T79 l (pre.length : Int) = x := by rw [h]; exact rd79_at pre l2 x
    refine Ev.step (f := fun k => mullionref24_List.l0 k (listN (pre ++ [x])) (((pre ++ [x]).length : Nat) : Int) l c m) (fun k => ?_) (ih (pre ++ [x]) (by rw [h]; simp))
    simp only [mullionref24_List.l0]
    rw [if_pos hlen, if_pos (by omega), hrd, if_pos (by simp [listN]; omega), wrap_in (by omega) (by omega)]
    simp [listN, shownN]
theorem list79_ev (c m : Int) (l : List S79) (hl : l.length ≤ 1000) : Ev (fun k => mullionref24_List.f k l c m) (listN l) := list79_loop c m l hl l [] rfl

theorem same_loop (A : List S36) (hl : A.length ≤ 1000) : ∀ (d : Nat) (i : Nat), i + d = A.length → Ev (fun k => mullionlaw24_same.l0 k A A i) true := by
  intro d
  induction d with
  | zero =>
    intro i h
    refine Ev.step (f := fun _ => some true) (fun k => ?_) (Ev.now _)
    simp only [mullionlaw24_same.l0]
    rw [if_neg (by omega)]
  | succ d ih =>
    intro i h
    refine Ev.step (f := fun k => mullionlaw24_same.l0 k A A ((i + 1 : Nat) : Int)) (fun k => ?_) (ih (i + 1) (by omega))
    simp only [mullionlaw24_same.l0]
    rw [if_pos (by omega), if_pos (by omega), if_pos (by omega), if_neg (by simp), wrap_in (by omega) (by omega)]
    simp
theorem same_ev (A : List S36) (hl : A.length ≤ 1000) : Ev (fun k => mullionlaw24_same.f k A A) true := by
  unfold mullionlaw24_same.f
  refine Ev.congr (fun k => if_pos rfl) ?_
  exact same_loop A hl A.length 0 (by omega)

/-! ### Get -/
def getN (l : List S79) (name : ByteArray) : ByteArray × ByteArray × Int :=
  if meantN l name < 0 then (⟨#[]⟩, ⟨#[]⟩, 240) else ((rd_T79 l (meantN l name)).f0, (rd_T79 l (meantN l name)).f1, 0)
theorem rd_tr (l : List S68) (i : Int) : rd_T79 (l.map tr) i = tr (rd_T68 l i) := by
  unfold rd_T79 rd_T68
  rw [List.getD_eq_getElem?_getD, List.getD_eq_getElem?_getD, List.getElem?_map]
  cases l[i.toNat]? <;> rfl
theorem get68_ev (name : ByteArray) (c m : Int) (l : List S68) (hl : l.length ≤ 1000) : Ev (fun k => buffers_Buffers_Get.f k l c m name) ((getN (l.map tr) name).1, (getN (l.map tr) name).2.1, (getN (l.map tr) name).2.2, c, m) := by
  unfold buffers_Buffers_Get.f getN
  refine Ev.bind (of68_ev name c m l hl) ?_
  have hr := meantN_range (l.map tr) name
  rw [List.length_map] at hr
  by_cases h : meantN (l.map tr) name < 0
  · rw [if_pos h, if_pos h]
    exact Ev.now _
  · rw [if_neg h, if_neg h, if_pos (show (0 : Int) ≤ meantN (l.map tr) name by omega), if_pos hr.2, rd_tr]
    exact Ev.now _
theorem get79_ev (name : ByteArray) (c m : Int) (l : List S79) (hl : l.length ≤ 1000) : Ev (fun k => mullionref24_Get.f k l c m name) (getN l name) := by
  unfold mullionref24_Get.f getN
  refine Ev.bind (meant79_ev name c m l hl) ?_
  have hr := meantN_range l name
  by_cases h : meantN l name < 0
  · rw [if_pos h, if_pos h]
    exact Ev.now _
  · rw [if_neg h, if_neg h, if_pos (show (0 : Int) ≤ meantN l name by omega), if_pos hr.2]
    exact Ev.now _

/-! ### without, ahead -/
theorem without_loop (i : Nat) (c m : Int) (l : List S79) (hl : l.length ≤ 1000) (hi : i < l.length) : ∀ (l2 pre : List S79), l = pre ++ l2 →
    Ev (fun k => mullionref24_without.l0 k i (pre.eraseIdx i) (pre.length : Int) l c m) (l.eraseIdx i, c, m) := by
  intro l2
  induction l2 with
  | nil =>
    intro pre h
    refine Ev.step (f := fun _ => some (l.eraseIdx i, c, m)) (fun k => ?_) (Ev.now _)
    simp only [mullionref24_without.l0]
    rw [if_neg (by rw [h]; simp)]
    rw [h, List.append_nil]
  | cons x l2 ih =>
    intro pre h
    have hlen : (pre.length : Int) < l.length := by rw [h]; simp; omega
    have hrd : rd_T79 l (pre.length : Int) = x := by rw [h]; exact rd79_at pre l2 x
    have hle : (pre.eraseIdx i).length ≤ pre.length := by rw [List.length_eraseIdx]; split <;> omega
    refine Ev.step (f := fun k => mullionref24_without.l0 k i ((pre ++ [x]).eraseIdx i) (((pre ++ [x]).length : Nat) : Int) l c m) (fun k => ?_) (ih (pre ++ [x]) (by rw [h]; simp))
    simp only [mullionref24_without.l0]
    rw [if_pos hlen]
    by_cases hx : (pre.length : Int) = i
    · have hx2 : pre.length = i := by omega
      rw [if_pos hx, wrap_in (by omega) (by omega)]
      rw [List.eraseIdx_append_of_length_le (by omega)]
      rw [List.eraseIdx_of_length_le (by omega)]
      simp [hx2]
    · rw [if_neg hx, if_pos (by omega), if_pos (by omega), hrd, wrap_in (by omega) (by omega)]
      have e : (pre ++ [x]).eraseIdx i = pre.eraseIdx i ++ [x] := by
        by_cases hj : i < pre.length
        · rw [List.eraseIdx_append_of_lt_length hj]
        · rw [List.eraseIdx_append_of_length_le (by omega), List.eraseIdx_of_length_le (l := pre) (by omega), List.eraseIdx_of_length_le]
          simp
          omega
      rw [e]
      simp
theorem without_ev (i : Nat) (c m : Int) (l : List S79) (hl : l.length ≤ 1000) (hi : i < l.length) : Ev (fun k => mullionref24_without.f k l c m i) (l.eraseIdx i, c, m) :=
  without_loop i c m l hl hi l [] rfl
theorem ahead_is (x : S79) (c m : Int) (l : List S79) (hl : l.length ≤ 1000) : mullionref24_ahead.f l c m x.f0 x.f1 x.f2 = some (x :: l, c, m) := by
  unfold mullionref24_ahead.f
  simp only [Option.bind_some]
  rw [if_pos (by simp; omega)]
  rfl

/-! ### trimmed -/
def lastFrom : List S79 → Nat → Nat → Nat
  | [], _, a => a
  | x :: l, i, a => lastFrom l (i + 1) (if x.f2 then i else a)
def lastN (l : List S79) : Nat := lastFrom l 0 0
def trimK : Nat → List S79 → List S79
  | 0, l => l
  | n + 1, l => trimK n (l.eraseIdx (lastN l))
def trimN (l : List S79) (m : Int) : List S79 := trimK (countN l true - m).toNat l

theorem countN_append (l r : List S79) (b : Bool) : countN (l ++ r) b = countN l b + countN r b := by
  induction l with
  | nil => simp [countN, cntN]
  | cons x l ih =>
    simp only [List.cons_append, countN, cntN] at ih ⊢
    rw [ih]
    omega
theorem countN_le (l : List S79) (b : Bool) : 0 ≤ countN l b ∧ countN l b ≤ l.length := cntN_range _ l
theorem countN_two (l : List S79) : countN l true + countN l false = l.length := by
  induction l with
  | nil => rfl
  | cons x l ih =>
    simp only [countN, cntN, List.length_cons] at ih ⊢
    by_cases hx : x.f2 = true
    · rw [if_pos (by simp [hx]), if_neg (by simp [hx])]
      omega
    · rw [if_neg (by simp [hx]), if_pos (by simp [hx])]
      omega
theorem lastFrom_spec (l : List S79) : ∀ (pre r : List S79) (a : Nat), l = pre ++ r → (0 < countN pre true → a < pre.length ∧ (l.getD a z79).f2 = true ∧ ∀ j, a < j → j < pre.length → (l.getD j z79).f2 = false) →
    0 < countN l true → lastFrom r pre.length a < l.length ∧ (l.getD (lastFrom r pre.length a) z79).f2 = true ∧ ∀ j, lastFrom r pre.length a < j → j < l.length → (l.getD j z79).f2 = false := by
  intro pre r
  induction r generalizing pre with
  | nil =>
    intro a h hp hc
    rw [List.append_nil] at h
    subst h
    exact hp hc
  | cons x r ih =>
    intro a h hp hc
    have e : lastFrom (x :: r) pre.length a = lastFrom r (pre ++ [x]).length (if x.f2 then pre.length else a) := by simp [lastFrom]
    rw [e]
    have hx : l.getD pre.length z79 = x := by rw [h]; simp
    refine ih (pre ++ [x]) _ (by rw [h]; simp) ?_ hc
    intro hc2
    rw [countN_append] at hc2
    simp only [List.length_append, List.length_cons, List.length_nil]
    by_cases hf : x.f2 = true
    · rw [if_pos hf]
      refine ⟨by omega, by rw [hx]; exact hf, fun j h1 h2 => by omega⟩
    · rw [if_neg hf]
      have hz : countN [x] true = 0 := by simp [countN, cntN, hf]
      obtain ⟨h1, h2, h3⟩ := hp (by omega)
      refine ⟨by omega, h2, fun j hj1 hj2 => ?_⟩
      by_cases hj : j < pre.length
      · exact h3 j hj1 hj
      · obtain rfl : j = pre.length := by omega
        rw [hx]
        simpa using hf
theorem lastN_spec (l : List S79) (h : 0 < countN l true) : lastN l < l.length ∧ (l.getD (lastN l) z79).f2 = true ∧ ∀ j, lastN l < j → j < l.length → (l.getD j z79).f2 = false :=
  lastFrom_spec l [] l 0 rfl (fun h => by simp [countN, cntN] at h) h
theorem countN_erase (l : List S79) (i : Nat) (hi : i < l.length) (b : Bool) : countN (l.eraseIdx i) b = countN l b - (if (l.getD i z79).f2 == b then 1 else 0) := by
  induction l generalizing i with
  | nil => simp at hi
  | cons x l ih =>
    cases i with
    | zero =>
      simp [countN, cntN]
      split <;> omega
    | succ i =>
      have := ih i (by simpa using hi)
      simp only [List.eraseIdx_cons_succ, countN, cntN, List.getD_cons_succ] at this ⊢
      rw [this]
      omega

theorem trimmed_l1 (m c : Int) (l : List S79) (hl : l.length ≤ 1000) (R : List S79 × Int × Int) (hR : Ev (fun k => (mullionref24_without.f k l m c ((lastN l : Nat) : Int)).bind fun bt152 => (mullionref24_trimmed.l0 k bt152.1 bt152.2.1 bt152.2.2)) R) :
    ∀ (r pre : List S79) (a : Nat), l = pre ++ r → lastFrom r pre.length a = lastN l → Ev (fun k => mullionref24_trimmed.l1 k a (pre.length : Int) l m c) R := by
  intro r
  induction r with
  | nil =>
    intro pre a h ha
    refine Ev.step (fun k => ?_) hR
    simp only [mullionref24_trimmed.l1]
    rw [if_neg (by rw [h]; simp)]
    simp only [lastFrom] at ha
    rw [ha]
  | cons x r ih =>
    intro pre a h ha
    have hlen : (pre.length : Int) < l.length := by rw [h]; simp; omega
    have hrd : rd_T79 l (pre.length : Int) = x := by rw [h]; exact rd79_at pre r x
    refine Ev.step (f := fun k => mullionref24_trimmed.l1 k ((if x.f2 then pre.length else a : Nat) : Int) (((pre ++ [x]).length : Nat) : Int) l m c) (fun k => ?_) (ih (pre ++ [x]) _ (by rw [h]; simp) (by rw [← ha]; simp [lastFrom]))
    simp only [mullionref24_trimmed.l1]
    rw [if_pos hlen, if_pos (by omega), hrd, wrap_in (by omega) (by omega)]
    by_cases hx : x.f2 = true
    · rw [if_pos hx, if_pos hx]
      simp
    · rw [if_neg hx, if_neg hx]
      simp
theorem trimmed_ev (m c : Int) : ∀ (n : Nat) (l : List S79), l.length ≤ 1000 → 0 ≤ m → (countN l true - m).toNat = n → Ev (fun k => mullionref24_trimmed.f k l m c) (trimN l m, m, c) := by
  intro n
  induction n with
  | zero =>
    intro l hl hm hn
    unfold mullionref24_trimmed.f
    refine Ev.step (f := fun k => (mullionref24_count.f k l m c true).bind fun t150 => (if t150 > m then (mullionref24_trimmed.l1 k 0 0 l m c) else (some (l, m, c)))) (fun k => by simp only [mullionref24_trimmed.l0]) ?_
    refine Ev.bind (count79_ev true m c l hl) (Ev.congr (fun k => if_neg (show ¬ countN l true > m by omega)) ?_)
    unfold trimN
    rw [hn]
    exact Ev.now _
  | succ n ih =>
    intro l hl hm hn
    unfold mullionref24_trimmed.f
    refine Ev.step (f := fun k => (mullionref24_count.f k l m c true).bind fun t150 => (if t150 > m then (mullionref24_trimmed.l1 k 0 0 l m c) else (some (l, m, c)))) (fun k => by simp only [mullionref24_trimmed.l0]) ?_
    refine Ev.bind (count79_ev true m c l hl) (Ev.congr (fun k => if_pos (show countN l true > m by omega)) ?_)
    obtain ⟨h1, h2, h3⟩ := lastN_spec l (by omega)
    have hc := countN_erase l (lastN l) h1 true
    rw [h2] at hc
    simp at hc
    have hle : (l.eraseIdx (lastN l)).length ≤ l.length := by rw [List.length_eraseIdx]; split <;> omega
    have e : trimN l m = trimN (l.eraseIdx (lastN l)) m := by
      unfold trimN
      rw [hn, show (countN (l.eraseIdx (lastN l)) true - m).toNat = n by omega]
      rfl
    rw [e]
    exact trimmed_l1 m c l hl _ (Ev.bind (without_ev (lastN l) m c l hl h1) (ih (l.eraseIdx (lastN l)) (by omega) hm (by omega))) l [] 0 rfl rfl
theorem trim_ev (m c : Int) (l : List S79) (hl : l.length ≤ 1000) (hm : 0 ≤ m) : Ev (fun k => mullionref24_trimmed.f k l m c) (trimN l m, m, c) := trimmed_ev m c _ l hl hm rfl
theorem trimK_counts : ∀ (n : Nat) (l : List S79), (n : Int) ≤ countN l true → countN (trimK n l) true = countN l true - n ∧ countN (trimK n l) false = countN l false := by
  intro n
  induction n with
  | zero => intro l h; simp [trimK]
  | succ n ih =>
    intro l h
    obtain ⟨h1, h2, h3⟩ := lastN_spec l (by omega)
    have hc := countN_erase l (lastN l) h1 true
    have hf := countN_erase l (lastN l) h1 false
    rw [h2] at hc hf
    simp at hc hf
    have := ih (l.eraseIdx (lastN l)) (by omega)
    simp only [trimK]
    omega
theorem trimN_counts (l : List S79) (m : Int) (hm : 0 ≤ m) : countN (trimN l m) true ≤ m ∧ countN (trimN l m) true ≤ countN l true ∧ countN (trimN l m) false = countN l false := by
  have := trimK_counts (countN l true - m).toNat l (by have := countN_le l true; omega)
  unfold trimN
  omega
/-! ### Delete, Limit -/
def deleteN (l : List S79) (name : ByteArray) : List S79 × Int := if meantN l name < 0 then (l, 240) else (l.eraseIdx (meantN l name).toNat, 0)
theorem delete_ev (name : ByteArray) (m c : Int) (l : List S79) (hl : l.length ≤ 1000) : Ev (fun k => mullionref24_Delete.f k l m c name) ((deleteN l name).1, m, c, (deleteN l name).2) := by
  unfold mullionref24_Delete.f deleteN
  refine Ev.bind (meant79_ev name m c l hl) ?_
  have hr := meantN_range l name
  by_cases h : meantN l name < 0
  · rw [if_pos h]
    exact Ev.congr (fun k => if_pos h) (Ev.now _)
  · rw [if_neg h]
    refine Ev.congr (fun k => if_neg h) ?_
    have e : meantN l name = (((meantN l name).toNat : Nat) : Int) := by omega
    refine Ev.bind (r := ((l.eraseIdx (meantN l name).toNat), m, c, 0)) (a := ((l.eraseIdx (meantN l name).toNat), m, c)) ?_ (Ev.now _)
    have := without_ev (meantN l name).toNat m c l hl (by omega)
    rw [← e] at this
    exact this
def limitN (l : List S79) (m n : Int) : List S79 × Int × Int := if n < 1 then (l, m, 1) else if n > 20 then (l, m, 1) else (trimN l n, n, 0)
theorem limit_ev (n m c : Int) (l : List S79) (hl : l.length ≤ 1000) : Ev (fun k => mullionref24_Limit.f k l m c n) ((limitN l m n).1, (limitN l m n).2.1, c, (limitN l m n).2.2) := by
  unfold mullionref24_Limit.f limitN
  by_cases h : n < 1
  · rw [if_pos h]
    exact Ev.congr (fun k => if_pos h) (Ev.now _)
  · rw [if_neg h]
    refine Ev.congr (fun k => if_neg h) ?_
    by_cases h2 : n > 20
    · rw [if_pos h2]
      exact Ev.congr (fun k => if_pos h2) (Ev.now _)
    · rw [if_neg h2]
      refine Ev.congr (fun k => if_neg h2) ?_
      exact Ev.bind (trim_ev n c l hl (by omega)) (Ev.now _)

end Go.Proofs.YtjkmmfjlladlfaaDoor.Hand
