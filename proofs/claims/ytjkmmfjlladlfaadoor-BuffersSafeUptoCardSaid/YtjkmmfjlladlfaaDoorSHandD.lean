/- The buffers, in plain words, third part: the names that the program gives, words, and what the document's Set and Rename come to. Conditions: the list has at most 1,000 buffers, the counter is small, texts have fewer than 2^62 bytes. -/
import Derived.Test.YtjkmmfjlladlfaaDoorSHandC
namespace Go.Proofs.YtjkmmfjlladlfaaDoor.Hand
set_option linter.unusedVariables false
set_option linter.unusedSimpArgs false
open Go.RowKit Go.Proofs.YtjkmmfjlladlfaaDoor.PBuf Go.Proofs.YtjkmmfjlladlfaaDoor.Given Go.Proofs.YtjkmmfjlladlfaaDoorW.PrintWords Go.Proofs.YtjkmmfjlladlfaaDoorW.PrintLast

theorem nDigits_le (k : Nat) : ∀ u : Nat, u < 10 ^ (k + 1) → Lib.nDigits u ≤ k + 1 := by
  induction k with
  | zero => intro u h; rw [Lib.nDigits_small (by simpa using h)]; omega
  | succ k ih =>
    intro u h
    by_cases hs : u < 10
    · rw [Lib.nDigits_small hs]; omega
    · rw [Lib.nDigits_big hs]
      have := ih (u / 10) (by rw [Nat.pow_succ] at h; omega)
      omega
theorem put_len (n : Nat) (h : n ≤ 4611686018427387904) : (Lib.decDigits n).length ≤ 20 := by
  rw [Lib.decDigits_length]
  exact nDigits_le 19 n (by omega)
theorem digit_str (n : Nat) (h : n < 10) : strOfNums [(wrap64 (48 + (n : Int))) % 256] = ⟨#[UInt8.ofNat (48 + n)]⟩ := by
  rw [wrap_in (by omega) (by omega)]
  have e : (48 + (n : Int)) % 256 = ((48 + n : Nat) : Int) := by omega
  rw [e]
  show (⟨#[UInt8.ofNat (((48 + n : Nat) : Int)).toNat]⟩ : ByteArray) = _
  rw [Int.toNat_natCast]
/-- The document's PutNumber tells the decimal digits. -/
theorem put_ev (n : Nat) (h : n ≤ 4611686018427387904) : Ev (fun k => mullionref01_PutNumber.f k n) ⟨(Lib.decDigits n).toArray⟩ := by
  induction n using Nat.strongRecOn with
  | _ n ih =>
    refine Ev.step (f := fun k => mullionref01_PutNumber.j0 k n false) (fun k => ?_) (Ev.step (f := fun k => if (n : Int) < 10 then (some (strOfNums (([(wrap64 (48 + (n : Int))) % 256] : List Int)))) else ((mullionref01_PutNumber.f k (wrap64 (Int.tdiv n 10))).bind fun t116 => ((mullionref01_PutNumber.f k (Int.tmod n 10)).bind fun t117 => (if t116.size + t117.size ≤ 9223372036854775807 then (some (t116 ++ t117)) else (none))))) (fun k => ?_) ?_)
    · simp only [mullionref01_PutNumber.f]
      rw [if_neg (by omega), decide_eq_false (by omega)]
    · simp only [mullionref01_PutNumber.j0]
      rw [if_neg (by decide)]
    · by_cases hs : (n : Int) < 10
      · refine Ev.congr (fun k => if_pos hs) ?_
        have hn : n < 10 := by omega
        rw [digit_str n hn, Lib.decDigits_one hn]
        exact Ev.now _
      · refine Ev.congr (fun k => if_neg hs) ?_
        have e1 : wrap64 (Int.tdiv n 10) = ((n / 10 : Nat) : Int) := by
          rw [Int.tdiv_eq_ediv_of_nonneg (by omega), wrap_in (by omega) (by omega)]
          omega
        have e2 : Int.tmod n 10 = ((n % 10 : Nat) : Int) := by
          rw [Int.tmod_eq_emod_of_nonneg (by omega)]
          omega
        rw [e1, e2]
        refine Ev.bind (ih (n / 10) (by omega) (by omega)) (Ev.bind (ih (n % 10) (by omega) (by omega)) ?_)
        have l1 := put_len (n / 10) (by omega)
        have l2 := put_len (n % 10) (by omega)
        refine Ev.congr (fun k => if_pos ?_) ?_
        · show (Lib.decDigits (n / 10)).toArray.size + (Lib.decDigits (n % 10)).toArray.size ≤ _
          simp
          omega
        · have e3 : ((⟨(Lib.decDigits (n / 10)).toArray⟩ : ByteArray) ++ (⟨(Lib.decDigits (n % 10)).toArray⟩ : ByteArray)) = ⟨(Lib.decDigits n).toArray⟩ := by
            rw [Lib.decDigits_one (i := n % 10) (by omega)]
            conv => rhs; rw [Lib.decDigits, dif_neg (by omega)]
            apply ByteArray.ext
            simp
          rw [e3]
          exact Ev.now _
/-- The program's, too. -/
theorem prog_put (c : Int) (h0 : 0 ≤ c) (h1 : c ≤ 4611686018427387904) : octal_PutNumber.f c = some ⟨(Lib.decDigits c.toNat).toArray⟩ := by
  obtain ⟨n, rfl⟩ : ∃ n : Nat, c = n := ⟨c.toNat, by omega⟩
  unfold octal_PutNumber.f given_Itoa.f
  rw [if_neg (by omega), if_neg (by omega), if_pos (by omega), if_pos (by omega), Lib.itoa_nonneg]
  rfl

/-- A numeral tells its number. -/
def digitsVal (l : List UInt8) : Nat := l.foldl (fun a b => a * 10 + (b.toNat - 48)) 0
theorem digitsVal_dec (n : Nat) : digitsVal (Lib.decDigits n) = n := by
  induction n using Nat.strongRecOn with
  | _ n ih =>
    by_cases h : n < 10
    · rw [Lib.decDigits_one h]
      simp only [digitsVal, List.foldl_cons, List.foldl_nil]
      rw [UInt8.toNat_ofNat']
      omega
    · rw [Lib.decDigits, dif_neg h]
      simp only [digitsVal] at ih ⊢
      rw [List.foldl_append, ih (n / 10) (by omega)]
      simp only [List.foldl_cons, List.foldl_nil]
      rw [UInt8.toNat_ofNat']
      omega
def bufName (c : Int) : ByteArray := (⟨#[98, 117, 102, 102, 101, 114]⟩ : ByteArray) ++ ⟨(Lib.decDigits c.toNat).toArray⟩
theorem bufName_inj {a b : Int} (ha : 0 ≤ a) (hb : 0 ≤ b) (h : (bufName a).toList = (bufName b).toList) : a = b := by
  have h := toList_inj h
  unfold bufName at h
  have h2 := congrArg (fun s : ByteArray => s.data.toList) h
  simp at h2
  have h3 := congrArg digitsVal h2
  rw [digitsVal_dec, digitsVal_dec] at h3
  omega
theorem pigeon {α : Type} : ∀ (l : List α) (f : Nat → α), (∀ i j, f i = f j → i = j) → ∃ j, j ≤ l.length ∧ f j ∉ l := by
  intro l
  induction l with
  | nil => intro f _; exact ⟨0, by simp, by simp⟩
  | cons x l ih =>
    intro f hf
    by_cases h : ∃ j0, f j0 = x
    · obtain ⟨j0, h0⟩ := h
      obtain ⟨j, hj, hn⟩ := ih (fun j => if j < j0 then f j else f (j + 1)) (by
        intro i j hij
        by_cases h1 : i < j0 <;> by_cases h2 : j < j0 <;> simp only [h1, h2, if_true, if_false] at hij <;> have := hf _ _ hij <;> omega)
      by_cases hlt : j < j0
      · simp only [hlt, if_true] at hn
        refine ⟨j, by simp; omega, fun hm => ?_⟩
        rcases List.mem_cons.1 hm with h1 | h1
        · have := hf j j0 (h1.trans h0.symm)
          omega
        · exact hn h1
      · simp only [hlt, if_false] at hn
        refine ⟨j + 1, by simp; omega, fun hm => ?_⟩
        rcases List.mem_cons.1 hm with h1 | h1
        · have := hf (j + 1) j0 (h1.trans h0.symm)
          omega
        · exact hn h1
    · obtain ⟨j, hj, hn⟩ := ih f hf
      refine ⟨j, by simp; omega, fun hm => ?_⟩
      rcases List.mem_cons.1 hm with h1 | h1
      · exact h ⟨j, h1⟩
      · exact hn h1

theorem fromN_none {α : Type} (p : α → Bool) (l : List α) : ∀ i : Int, 0 ≤ i → (fromN p l i = -1 ↔ ∀ x ∈ l, p x = false) := by
  induction l with
  | nil => intro i h; simp [fromN]
  | cons x l ih =>
    intro i h
    simp only [fromN]
    by_cases hx : p x = true
    · rw [if_pos hx]
      constructor
      · intro h2; omega
      · intro h2
        have := h2 x (by simp)
        rw [hx] at this
        cases this
    · rw [if_neg hx, ih (i + 1) (by omega)]
      simp [hx]
theorem fromN_some {α : Type} (p : α → Bool) (l : List α) (z : α) : ∀ i : Int, 0 ≤ i → fromN p l i ≠ -1 → p (l.getD (fromN p l i - i).toNat z) = true := by
  induction l with
  | nil => intro i h h2; simp [fromN] at h2
  | cons x l ih =>
    intro i h h2
    simp only [fromN] at h2 ⊢
    by_cases hx : p x = true
    · rw [if_pos hx]
      simpa using hx
    · rw [if_neg hx] at h2 ⊢
      have := ih (i + 1) (by omega) h2
      rcases fromN_range p l (i + 1) (by omega) with h3 | h3
      · exact absurd h3 h2
      · have e : (fromN p l (i + 1) - i).toNat = (fromN p l (i + 1) - (i + 1)).toNat + 1 := by omega
        rw [e, List.getD_cons_succ]
        exact this
theorem atN_none (l : List S79) (name : ByteArray) : atN l name < 0 ↔ name ∉ l.map (·.f0) := by
  have hr := atN_range l name
  have h : atN l name < 0 ↔ atN l name = -1 := by omega
  rw [h]
  unfold atN
  rw [fromN_none _ _ 0 (by omega)]
  constructor
  · intro h2 hm
    obtain ⟨x, hx, he⟩ := List.mem_map.1 hm
    have := h2 x hx
    simp [isN, he] at this
  · intro h2 x hx
    by_cases hx2 : x.f0.toList = name.toList
    · exact absurd (List.mem_map.2 ⟨x, hx, toList_inj hx2⟩) h2
    · simp [isN, hx2]
theorem atN_some (l : List S79) (name : ByteArray) (h : 0 ≤ atN l name) : (rd_T79 l (atN l name)).f0 = name := by
  have := fromN_some (isN name) l z79 0 (by omega) (by unfold atN at h; omega)
  simp only [isN, decide_eq_true_eq] at this
  have e : atN l name - 0 = atN l name := by omega
  unfold atN at e
  rw [e] at this
  exact toList_inj this

def nextF : Nat → List S79 → Int → Int
  | 0, _, c => c
  | n + 1, l, c => if 0 ≤ atN l (bufName c) then nextF n l (c + 1) else c
def nextN (l : List S79) (c : Int) : Int := nextF (l.length + 1) l c
theorem nextF_free : ∀ (n : Nat) (l : List S79) (c : Int), (∃ j : Nat, j < n ∧ atN l (bufName (c + j)) < 0) → atN l (bufName (nextF n l c)) < 0 ∧ c ≤ nextF n l c ∧ nextF n l c < c + n := by
  intro n
  induction n with
  | zero => intro l c ⟨j, h, _⟩; omega
  | succ n ih =>
    intro l c ⟨j, hj, hf⟩
    simp only [nextF]
    by_cases h : 0 ≤ atN l (bufName c)
    · rw [if_pos h]
      have := ih l (c + 1) ⟨j - 1, by
        cases j with
        | zero => simp at hf; omega
        | succ j => omega, by
        cases j with
        | zero => simp at hf; omega
        | succ j =>
          have e : c + 1 + ((j + 1 - 1 : Nat) : Int) = c + ((j + 1 : Nat) : Int) := by omega
          rw [e]
          exact hf⟩
      omega
    · rw [if_neg h]
      omega
theorem free_name (l : List S79) (c : Int) (hc : 0 ≤ c) : ∃ j : Nat, j < l.length + 1 ∧ atN l (bufName (c + j)) < 0 := by
  obtain ⟨j, h1, h2⟩ := pigeon (l.map (·.f0)) (fun j => bufName (c + j)) (fun i j h => by
    have := bufName_inj (a := c + i) (b := c + j) (by omega) (by omega) (by rw [h])
    omega)
  exact ⟨j, by simpa using Nat.lt_succ_of_le h1, (atN_none l _).2 h2⟩
theorem nextN_spec (l : List S79) (c : Int) (hc : 0 ≤ c) : atN l (bufName (nextN l c)) < 0 ∧ c ≤ nextN l c ∧ nextN l c ≤ c + l.length := by
  have := nextF_free (l.length + 1) l c (free_name l c hc)
  unfold nextN
  omega

/-! ### words -/
theorem bt_get (s : ByteArray) (i : Nat) (h : i < s.size) : ∃ x : UInt8, s.data.toList.drop i = x :: s.data.toList.drop (i + 1) ∧ bt s i = x.toNat := by
  have h2 : i < s.data.toList.length := by simpa using h
  refine ⟨s.data.toList[i], List.drop_eq_getElem_cons h2, ?_⟩
  unfold bt
  have h3 : ((i : Int)).toNat < s.size := by simpa using h
  rw [dif_pos h3]
  simp
  rfl
theorem byte_eq (x : UInt8) (b : Int) (h0 : 0 ≤ b) (h1 : b ≤ 255) : ((x.toNat : Int) = b) ↔ (x == b.toNat.toUInt8) = true := by
  rw [beq_iff_eq]
  constructor
  · intro h
    subst h
    apply UInt8.toNat_inj.1
    simp
  · intro h
    subst h
    simp
    omega
theorem index_cons (x c : UInt8) (l : List UInt8) : decide (0 ≤ Lib.indexByte (x :: l) c) = (x == c || decide (0 ≤ Lib.indexByte l c)) := by
  have hge := Lib.indexByte_ge l c
  have e : Lib.indexByte (x :: l) c = if x == c then 0 else if Lib.indexByte l c == -1 then -1 else Lib.indexByte l c + 1 := rfl
  rw [Bool.eq_iff_iff]
  simp only [decide_eq_true_eq, Bool.or_eq_true]
  rw [e]
  by_cases hx : (x == c) = true
  · rw [if_pos hx]
    simp [hx]
  · rw [if_neg hx]
    by_cases hq : Lib.indexByte l c = -1
    · rw [if_pos (by simpa using hq)]
      simp [hx, hq]
    · rw [if_neg (by simpa using hq)]
      simp only [hx, false_or]
      constructor <;> intro <;> first | omega | exact Or.inr (by omega)
theorem holds_loop (s : ByteArray) (b : Int) (h0 : 0 ≤ b) (h1 : b ≤ 255) (hs : s.size ≤ 4611686018427387904) : ∀ (d i : Nat), i + d = s.size →
    Ev (fun k => mullionref01_holds.l0 k s b i) (decide (0 ≤ Lib.indexByte (s.data.toList.drop i) b.toNat.toUInt8)) := by
  intro d
  induction d with
  | zero =>
    intro i h
    refine Ev.step (f := fun _ => some false) (fun k => ?_) ?_
    · simp only [mullionref01_holds.l0]
      rw [if_neg (by omega)]
    · have e : s.data.toList.drop i = [] := List.drop_eq_nil_of_le (by simp; omega)
      rw [e]
      exact Ev.now _
  | succ d ih =>
    intro i h
    obtain ⟨x, hd, hb⟩ := bt_get s i (by omega)
    rw [hd, index_cons]
    by_cases hx : (x == b.toNat.toUInt8) = true
    · refine Ev.step (f := fun _ => some true) (fun k => ?_) ?_
      · simp only [mullionref01_holds.l0]
        rw [if_pos (by omega), if_pos (by omega), if_pos (by rw [hb]; exact (byte_eq x b h0 h1).2 hx)]
      · rw [hx]
        exact Ev.now _
    · refine Ev.step (f := fun k => mullionref01_holds.l0 k s b ((i + 1 : Nat) : Int)) (fun k => ?_) ?_
      · simp only [mullionref01_holds.l0]
        rw [if_pos (by omega), if_pos (by omega), if_neg (by rw [hb]; exact fun h => hx ((byte_eq x b h0 h1).1 h)), wrap_in (by omega) (by omega)]
        simp
      · rw [Bool.eq_false_iff.2 hx, Bool.false_or]
        exact ih (i + 1) (by omega)
theorem holds_ev (s : ByteArray) (b : Int) (h0 : 0 ≤ b) (h1 : b ≤ 255) (hs : s.size ≤ 4611686018427387904) :
    Ev (fun k => mullionref01_holds.f k s b) (decide (0 ≤ Lib.indexByte s.data.toList b.toNat.toUInt8)) := holds_loop s b h0 h1 hs s.size 0 (by omega)

theorem name_loop (s : ByteArray) (hs : s.size ≤ 4611686018427387904) (hp : 0 < s.size) : ∀ (d i : Nat), i + d = s.size →
    ∃ b, Ev (fun k => octal_IsName.l0 k s i) b ∧ Ev (fun k => mullionref01_IsName.l0 k s i) b := by
  intro d
  induction d with
  | zero =>
    intro i h
    have hb := bt_range s 0
    have hh := holds_ev (⟨#[32, 33, 36, 37, 43, 45, 61, 64, 94, 123]⟩ : ByteArray) (bt s 0) hb.1 hb.2 (by show (10 : Nat) ≤ _; omega)
    by_cases hi : Lib.indexByte (⟨#[32, 33, 36, 37, 43, 45, 61, 64, 94, 123]⟩ : ByteArray).data.toList (bt s 0).toNat.toUInt8 < 0
    · refine ⟨bt s (wrap64 ((s.size : Int) - 1)) != 32, ?_, ?_⟩
      · refine Ev.step (f := fun _ => some (bt s (wrap64 ((s.size : Int) - 1)) != 32)) (fun k => ?_) (Ev.now _)
        simp only [octal_IsName.l0, given_IndexByte.f, Option.bind_some]
        rw [if_neg (by omega), if_pos (by omega), if_pos hi, if_pos (by rw [wrap_in (by omega) (by omega)]; omega), if_pos (by rw [wrap_in (by omega) (by omega)]; omega)]
      · rw [decide_eq_false (by omega)] at hh
        refine Ev.step (f := fun k => ((mullionref01_holds.f k (⟨#[32, 33, 36, 37, 43, 45, 61, 64, 94, 123]⟩ : ByteArray) (bt s 0)).bind fun t166 => (if t166 = true then (some false) else (if 0 ≤ (wrap64 ((s.size : Int) - 1)) then (if (wrap64 ((s.size : Int) - 1)) < (s.size : Int) then (some ((bt s (wrap64 ((s.size : Int) - 1))) != 32)) else (none)) else (none))))) (fun k => ?_) (Ev.bind hh ?_)
        · simp only [mullionref01_IsName.l0]
          rw [if_neg (by omega), if_pos (by omega)]
        · rw [if_neg (by decide), if_pos (by rw [wrap_in (by omega) (by omega)]; omega), if_pos (by rw [wrap_in (by omega) (by omega)]; omega)]
          exact Ev.now _
    · refine ⟨false, ?_, ?_⟩
      · refine Ev.step (f := fun _ => some false) (fun k => ?_) (Ev.now _)
        simp only [octal_IsName.l0, given_IndexByte.f, Option.bind_some]
        rw [if_neg (by omega), if_pos (by omega), if_neg hi]
      · rw [decide_eq_true (by omega)] at hh
        refine Ev.step (f := fun k => ((mullionref01_holds.f k (⟨#[32, 33, 36, 37, 43, 45, 61, 64, 94, 123]⟩ : ByteArray) (bt s 0)).bind fun t166 => (if t166 = true then (some false) else (if 0 ≤ (wrap64 ((s.size : Int) - 1)) then (if (wrap64 ((s.size : Int) - 1)) < (s.size : Int) then (some ((bt s (wrap64 ((s.size : Int) - 1))) != 32)) else (none)) else (none))))) (fun k => ?_) (Ev.bind hh ?_)
        · simp only [mullionref01_IsName.l0]
          rw [if_neg (by omega), if_pos (by omega)]
        · rw [if_pos rfl]
          exact Ev.now _
  | succ d ih =>
    intro i h
    obtain ⟨b, ih1, ih2⟩ := ih (i + 1) (by omega)
    by_cases h1 : bt s i < 32
    · refine ⟨false, Ev.step (f := fun _ => some false) (fun k => ?_) (Ev.now _), Ev.step (f := fun _ => some false) (fun k => ?_) (Ev.now _)⟩
      · simp only [octal_IsName.l0]
        rw [if_pos (by omega), if_pos (by omega), if_pos h1]
      · simp only [mullionref01_IsName.l0]
        rw [if_pos (by omega), if_pos (by omega), if_pos h1]
    · by_cases h2 : bt s i > 126
      · refine ⟨false, Ev.step (f := fun _ => some false) (fun k => ?_) (Ev.now _), Ev.step (f := fun _ => some false) (fun k => ?_) (Ev.now _)⟩
        · simp only [octal_IsName.l0]
          rw [if_pos (by omega), if_pos (by omega), if_neg h1, if_pos h2]
        · simp only [mullionref01_IsName.l0]
          rw [if_pos (by omega), if_pos (by omega), if_neg h1, if_pos h2]
      · by_cases h3 : bt s i = 46
        · refine ⟨false, Ev.step (f := fun _ => some false) (fun k => ?_) (Ev.now _), Ev.step (f := fun _ => some false) (fun k => ?_) (Ev.now _)⟩
          · simp only [octal_IsName.l0]
            rw [if_pos (by omega), if_pos (by omega), if_neg h1, if_neg h2, if_pos h3]
          · simp only [mullionref01_IsName.l0]
            rw [if_pos (by omega), if_pos (by omega), if_neg h1, if_neg h2, if_pos h3]
        · by_cases h4 : bt s i = 58
          · refine ⟨false, Ev.step (f := fun _ => some false) (fun k => ?_) (Ev.now _), Ev.step (f := fun _ => some false) (fun k => ?_) (Ev.now _)⟩
            · simp only [octal_IsName.l0]
              rw [if_pos (by omega), if_pos (by omega), if_neg h1, if_neg h2, if_neg h3, if_pos h4]
            · simp only [mullionref01_IsName.l0]
              rw [if_pos (by omega), if_pos (by omega), if_neg h1, if_neg h2, if_neg h3, if_pos h4]
          · refine ⟨b, Ev.step (fun k => ?_) ih1, Ev.step (fun k => ?_) ih2⟩
            · simp only [octal_IsName.l0]
              rw [if_pos (by omega), if_pos (by omega), if_neg h1, if_neg h2, if_neg h3, if_neg h4, wrap_in (by omega) (by omega)]
              simp
            · simp only [mullionref01_IsName.l0]
              rw [if_pos (by omega), if_pos (by omega), if_neg h1, if_neg h2, if_neg h3, if_neg h4, wrap_in (by omega) (by omega)]
              simp
theorem name_both (s : ByteArray) (hs : s.size ≤ 4611686018427387904) : ∃ b, Ev (fun k => octal_IsName.f k s) b ∧ Ev (fun k => mullionref01_IsName.f k s) b := by
  unfold octal_IsName.f mullionref01_IsName.f
  by_cases h : (s.size : Int) < 1
  · refine ⟨false, Ev.congr (fun k => if_pos h) (Ev.step (f := fun _ => some false) (fun k => ?_) (Ev.now _)), Ev.congr (fun k => if_pos h) (Ev.step (f := fun _ => some false) (fun k => ?_) (Ev.now _))⟩
    · simp only [octal_IsName.j0]
      rfl
    · simp only [mullionref01_IsName.j0]
      rfl
  · by_cases h2 : (s.size : Int) > 32
    · refine ⟨false, Ev.congr (fun k => if_neg h) (Ev.step (f := fun _ => some false) (fun k => ?_) (Ev.now _)), Ev.congr (fun k => if_neg h) (Ev.step (f := fun _ => some false) (fun k => ?_) (Ev.now _))⟩
      · simp only [octal_IsName.j0]
        rw [if_pos (decide_eq_true h2)]
      · simp only [mullionref01_IsName.j0]
        rw [if_pos (decide_eq_true h2)]
    · obtain ⟨b, h3, h4⟩ := name_loop s hs (by omega) s.size 0 (by omega)
      refine ⟨b, Ev.congr (fun k => if_neg h) (Ev.step (fun k => ?_) h3), Ev.congr (fun k => if_neg h) (Ev.step (fun k => ?_) h4)⟩
      · simp only [octal_IsName.j0]
        rw [if_neg (by simpa using h2)]
        rfl
      · simp only [mullionref01_IsName.j0]
        rw [if_neg (by simpa using h2)]
        rfl
theorem word_both (s : ByteArray) (hs : s.size ≤ 4611686018427387904) : ∃ b, Ev (fun k => octal_IsWord.f k s) b ∧ Ev (fun k => mullionref01_IsWord.f k s) b := by
  unfold octal_IsWord.f mullionref01_IsWord.f
  obtain ⟨b, h1, h2⟩ := name_both s hs
  by_cases hb : b = true
  · subst hb
    refine ⟨decide (Lib.indexByte s.data.toList (32 : Int).toNat.toUInt8 < 0), Ev.bind h1 ?_, Ev.bind h2 ?_⟩
    · rw [if_pos rfl]
      simp only [given_IndexByte.f, Option.bind_some]
      exact Ev.now _
    · refine Ev.congr (fun k => if_pos rfl) (Ev.bind (holds_ev s 32 (by omega) (by omega) hs) ?_)
      have e : (!decide (0 ≤ Lib.indexByte s.data.toList (32 : Int).toNat.toUInt8)) = decide (Lib.indexByte s.data.toList (32 : Int).toNat.toUInt8 < 0) := by
        by_cases hq : Lib.indexByte s.data.toList (32 : Int).toNat.toUInt8 < 0
        · rw [decide_eq_true hq, decide_eq_false (by omega)]
          rfl
        · rw [decide_eq_false hq, decide_eq_true (by omega)]
          rfl
      rw [e]
      exact Ev.now _
  · refine ⟨false, Ev.bind h1 ?_, Ev.bind h2 ?_⟩
    · rw [if_neg hb]
      exact Ev.now _
    · exact Ev.congr (fun k => if_neg hb) (Ev.now _)
/-- Is a text a word? As both tell it. -/
noncomputable def wordN (s : ByteArray) : Bool := open Classical in if h : ∃ b, Ev (fun k => octal_IsWord.f k s) b ∧ Ev (fun k => mullionref01_IsWord.f k s) b then h.choose else false
theorem word_ev (s : ByteArray) (hs : s.size ≤ 4611686018427387904) : Ev (fun k => octal_IsWord.f k s) (wordN s) ∧ Ev (fun k => mullionref01_IsWord.f k s) (wordN s) := by
  unfold wordN
  rw [dif_pos (word_both s hs)]
  exact (word_both s hs).choose_spec

/-! ### Set, Rename -/
/-- What Set comes to: the list, the counter, the name, the error. -/
noncomputable def setN (l : List S79) (c m : Int) (name text : ByteArray) : List S79 × Int × ByteArray × Int :=
  if (text.size : Int) > 65536 then (l, c, ⟨#[]⟩, 2)
  else if name.toList = ([] : List UInt8) then (trimN (⟨bufName (nextN l c), text, true⟩ :: l) m, nextN l c + 1, bufName (nextN l c), 0)
  else if wordN name = true then
    (if 0 ≤ atN l name then (⟨name, text, (rd_T79 l (atN l name)).f2⟩ :: l.eraseIdx (atN l name).toNat, c, name, 0)
     else if 20 ≤ countN l false then (l, c, ⟨#[]⟩, 3) else (⟨name, text, false⟩ :: l, c, name, 0))
  else (l, c, ⟨#[]⟩, 73)

theorem size_lit (a : Array UInt8) : (⟨a⟩ : ByteArray).size = a.size := rfl
theorem set_auto (text : ByteArray) (l : List S79) (m : Int) (hl : l.length ≤ 900) (hm : 0 ≤ m) : ∀ (n : Nat) (c : Int), 0 ≤ c → c + n ≤ 4000000000000 → (∃ j : Nat, j < n ∧ atN l (bufName (c + j)) < 0) →
    Ev (fun k => mullionref24_Set.l0 k text l m c) (trimN (⟨bufName (nextF n l c), text, true⟩ :: l) m, m, nextF n l c + 1, bufName (nextF n l c), 0) := by
  intro n
  induction n with
  | zero => intro c _ _ ⟨j, h, _⟩; omega
  | succ n ih =>
    intro c hc hcn ⟨j, hj, hf⟩
    have hput := put_ev c.toNat (by omega)
    have ec : ((c.toNat : Nat) : Int) = c := by omega
    rw [ec] at hput
    have hsz := put_len c.toNat (by omega)
    have hsz2 : 6 + (⟨(Lib.decDigits c.toNat).toArray⟩ : ByteArray).size ≤ 9223372036854775807 := by rw [size_lit]; simp; omega
    have hat := at79_ev (bufName c) m c l (by omega)
    by_cases h : 0 ≤ atN l (bufName c)
    · have := ih (c + 1) (by omega) (by omega) ⟨j - 1, by
        cases j with
        | zero => simp at hf; omega
        | succ j => omega, by
        cases j with
        | zero => simp at hf; omega
        | succ j =>
          have e : c + 1 + ((j + 1 - 1 : Nat) : Int) = c + ((j + 1 : Nat) : Int) := by omega
          rw [e]
          exact hf⟩
      have e : nextF (n + 1) l c = nextF n l (c + 1) := by simp only [nextF]; rw [if_pos h]
      rw [e]
      refine Ev.step (f := fun k => (mullionref01_PutNumber.f k c).bind fun t171 => (if 6 + t171.size ≤ 9223372036854775807 then ((mullionref24_at.f k l m c ((⟨#[98, 117, 102, 102, 101, 114]⟩ : ByteArray) ++ t171)).bind fun t172 => (if t172 ≥ 0 then (mullionref24_Set.l0 k text l m (wrap64 (c + 1))) else ((mullionref01_PutNumber.f k c).bind fun t173 => (if 6 + t173.size ≤ 9223372036854775807 then ((mullionref24_ahead.f l m (wrap64 (c + 1)) ((⟨#[98, 117, 102, 102, 101, 114]⟩ : ByteArray) ++ t173) text true).bind fun bt174 => ((mullionref24_trimmed.f k bt174.1 bt174.2.1 bt174.2.2).bind fun bt179 => (some (bt179.1, bt179.2.1, bt179.2.2, (⟨#[98, 117, 102, 102, 101, 114]⟩ : ByteArray) ++ t173, 0)))) else (none))))) else (none))) (fun k => by simp only [mullionref24_Set.l0]) ?_
      refine Ev.bind hput (Ev.congr (fun k => if_pos hsz2) (Ev.bind hat (Ev.congr (fun k => if_pos (show atN l (bufName c) ≥ 0 from h)) ?_)))
      rw [wrap_in (by omega) (by omega)]
      exact this
    · have e : nextF (n + 1) l c = c := by simp only [nextF]; rw [if_neg h]
      rw [e]
      refine Ev.step (f := fun k => (mullionref01_PutNumber.f k c).bind fun t171 => (if 6 + t171.size ≤ 9223372036854775807 then ((mullionref24_at.f k l m c ((⟨#[98, 117, 102, 102, 101, 114]⟩ : ByteArray) ++ t171)).bind fun t172 => (if t172 ≥ 0 then (mullionref24_Set.l0 k text l m (wrap64 (c + 1))) else ((mullionref01_PutNumber.f k c).bind fun t173 => (if 6 + t173.size ≤ 9223372036854775807 then ((mullionref24_ahead.f l m (wrap64 (c + 1)) ((⟨#[98, 117, 102, 102, 101, 114]⟩ : ByteArray) ++ t173) text true).bind fun bt174 => ((mullionref24_trimmed.f k bt174.1 bt174.2.1 bt174.2.2).bind fun bt179 => (some (bt179.1, bt179.2.1, bt179.2.2, (⟨#[98, 117, 102, 102, 101, 114]⟩ : ByteArray) ++ t173, 0)))) else (none))))) else (none))) (fun k => by simp only [mullionref24_Set.l0]) ?_
      refine Ev.bind hput (Ev.congr (fun k => if_pos hsz2) (Ev.bind hat (Ev.congr (fun k => if_neg (show ¬ atN l (bufName c) ≥ 0 from h)) (Ev.bind hput (Ev.congr (fun k => if_pos hsz2) ?_)))))
      rw [wrap_in (by omega) (by omega), ahead_is ⟨_, text, true⟩ m (c + 1) l (by omega)]
      simp only [Option.bind_some]
      exact Ev.bind (trim_ev m (c + 1) _ (by simp; omega) hm) (Ev.now _)

theorem set_ev (name text : ByteArray) (m c : Int) (l : List S79) (hl : l.length ≤ 900) (hm : 0 ≤ m) (hc : 0 ≤ c) (hc2 : c ≤ 3000000000000) (hs : name.size ≤ 4611686018427387904) :
    Ev (fun k => mullionref24_Set.f k l m c name text) ((setN l c m name text).1, m, (setN l c m name text).2.1, (setN l c m name text).2.2.1, (setN l c m name text).2.2.2) := by
  unfold mullionref24_Set.f setN
  by_cases h1 : (text.size : Int) > 65536
  · rw [if_pos h1]
    exact Ev.congr (fun k => if_pos h1) (Ev.now _)
  · rw [if_neg h1]
    refine Ev.congr (fun k => if_neg h1) ?_
    by_cases h2 : name.toList = ([] : List UInt8)
    · refine Ev.congr (fun k => if_pos h2) ?_
      rw [if_pos h2]
      exact set_auto text l m hl hm (l.length + 1) c hc (by omega) (free_name l c hc)
    · refine Ev.congr (fun k => if_neg h2) ?_
      rw [if_neg h2]
      refine Ev.bind (word_ev name hs).2 ?_
      by_cases h3 : wordN name = true
      · refine Ev.congr (fun k => if_pos h3) ?_
        rw [if_pos h3]
        refine Ev.bind (at79_ev name m c l (by omega)) ?_
        have hr := atN_range l name
        by_cases h4 : 0 ≤ atN l name
        · refine Ev.congr (fun k => if_pos (show atN l name ≥ 0 from h4)) ?_
          rw [if_pos h4]
          refine Ev.congr (fun k => if_pos h4) (Ev.congr (fun k => if_pos hr.2) ?_)
          have hw := without_ev (atN l name).toNat m c l (by omega) (by omega)
          have e : (((atN l name).toNat : Nat) : Int) = atN l name := by omega
          rw [e] at hw
          refine Ev.bind hw ?_
          have hle : (l.eraseIdx (atN l name).toNat).length ≤ l.length := by rw [List.length_eraseIdx]; split <;> omega
          have ha := ahead_is ⟨(rd_T79 l (atN l name)).f0, text, (rd_T79 l (atN l name)).f2⟩ m c (l.eraseIdx (atN l name).toNat) (by omega)
          rw [ha, atN_some l name h4]
          exact Ev.now _
        · refine Ev.congr (fun k => if_neg (show ¬ atN l name ≥ 0 from h4)) ?_
          rw [if_neg h4]
          refine Ev.bind (count79_ev false m c l (by omega)) ?_
          by_cases h5 : 20 ≤ countN l false
          · rw [if_pos (show countN l false ≥ 20 from h5), if_pos h5]
            exact Ev.now _
          · rw [if_neg (show ¬ countN l false ≥ 20 from h5), if_neg h5, ahead_is ⟨name, text, false⟩ m c l (by omega)]
            exact Ev.now _
      · rw [if_neg h3]
        exact Ev.congr (fun k => if_neg h3) (Ev.now _)

noncomputable def renameN (l : List S79) (name nu : ByteArray) : List S79 × Int :=
  if meantN l name < 0 then (l, 240)
  else if wordN nu = true then
    (if 0 ≤ atN l nu ∧ atN l nu ≠ meantN l name then (l, 74)
     else if (rd_T79 l (meantN l name)).f2 = true ∧ 20 ≤ countN l false then (l, 3)
     else (l.set (meantN l name).toNat ⟨nu, (rd_T79 l (meantN l name)).f1, false⟩, 0))
  else (l, 73)
theorem rd_set (l : List S79) (i : Nat) (x : S79) (h : i < l.length) : rd_T79 (l.set i x) (i : Int) = x := by
  unfold rd_T79
  rw [List.getD_eq_getElem?_getD]
  simp [h]
theorem rename_j0 (nu : ByteArray) (m c : Int) (l : List S79) (hl : l.length ≤ 1000) (i : Nat) (hi : i < l.length) :
    Ev (fun k => mullionref24_Rename.j0 k nu i false l m c) (if (rd_T79 l i).f2 = true ∧ 20 ≤ countN l false then (l, m, c, 3) else (l.set i ⟨nu, (rd_T79 l i).f1, false⟩, m, c, 0)) := by
  have hset : (((l.set i (⟨nu, (rd_T79 l i).f1, (rd_T79 l i).f2⟩ : S79))).set i (⟨(rd_T79 (l.set i (⟨nu, (rd_T79 l i).f1, (rd_T79 l i).f2⟩ : S79)) i).f0, (rd_T79 (l.set i (⟨nu, (rd_T79 l i).f1, (rd_T79 l i).f2⟩ : S79)) i).f1, false⟩ : S79)) = l.set i ⟨nu, (rd_T79 l i).f1, false⟩ := by
    rw [rd_set l i _ hi, List.set_set]
  by_cases h2 : (rd_T79 l i).f2 = true
  · refine Ev.step (f := fun k => (mullionref24_count.f k l m c false).bind fun t230 => (if t230 ≥ 20 then (some (l, m, c, 3)) else ((some (([] : List (S79)) : List (S79))).bind fun y231 => (if y231.length + l.length < 3518437208883 then ((some (y231 ++ l : List (S79))).bind fun y234 => (if (i : Int) < (y234.length : Int) then ((some (y234.set (i : Int).toNat (⟨nu, (rd_T79 y234 i).f1, (rd_T79 y234 i).f2⟩ : S79) : List (S79))).bind fun y237 => (some ((y237.set (i : Int).toNat (⟨(rd_T79 y237 i).f0, (rd_T79 y237 i).f1, false⟩ : S79)), m, c, 0))) else (none))) else (none))))) (fun k => ?_) ?_
    · simp only [mullionref24_Rename.j0]
      rw [if_neg (by decide), if_pos (by omega), if_pos (by omega), if_pos h2]
    · refine Ev.bind (count79_ev false m c l hl) ?_
      by_cases h3 : 20 ≤ countN l false
      · rw [if_pos (show countN l false ≥ 20 from h3), if_pos ⟨h2, h3⟩]
        exact Ev.now _
      · rw [if_neg (show ¬ countN l false ≥ 20 from h3), if_neg (fun h => h3 h.2)]
        simp only [Option.bind_some, List.nil_append, Int.toNat_natCast]
        rw [if_pos (by simp; omega), if_pos (by omega), hset]
        exact Ev.now _
  · refine Ev.step (f := fun k => ((some (([] : List (S79)) : List (S79))).bind fun y231 => (if y231.length + l.length < 3518437208883 then ((some (y231 ++ l : List (S79))).bind fun y234 => (if (i : Int) < (y234.length : Int) then ((some (y234.set (i : Int).toNat (⟨nu, (rd_T79 y234 i).f1, (rd_T79 y234 i).f2⟩ : S79) : List (S79))).bind fun y237 => (some ((y237.set (i : Int).toNat (⟨(rd_T79 y237 i).f0, (rd_T79 y237 i).f1, false⟩ : S79)), m, c, 0))) else (none))) else (none)))) (fun k => ?_) ?_
    · simp only [mullionref24_Rename.j0]
      rw [if_neg (by decide), if_pos (by omega), if_pos (by omega), if_neg h2]
    · rw [if_neg (fun h => h2 h.1)]
      simp only [Option.bind_some, List.nil_append, Int.toNat_natCast]
      rw [if_pos (by simp; omega), if_pos (by omega), hset]
      exact Ev.now _
theorem rename_ev (name nu : ByteArray) (m c : Int) (l : List S79) (hl : l.length ≤ 1000) (hs : nu.size ≤ 4611686018427387904) :
    Ev (fun k => mullionref24_Rename.f k l m c name nu) ((renameN l name nu).1, m, c, (renameN l name nu).2) := by
  unfold mullionref24_Rename.f renameN
  refine Ev.bind (meant79_ev name m c l hl) ?_
  have hr := meantN_range l name
  by_cases h : meantN l name < 0
  · rw [if_pos h]
    exact Ev.congr (fun k => if_pos h) (Ev.now _)
  · rw [if_neg h]
    refine Ev.congr (fun k => if_neg h) (Ev.bind (word_ev nu hs).2 ?_)
    have e : (((meantN l name).toNat : Nat) : Int) = meantN l name := by omega
    have hj := rename_j0 nu m c l hl (meantN l name).toNat (by omega)
    rw [e] at hj
    by_cases h3 : wordN nu = true
    · rw [if_pos h3]
      refine Ev.congr (fun k => if_pos h3) (Ev.bind (at79_ev nu m c l hl) ?_)
      have hj2 : Ev (fun k => mullionref24_Rename.j0 k nu (meantN l name) false l m c) ((if (rd_T79 l (meantN l name)).f2 = true ∧ 20 ≤ countN l false then (l, (3 : Int)) else (l.set (meantN l name).toNat ⟨nu, (rd_T79 l (meantN l name)).f1, false⟩, 0)).1, m, c, (if (rd_T79 l (meantN l name)).f2 = true ∧ 20 ≤ countN l false then (l, (3 : Int)) else (l.set (meantN l name).toNat ⟨nu, (rd_T79 l (meantN l name)).f1, false⟩, 0)).2) := by
        by_cases hq : (rd_T79 l (meantN l name)).f2 = true ∧ 20 ≤ countN l false
        · rw [if_pos hq] at hj
          simp only [if_pos hq]
          exact hj
        · rw [if_neg hq] at hj
          simp only [if_neg hq]
          exact hj
      by_cases h4 : 0 ≤ atN l nu
      · refine Ev.congr (fun k => if_pos (show atN l nu ≥ 0 from h4)) (Ev.bind (at79_ev nu m c l hl) ?_)
        by_cases h5 : atN l nu = meantN l name
        · rw [if_neg (fun h => h.2 h5)]
          have e2 : (atN l nu != meantN l name) = false := by simp [h5]
          rw [e2]
          exact hj2
        · rw [if_pos ⟨h4, h5⟩]
          have e2 : (atN l nu != meantN l name) = true := by simp [h5]
          rw [e2]
          refine Ev.step (f := fun _ => some (l, m, c, 74)) (fun k => ?_) (Ev.now _)
          simp only [mullionref24_Rename.j0]
          rfl
      · rw [if_neg (fun h => h4 h.1)]
        exact Ev.congr (fun k => if_neg (show ¬ atN l nu ≥ 0 from h4)) hj2
    · rw [if_neg h3]
      exact Ev.congr (fun k => if_neg h3) (Ev.now _)

end Go.Proofs.YtjkmmfjlladlfaaDoor.Hand
