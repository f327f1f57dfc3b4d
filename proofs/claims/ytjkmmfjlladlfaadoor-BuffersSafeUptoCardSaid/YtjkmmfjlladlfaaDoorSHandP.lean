/- What the document's Paste comes to: the last mark taken out (where there are brackets), each line end exchanged, the marks around it. Conditions: the texts are no longer than 2^40 bytes together with what is put between. -/
import Derived.Test.YtjkmmfjlladlfaaDoorSPPasx4
import Derived.Test.YtjkmmfjlladlfaaDoorSHandG
import Derived.Test.YtjkmmfjlladlfaaDoorSRep
namespace Go.Proofs.YtjkmmfjlladlfaaDoor.Hand
set_option linter.unusedVariables false
set_option linter.unusedSimpArgs false
open Go.RowKit Go.Proofs.YtjkmmfjlladlfaaDoor.PPas Go.Proofs.YtjkmmfjlladlfaaDoor.Rep Go.Proofs.YtjkmmfjlladlfaaDoor.Given Go.Proofs.YtjkmmfjlladlfaaDoorW.PrintWords Go.Proofs.YtjkmmfjlladlfaaDoorW.PrintLast

/-- A text of bytes. -/
def ofL (l : List UInt8) : ByteArray := ⟨l.toArray⟩
theorem ofL_size (l : List UInt8) : (ofL l).size = l.length := by simp [ofL, ByteArray.size]
theorem ofL_append (a b : List UInt8) : ofL a ++ ofL b = ofL (a ++ b) := by
  apply ByteArray.ext
  simp [ofL]
theorem ofL_list (s : ByteArray) : ofL s.data.toList = s := by
  apply ByteArray.ext
  simp [ofL]
theorem ofL_toList (l : List UInt8) : (ofL l).toList = l := by rw [ByteArray.toList_eq]; simp [ofL]
theorem ofL_data (l : List UInt8) : (ofL l).data.toList = l := by simp [ofL]
theorem ofL_extract (l : List UInt8) (i j : Nat) : (ofL l).extract i j = ofL ((l.drop i).take (j - i)) := by
  apply ByteArray.ext
  simp [ofL, List.extract_eq_take_drop]

def endL : List UInt8 := [27, 91, 50, 48, 49, 126]
def startL : List UInt8 := [27, 91, 50, 48, 48, 126]
def pasteN (text between : List UInt8) (bracket : Bool) : List UInt8 :=
  if bracket then startL ++ each 10 between (rep endL [] text.length text) ++ endL else each 10 between text

theorem take_one (pre r : List UInt8) (x : UInt8) (k : Nat) (hk : k = pre.length + 1) : ((pre ++ x :: r).drop pre.length).take (k - pre.length) = [x] := by
  subst hk
  simp
theorem bt_at (pre r : List UInt8) (x : UInt8) : bt (ofL (pre ++ x :: r)) (pre.length : Nat) = x.toNat := by
  obtain ⟨y, hd, hb⟩ := bt_get (ofL (pre ++ x :: r)) pre.length (by rw [ofL_size]; simp)
  rw [ofL_data] at hd
  simp only [List.drop_left] at hd
  injection hd with e _
  rw [hb, e]

theorem paste_l1 (between : List UInt8) (br : Bool) (x7 : ByteArray) (hx7 : x7 = ofL endL) : ∀ (r pre acc : List UInt8), (pre ++ r).length ≤ 4611686018427387904 → acc.length + (each 10 between r).length ≤ 4611686018427387904 →
    Ev (fun k => mullionref24_Paste.l1 k (ofL (pre ++ r)) (ofL between) br x7 (ofL acc) (pre.length : Nat)) (ofL (if br then startL ++ (acc ++ each 10 between r) ++ endL else acc ++ each 10 between r)) := by
  intro r
  induction r with
  | nil =>
    intro pre acc hp ha
    simp only [each, List.flatMap_nil, List.length_nil, Nat.add_zero] at ha ⊢
    subst hx7
    refine Ev.step (f := fun _ => some (ofL (if br then startL ++ (acc ++ []) ++ endL else acc ++ []))) (fun k => ?_) (Ev.now _)
    simp only [mullionref24_Paste.l1]
    rw [if_neg (by rw [ofL_size]; simp)]
    cases br with
    | true =>
      rw [if_pos rfl, if_pos (by rw [ofL_size]; omega), if_pos (by rw [show (⟨#[27, 91, 50, 48, 48, 126]⟩ : ByteArray) = ofL startL from rfl, ofL_append, ofL_size, ofL_size, List.length_append]; simp only [startL, endL, List.length_cons, List.length_nil]; omega)]
      rw [show (⟨#[27, 91, 50, 48, 48, 126]⟩ : ByteArray) = ofL startL from rfl, ofL_append, ofL_append, if_pos rfl, List.append_nil]
    | false =>
      rw [if_neg (by simp), if_neg (by simp), List.append_nil]
  | cons x r ih =>
    intro pre acc hp ha
    have hlt : ((pre.length : Nat) : Int) < ((ofL (pre ++ x :: r)).size : Int) := by rw [ofL_size]; simp; omega
    have hpl : pre.length + 1 ≤ (pre ++ x :: r).length := by simp
    have hw : wrap64 ((pre.length : Int) + 1) = ((pre.length + 1 : Nat) : Int) := by unfold wrap64; omega
    have hih := fun acc2 h2 => ih (pre ++ [x]) acc2 (by simpa using hp) h2
    have e1 : pre ++ [x] ++ r = pre ++ x :: r := by simp
    have e2 : (pre ++ [x]).length = pre.length + 1 := by simp
    rw [e1, e2] at hih
    have hea : each 10 between (x :: r) = (if x = 10 then between else [x]) ++ each 10 between r := List.flatMap_cons
    rw [hea] at ha ⊢
    by_cases hx : x = 10
    · rw [if_pos hx] at ha ⊢
      simp only [List.length_append] at ha
      refine Ev.step (f := fun k => mullionref24_Paste.l1 k (ofL (pre ++ x :: r)) (ofL between) br x7 (ofL (acc ++ between)) ((pre.length + 1 : Nat) : Int)) (fun k => ?_) ?_
      · simp only [mullionref24_Paste.l1]
        rw [if_pos hlt, if_pos (by omega), bt_at, if_pos (by rw [hx]; rfl), if_pos (by rw [ofL_size, ofL_size]; omega), ofL_append, hw]
      · have := hih (acc ++ between) (by rw [List.length_append]; omega)
        rw [List.append_assoc acc] at this
        exact this
    · rw [if_neg hx] at ha ⊢
      simp only [List.length_append, List.length_cons, List.length_nil] at ha
      refine Ev.step (f := fun k => mullionref24_Paste.l1 k (ofL (pre ++ x :: r)) (ofL between) br x7 (ofL (acc ++ [x])) ((pre.length + 1 : Nat) : Int)) (fun k => ?_) ?_
      · simp only [mullionref24_Paste.l1]
        have hne : ¬ ((x.toNat : Nat) : Int) = 10 := fun q => hx (by
          apply UInt8.toNat_inj.1
          have : x.toNat = 10 := by omega
          rw [this]; rfl)
        rw [if_pos hlt, if_pos (by omega), bt_at, if_neg hne, hw, if_pos (by omega), if_pos (by rw [ofL_size]; omega)]
        rw [show ((pre.length : Nat) : Int).toNat = pre.length by omega, show ((pre.length + 1 : Nat) : Int).toNat = pre.length + 1 by omega, ofL_extract, take_one pre r x _ rfl, if_pos (by rw [ofL_size, ofL_size]; simp only [List.length_cons, List.length_nil]; omega), ofL_append]
      · have := hih (acc ++ [x]) (by rw [List.length_append]; simp only [List.length_cons, List.length_nil]; omega)
        rw [List.append_assoc acc] at this
        exact this

theorem prefix_take (old l : List UInt8) : old.isPrefixOf l = true ↔ l.take old.length = old := by
  rw [List.isPrefixOf_iff_prefix, List.prefix_iff_eq_take]
  exact ⟨fun h => h.symm, fun h => h.symm⟩

theorem paste_l0 (between : List UInt8) (br : Bool) (out : ByteArray) : ∀ (n : Nat) (r pre acc : List UInt8), r.length ≤ n → (pre ++ r).length ≤ 4611686018427387904 → acc.length + r.length ≤ 4611686018427387904 →
    Ev (fun k => mullionref24_Paste.j1 k (ofL (acc ++ rep endL [] n r)) (ofL between) br (ofL endL)) out →
    Ev (fun k => mullionref24_Paste.l0 k (ofL (pre ++ r)) (ofL between) br (ofL endL) (ofL acc) (pre.length : Nat)) out := by
  intro n
  induction n with
  | zero =>
    intro r pre acc hn hp ha hj
    obtain rfl : r = [] := List.length_eq_zero_iff.1 (by omega)
    simp only [rep, List.append_nil] at hj
    refine Ev.step (f := fun k => mullionref24_Paste.j1 k (ofL acc) (ofL between) br (ofL endL)) (fun k => ?_) hj
    simp only [mullionref24_Paste.l0]
    rw [if_neg (by rw [ofL_size]; simp)]
  | succ n ih =>
    intro r pre acc hn hp ha hj
    cases r with
    | nil =>
      simp only [rep, List.append_nil] at hj
      refine Ev.step (f := fun k => mullionref24_Paste.j1 k (ofL acc) (ofL between) br (ofL endL)) (fun k => ?_) hj
      simp only [mullionref24_Paste.l0]
      rw [if_neg (by rw [ofL_size]; simp)]
    | cons x r =>
      simp only [List.length_append, List.length_cons] at hn hp ha
      have hlt : ((pre.length : Nat) : Int) < ((ofL (pre ++ x :: r)).size : Int) := by rw [ofL_size]; simp; omega
      have hsz : (ofL (pre ++ x :: r)).size = pre.length + (r.length + 1) := by rw [ofL_size]; simp
      have he6 : (ofL endL).size = 6 := by rw [ofL_size]; rfl
      have hw6 : wrap64 ((pre.length : Int) + ((ofL endL).size : Int)) = ((pre.length + 6 : Nat) : Int) := by rw [he6]; unfold wrap64; omega
      have hw1 : wrap64 ((pre.length : Int) + 1) = ((pre.length + 1 : Nat) : Int) := by unfold wrap64; omega
      -- the step of one byte
      have hone : endL.isPrefixOf (x :: r) ≠ true → Ev (fun k => mullionref24_Paste.l0 k (ofL (pre ++ x :: r)) (ofL between) br (ofL endL) (ofL (acc ++ [x])) ((pre.length + 1 : Nat) : Int)) out := by
        intro hnp
        simp only [rep] at hj
        rw [if_neg hnp] at hj
        have := ih r (pre ++ [x]) (acc ++ [x]) (by omega) (by simp; omega) (by simp; omega) (by simpa using hj)
        simpa using this
      by_cases hp6 : pre.length + 6 ≤ pre.length + (r.length + 1)
      · have hex : ((ofL (pre ++ x :: r)).extract ((pre.length : Nat) : Int).toNat ((pre.length + 6 : Nat) : Int).toNat).toList = (x :: r).take 6 := by
          rw [show ((pre.length : Nat) : Int).toNat = pre.length by omega, show ((pre.length + 6 : Nat) : Int).toNat = pre.length + 6 by omega, ofL_extract, ofL_toList]
          simp
        by_cases hpf : endL.isPrefixOf (x :: r) = true
        · simp only [rep] at hj
          rw [if_pos hpf, List.nil_append] at hj
          have ht := (prefix_take endL (x :: r)).1 hpf
          refine Ev.step (f := fun k => mullionref24_Paste.l0 k (ofL (pre ++ x :: r)) (ofL between) br (ofL endL) (ofL acc) ((pre.length + 6 : Nat) : Int)) (fun k => ?_) ?_
          · simp only [mullionref24_Paste.l0]
            rw [hw6, if_pos hlt, if_pos (by rw [hsz]; omega), if_pos (by omega), if_pos (by omega), if_pos (by rw [hex, ofL_toList]; exact ht)]
            congr 1
            unfold wrap64
            omega
          · have hd : (x :: r).take 6 ++ (x :: r).drop 6 = x :: r := List.take_append_drop 6 _
            have hl6 : ((x :: r).take 6).length = 6 := by rw [List.length_take]; simp only [List.length_cons]; omega
            have := ih ((x :: r).drop 6) (pre ++ (x :: r).take 6) acc (by simp only [List.length_drop, List.length_cons]; omega) (by rw [List.append_assoc, hd]; simp only [List.length_append, List.length_cons]; omega) (by simp only [List.length_drop, List.length_cons]; omega) hj
            rw [List.append_assoc, hd, List.length_append, hl6] at this
            exact this
        · refine Ev.step (f := fun k => mullionref24_Paste.l0 k (ofL (pre ++ x :: r)) (ofL between) br (ofL endL) (ofL (acc ++ [x])) ((pre.length + 1 : Nat) : Int)) (fun k => ?_) (hone hpf)
          simp only [mullionref24_Paste.l0]
          rw [hw6, hw1, if_pos hlt, if_pos (by rw [hsz]; omega), if_pos (by omega), if_pos (by omega), if_neg (by rw [hex, ofL_toList]; exact fun q => hpf ((prefix_take endL (x :: r)).2 q)), if_pos (by omega), if_pos (by rw [hsz]; omega)]
          rw [show ((pre.length : Nat) : Int).toNat = pre.length by omega, show ((pre.length + 1 : Nat) : Int).toNat = pre.length + 1 by omega, ofL_extract, take_one pre r x _ rfl, if_pos (by rw [ofL_size, ofL_size]; simp only [List.length_cons, List.length_nil]; omega), ofL_append]
      · have hpf : ¬ endL.isPrefixOf (x :: r) = true := fun q => by
          have := congrArg List.length ((prefix_take endL (x :: r)).1 q)
          rw [List.length_take] at this
          simp only [List.length_cons, endL, List.length_nil] at this
          omega
        refine Ev.step (f := fun k => mullionref24_Paste.l0 k (ofL (pre ++ x :: r)) (ofL between) br (ofL endL) (ofL (acc ++ [x])) ((pre.length + 1 : Nat) : Int)) (fun k => ?_) (hone hpf)
        simp only [mullionref24_Paste.l0]
        rw [hw6, hw1, if_pos hlt, if_neg (by rw [hsz]; omega), if_pos (by omega), if_pos (by omega), if_pos (by rw [hsz]; omega)]
        rw [show ((pre.length : Nat) : Int).toNat = pre.length by omega, show ((pre.length + 1 : Nat) : Int).toNat = pre.length + 1 by omega, ofL_extract, take_one pre r x _ rfl, if_pos (by rw [ofL_size, ofL_size]; simp only [List.length_cons, List.length_nil]; omega), ofL_append]

theorem rep_length (old : List UInt8) : ∀ (n : Nat) (l : List UInt8), (rep old [] n l).length ≤ l.length
  | 0, l => Nat.le_refl _
  | n + 1, [] => Nat.le_refl _
  | n + 1, b :: l => by
    simp only [rep]
    split
    · have := rep_length old n ((b :: l).drop old.length)
      simp only [List.nil_append, List.length_drop, List.length_cons] at this ⊢
      omega
    · have := rep_length old n l
      simp only [List.length_cons]
      omega
theorem each_le (c : UInt8) (new s : List UInt8) : (each c new s).length ≤ s.length + s.length * new.length := by
  have h := each_length c new s
  have : s.count c * new.length ≤ s.length * new.length := Nat.mul_le_mul_right _ h.2
  omega
theorem paste_ev (text between : List UInt8) (br : Bool) (ht : text.length ≤ 1048576) (hb : between.length ≤ 1048576) :
    Ev (fun k => mullionref24_Paste.f k (ofL text) (ofL between) br) (ofL (pasteN text between br)) := by
  have hj : ∀ t : List UInt8, t.length ≤ 1048576 → ∀ br, Ev (fun k => mullionref24_Paste.j1 k (ofL t) (ofL between) br (ofL endL)) (ofL (if br then startL ++ each 10 between t ++ endL else each 10 between t)) := by
    intro t ht br
    refine Ev.step (f := fun k => mullionref24_Paste.l1 k (ofL t) (ofL between) br (ofL endL) (ofL []) ((([] : List UInt8).length : Nat) : Int)) (fun k => by simp only [mullionref24_Paste.j1]; rfl) ?_
    have hm : t.length * between.length ≤ 1048576 * 1048576 := Nat.mul_le_mul ht hb
    have hl := each_le 10 between t
    have := paste_l1 between br (ofL endL) rfl t [] [] (by simp only [List.nil_append]; omega) (by simp only [List.length_nil]; omega)
    simpa using this
  unfold mullionref24_Paste.f pasteN
  cases br with
  | true =>
    refine Ev.congr (fun k => if_pos rfl) ?_
    have := paste_l0 between true (ofL (startL ++ each 10 between (rep endL [] text.length text) ++ endL)) text.length text [] [] (Nat.le_refl _) (by simp only [List.nil_append]; omega) (by simp only [List.length_nil]; omega) (by
      have := hj (rep endL [] text.length text) (by have := rep_length endL text.length text; omega) true
      simpa using this)
    exact this
  | false =>
    refine Ev.congr (fun k => if_neg (by simp)) ?_
    have := hj text ht false
    exact this
end Go.Proofs.YtjkmmfjlladlfaaDoor.Hand
