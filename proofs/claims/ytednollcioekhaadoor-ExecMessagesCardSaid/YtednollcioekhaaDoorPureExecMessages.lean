/- ExecMessages, the plain law: what the program's Message answers and what the document's answers are one text, for every number and every text. No condition but the sizes that every argument has. -/
import Derived.Test.YtednollcioekhaaDoorPExecx2
namespace Go.Proofs.YtednollcioekhaaDoor.Pure
open Go.RowKit Go.Proofs.YtednollcioekhaaDoor.PExec Go.Proofs.YtednollcioekhaaDoor.Given Go.Proofs.YtednollcioekhaaDoorW.PrintWords Go.Proofs.YtednollcioekhaaDoorW.PrintLast

theorem wrap_small {i : Int} (h0 : -9223372036854775808 ≤ i) (h1 : i ≤ 9223372036854775807) : wrap64 i = i := by
  unfold wrap64
  omega

/-- A digit, written. -/
theorem digit_str (n : Nat) (h : n < 10) : strOfNums [(wrap64 (48 + (n : Int))) % 256] = ⟨#[UInt8.ofNat (48 + n)]⟩ := by
  rw [wrap_small (by omega) (by omega)]
  have e : (48 + (n : Int)) % 256 = ((48 + n : Nat) : Int) := by omega
  rw [e]
  show (⟨#[UInt8.ofNat (((48 + n : Nat) : Int)).toNat]⟩ : ByteArray) = _
  rw [Int.toNat_natCast]

theorem nDigits_le (k : Nat) : ∀ u : Nat, u < 10 ^ (k + 1) → Lib.nDigits u ≤ k + 1 := by
  induction k with
  | zero => intro u h; rw [Lib.nDigits_small (by simpa using h)]; omega
  | succ k ih =>
    intro u h
    by_cases hs : u < 10
    · rw [Lib.nDigits_small hs]; omega
    · rw [Lib.nDigits_big hs]
      have := ih (u / 10) (by rw [Nat.pow_succ] at h; omega)
      omega
theorem put_len (n : Nat) (h : n ≤ 4611686018427387904) : (Lib.decDigits n).length ≤ 20 := by
  rw [Lib.decDigits_length]
  exact nDigits_le 19 n (by omega)

/-- The reference's PutNumber tells the decimal digits. -/
theorem put_ev (n : Nat) (h : n ≤ 4611686018427387904) : Ev (fun k => mullionref01_PutNumber.f k n) ⟨(Lib.decDigits n).toArray⟩ := by
  induction n using Nat.strongRecOn with
  | _ n ih =>
    refine Ev.step (f := fun k => mullionref01_PutNumber.j0 k n false) (fun k => ?_) (Ev.step (f := fun k => if (n : Int) < 10 then (some (strOfNums (([(wrap64 (48 + (n : Int))) % 256] : List Int)))) else ((mullionref01_PutNumber.f k (wrap64 (Int.tdiv n 10))).bind fun t116 => ((mullionref01_PutNumber.f k (Int.tmod n 10)).bind fun t117 => (if t116.size + t117.size ≤ 9223372036854775807 then (some (t116 ++ t117)) else (none))))) (fun k => ?_) ?_)
    · simp only [mullionref01_PutNumber.f]
      rw [if_neg (by omega), decide_eq_false (by omega)]
    · simp only [mullionref01_PutNumber.j0]
      rw [if_neg (by decide)]
    · by_cases hs : (n : Int) < 10
      · refine Ev.congr (fun k => if_pos hs) ?_
        have hn : n < 10 := by omega
        rw [digit_str n hn, Lib.decDigits_one hn]
        exact Ev.now _
      · refine Ev.congr (fun k => if_neg hs) ?_
        have e1 : wrap64 (Int.tdiv n 10) = ((n / 10 : Nat) : Int) := by
          rw [Int.tdiv_eq_ediv_of_nonneg (by omega), wrap_small (by omega) (by omega)]
          omega
        have e2 : Int.tmod n 10 = ((n % 10 : Nat) : Int) := by
          rw [Int.tmod_eq_emod_of_nonneg (by omega)]
          omega
        rw [e1, e2]
        refine Ev.bind (ih (n / 10) (by omega) (by omega)) (Ev.bind (ih (n % 10) (by omega) (by omega)) ?_)
        have l1 := put_len (n / 10) (by omega)
        have l2 := put_len (n % 10) (by omega)
        refine Ev.congr (fun k => if_pos ?_) ?_
        · show (Lib.decDigits (n / 10)).toArray.size + (Lib.decDigits (n % 10)).toArray.size ≤ _
          simp
          omega
        · have e3 : ((⟨(Lib.decDigits (n / 10)).toArray⟩ : ByteArray) ++ (⟨(Lib.decDigits (n % 10)).toArray⟩ : ByteArray)) = ⟨(Lib.decDigits n).toArray⟩ := by
            rw [Lib.decDigits_one (i := n % 10) (by omega)]
            conv => rhs; rw [Lib.decDigits, dif_neg (by omega)]
            apply ByteArray.ext
            simp
          rw [e3]
          exact Ev.now _

def told (s a1 : ByteArray) : ByteArray := if a1.toList = ([] : List UInt8) then s else (s ++ (⟨#[58, 32]⟩ : ByteArray)) ++ a1

theorem nil_toList : (⟨#[]⟩ : ByteArray).toList = ([] : List UInt8) := by rw [ByteArray.toList_eq]
theorem size_lit (a : Array UInt8) : (⟨a⟩ : ByteArray).size = a.size := rfl

theorem prog_msg {a0 : Int} {a1 s : ByteArray} (h : exec_words.f a0 = some s) (hs : s.size ≤ 100) (ha : a1.size ≤ 140737488351232) : exec_Message.f a0 a1 = some (told s a1) := by
  unfold exec_Message.f told
  rw [h]
  simp only [Option.bind_some]
  by_cases c : a1.toList = ([] : List UInt8)
  · rw [if_pos c, if_pos c]
  · rw [if_neg c, if_neg c, if_pos (by omega), if_pos]
    rw [ByteArray.size_append]
    have z : (⟨#[58, 32]⟩ : ByteArray).size = 2 := rfl
    omega

theorem ref_hit {a0 : Int} {a1 s : ByteArray} (h : Ev (fun k => mullionref13_phrase.f k a0) s) (hne : s.toList ≠ []) (hs : s.size ≤ 100) (ha : a1.size ≤ 140737488351232) :
    Ev (fun k => mullionref13_Message.f k a0 a1) (told s a1) := by
  unfold mullionref13_Message.f told
  refine Ev.bind h (Ev.congr (fun k => if_neg hne) ?_)
  by_cases c : a1.toList = ([] : List UInt8)
  · rw [if_pos c, if_pos c]
    exact Ev.now _
  · rw [if_neg c, if_neg c, if_pos (by omega), if_pos]
    · exact Ev.now _
    · rw [ByteArray.size_append]
      have z : (⟨#[58, 32]⟩ : ByteArray).size = 2 := rfl
      omega

theorem ref_none {a0 : Int} {a1 : ByteArray} (h : Ev (fun k => mullionref13_phrase.f k a0) ⟨#[]⟩) (hn : Ev (fun k => mullionref01_PutNumber.f k a0) ⟨#[]⟩) (ha : a1.size ≤ 140737488351232) :
    Ev (fun k => mullionref13_Message.f k a0 a1) (told ⟨#[101, 114, 114, 111, 114]⟩ a1) := by
  unfold mullionref13_Message.f told
  refine Ev.bind h (Ev.congr (fun k => if_pos nil_toList) (Ev.bind hn (Ev.congr (fun k => if_pos nil_toList) ?_)))
  by_cases c : a1.toList = ([] : List UInt8)
  · rw [if_pos c, if_pos c]
    exact Ev.now _
  · rw [if_neg c, if_neg c, if_pos (by omega), if_pos]
    · exact Ev.now _
    · rw [ByteArray.size_append, size_lit, size_lit]
      simp
      omega

theorem ref_num {a0 : Int} {a1 s : ByteArray} (h : Ev (fun k => mullionref13_phrase.f k a0) ⟨#[]⟩) (hn : Ev (fun k => mullionref01_PutNumber.f k a0) s) (hne : s.toList ≠ []) (hs : s.size ≤ 50) (ha : a1.size ≤ 140737488351232) :
    Ev (fun k => mullionref13_Message.f k a0 a1) (told ((⟨#[101, 114, 114, 111, 114, 32]⟩ : ByteArray) ++ s) a1) := by
  have e : ((⟨#[101, 114, 114, 111, 114]⟩ : ByteArray) ++ (⟨#[32]⟩ : ByteArray)) = (⟨#[101, 114, 114, 111, 114, 32]⟩ : ByteArray) := rfl
  unfold mullionref13_Message.f told
  rw [e]
  refine Ev.bind h (Ev.congr (fun k => if_pos nil_toList) (Ev.bind hn (Ev.congr (fun k => if_neg hne) ?_)))
  rw [if_pos (by omega), if_pos (by rw [size_lit]; simp; omega)]
  by_cases c : a1.toList = ([] : List UInt8)
  · rw [if_pos c, if_pos c]
    exact Ev.now _
  · rw [if_neg c, if_neg c, if_pos, if_pos]
    · exact Ev.now _
    · rw [ByteArray.size_append, ByteArray.size_append]
      have z : (⟨#[58, 32]⟩ : ByteArray).size = 2 := rfl
      have z2 : (⟨#[101, 114, 114, 111, 114, 32]⟩ : ByteArray).size = 6 := rfl
      omega
    · rw [ByteArray.size_append]
      have z2 : (⟨#[101, 114, 114, 111, 114, 32]⟩ : ByteArray).size = 6 := rfl
      omega

/-- The table's numbers. -/
def nums31 : List Int := [1, 2, 3, 40, 41, 42, 44, 45, 46, 47, 50, 51, 70, 71, 72, 73, 74, 75, 90, 91, 100, 101, 110, 111, 112, 120, 121, 122, 123, 124, 125]

theorem hit (a0 : Int) (hm : a0 ∈ nums31) : ∃ s, exec_words.f a0 = some s ∧ mullionref13_phrase.f 40 a0 = some s ∧ s.toList ≠ [] ∧ s.size ≤ 100 := by
  simp only [nums31, List.mem_cons, List.not_mem_nil, or_false] at hm
  rcases hm with rfl | rfl | rfl | rfl | rfl | rfl | rfl | rfl | rfl | rfl | rfl | rfl | rfl | rfl | rfl | rfl | rfl | rfl | rfl | rfl | rfl | rfl | rfl | rfl | rfl | rfl | rfl | rfl | rfl | rfl | rfl
  all_goals exact ⟨_, rfl, by decide +kernel, by decide +kernel, by decide +kernel⟩

theorem no_hit (a0 : Int) (T : List ByteArray) : ∀ (d : Nat) (L : List Int) (i : Int), 0 ≤ i → (L.length : Int) - i = d → i ≤ L.length → L.length ≤ 1000 → (∀ j : Nat, j < L.length → L.getD j 0 ≠ a0) →
    Ev (fun k => mullionref13_phrase.l0 k a0 L T i) ⟨#[]⟩ := by
  intro d
  induction d with
  | zero =>
    intro L i h0 hd hi hl hne
    exact Ev.step (fun k => by simp only [mullionref13_phrase.l0]; exact if_neg (by omega)) (Ev.now _)
  | succ d ih =>
    intro L i h0 hd hi hl hne
    refine Ev.step (f := fun k => mullionref13_phrase.l0 k a0 L T (wrap64 (i + 1))) (fun k => ?_) ?_
    · simp only [mullionref13_phrase.l0]
      rw [if_pos (by omega), if_pos h0, if_neg]
      exact hne i.toNat (by omega)
    · rw [wrap_small (by omega) (by omega)]
      exact ih L (i + 1) (by omega) (by omega) (by omega) hl hne

theorem phrase_none (a0 : Int) (hm : a0 ∉ nums31) : Ev (fun k => mullionref13_phrase.f k a0) ⟨#[]⟩ := by
  refine no_hit a0 _ 31 nums31 0 (by omega) (by decide) (by decide) (by decide) ?_
  intro j hj he
  apply hm
  rw [← he]
  rw [List.getD_eq_getElem?_getD, List.getElem?_eq_getElem hj]
  exact List.getElem_mem hj

theorem words_none (a0 : Int) (hm : a0 ∉ nums31) : exec_words.f a0 = ((octal_PutNumber.f a0).bind fun t102 => (if t102.toList = ([] : List UInt8) then (some (⟨#[101, 114, 114, 111, 114]⟩ : ByteArray)) else (if 6 + t102.size ≤ 9223372036854775807 then (some ((⟨#[101, 114, 114, 111, 114, 32]⟩ : ByteArray) ++ t102)) else (none)))) := by
  simp only [nums31, List.mem_cons, List.not_mem_nil, or_false, not_or] at hm
  obtain ⟨h1, h2, h3, h4, h5, h6, h7, h8, h9, h10, h11, h12, h13, h14, h15, h16, h17, h18, h19, h20, h21, h22, h23, h24, h25, h26, h27, h28, h29, h30, h31⟩ := hm
  unfold exec_words.f
  rw [if_neg h1, if_neg h2, if_neg h3, if_neg h4, if_neg h5, if_neg h6, if_neg h7, if_neg h8, if_neg h9, if_neg h10, if_neg h11, if_neg h12, if_neg h13, if_neg h14, if_neg h15, if_neg h16, if_neg h17, if_neg h18, if_neg h19, if_neg h20, if_neg h21, if_neg h22, if_neg h23, if_neg h24, if_neg h25, if_neg h26, if_neg h27, if_neg h28, if_neg h29, if_neg h30, if_neg h31]

/-- Message, the program's and the document's. -/
theorem msg (a0 : Int) (a1 : ByteArray) (w0 : -9223372036854775808 ≤ a0) (w1 : a0 ≤ 9223372036854775807) (ha : a1.size ≤ 140737488351232) :
    ∃ t, exec_Message.f a0 a1 = some t ∧ Ev (fun k => mullionref13_Message.f k a0 a1) t := by
  by_cases hm : a0 ∈ nums31
  · obtain ⟨s, h1, h2, h3, h4⟩ := hit a0 hm
    exact ⟨_, prog_msg h1 h4 ha, ref_hit (Ev.of (fun k => mullionref13_phrase.mono a0 k) h2) h3 h4 ha⟩
  · have hp := phrase_none a0 hm
    have hw := words_none a0 hm
    by_cases hn : a0 < 0 ∨ 4611686018427387904 < a0
    · have ho : octal_PutNumber.f a0 = some ⟨#[]⟩ := by
        unfold octal_PutNumber.f
        rcases hn with hn | hn
        · rw [if_pos hn]
        · rw [if_neg (by omega), if_pos hn]
      rw [ho] at hw
      have hr : Ev (fun k => mullionref01_PutNumber.f k a0) ⟨#[]⟩ := by
        refine Ev.step (f := fun k => mullionref01_PutNumber.j0 k a0 true) (fun k => ?_) (Ev.step (fun k => by simp only [mullionref01_PutNumber.j0]; rfl) (Ev.now _))
        simp only [mullionref01_PutNumber.f]
        rcases hn with hn | hn
        · rw [if_pos hn]
        · rw [if_neg (by omega), decide_eq_true hn]
      exact ⟨_, prog_msg (s := ⟨#[101, 114, 114, 111, 114]⟩) (hw.trans (if_pos nil_toList)) (by decide) ha, ref_none hp hr ha⟩
    · obtain ⟨n, rfl⟩ : ∃ n : Nat, a0 = n := ⟨a0.toNat, by omega⟩
      have hi : Lib.itoa (n : Int) = Lib.decDigits n := by
        unfold Lib.itoa
        rw [if_neg (by omega), Int.toNat_natCast]
      have ho : octal_PutNumber.f n = some ⟨(Lib.decDigits n).toArray⟩ := by
        unfold octal_PutNumber.f given_Itoa.f
        rw [if_neg (by omega), if_neg (by omega), if_pos w0, if_pos w1, hi]
        rfl
      have hl := put_len n (by omega)
      have hne : (Lib.decDigits n) ≠ [] := by
        intro he
        have := Lib.nDigits_pos n
        rw [← Lib.decDigits_length, he] at this
        simp at this
      have hne2 : (⟨(Lib.decDigits n).toArray⟩ : ByteArray).toList ≠ [] := by
        rw [ByteArray.toList_eq]
        simpa using hne
      have hsz : (⟨(Lib.decDigits n).toArray⟩ : ByteArray).size ≤ 20 := by
        rw [size_lit]
        simpa using hl
      rw [ho] at hw
      simp only [Option.bind_some] at hw
      rw [if_neg hne2, if_pos (by omega)] at hw
      refine ⟨_, prog_msg hw ?_ ha, ref_num hp (put_ev n (by omega)) hne2 (by omega) ha⟩
      rw [ByteArray.size_append, size_lit]
      simp only [List.size_toArray, List.length_cons, List.length_nil]
      omega

theorem last : (exec_Message.f 110 (⟨#[120]⟩ : ByteArray)) = some ⟨#[110, 111, 116, 32, 102, 111, 117, 110, 100, 58, 32, 120]⟩ := by
  decide +kernel

theorem ExecMessages : mullionlaw13_ExecMessages.Pure := by
  intro a0 a1 w0 ha
  have hb : -9223372036854775808 ≤ a0 ∧ a0 ≤ 9223372036854775807 := by
    have hmin : IntKind.i64.min = -9223372036854775808 := rfl
    have hmax : IntKind.i64.max = 9223372036854775807 := rfl
    simp only [Lit.wf, Bool.and_eq_true, decide_eq_true_eq] at w0
    omega
  obtain ⟨t, h1, h2⟩ := msg a0 a1 hb.1 hb.2 ha
  obtain ⟨k, h2⟩ := h2.rounds
  refine ⟨k, ?_⟩
  unfold mullionlaw13_ExecMessages.f
  rw [h1, h2, last]
  simp only [Option.bind_some, if_true]
  decide +kernel
end Go.Proofs.YtednollcioekhaaDoor.Pure
