/- Texts of this claim, put together by a program of this session (prune.py): LawU. -/
import Derived.Test.YtnblabfkkcohgaaGreatDoorQUDF
import Derived.Test.YtnblabfkkcohgaaGreatDoorQUDG
import Derived.Test.YtnblabfkkcohgaaGreatDoorQUCJ
section
/- WirePieces: what the law reckons is true. -/
namespace Go.Proofs.YtnblabfkkcohgaaGreatDoor.LawU
set_option linter.unusedVariables false
set_option linter.unusedSimpArgs false
open Go Go.Shelf Go.RowKit Go.Proofs.YtnblabfkkcohgaaGreatDoor.Wire Go.Proofs.YtnblabfkkcohgaaGreatDoor.LawG Go.Proofs.YtnblabfkkcohgaaGreatDoor.CutG Go.Proofs.YtnblabfkkcohgaaGreatDoor.Given Go.Proofs.YtnblabfkkcohgaaGreatDoor.LawP
open Go.Proofs.YtnblabfkkcohgaaGreatDoor.PWireOne (S28 k28 z28 rd_T28)
open Go.Proofs.YtnblabfkkcohgaaGreatDoor.PLwC
def toS (e : Evt) : S28 := ⟨e.kind, e.session, e.window, e.pane, e.index, e.offset, e.tick, e.number, e.flag, e.name, e.text, e.layout, e.visible, e.zoom⟩
theorem ev_toS (e : Evt) : evOf (toS e) = e := rfl
theorem events_loop : ∀ (n : Nat) (l : List UInt8) (acc : List S28), l.length ≤ n → l.length ≤ 1099511627776 → acc.length + l.length < 977343669134 → wire_Events.l0 (n + 1) (ofL l) acc = some (acc ++ (evsN l).1.map toS, ofL (evsN l).2) := by
  intro n
  induction n with
  | zero =>
    intro l acc hn hs ha
    obtain rfl : l = [] := List.length_eq_zero_iff.1 (by omega)
    unfold wire_Events.l0 given_Cut.f
    rw [if_pos (by rw [ofL_size]; simp)]
    simp [cutN, evsN, evF, ofL_data]
  | succ n ih =>
    intro l acc hn hs ha
    unfold wire_Events.l0 given_Cut.f
    rw [if_pos (by rw [ofL_size]; omega)]
    simp only [ofL_data, Option.bind_some]
    rcases cut_split 10 l with h | ⟨a, r, rfl, hna⟩
    · rw [cutN_all h, evs_end h]
      simp
    · simp only [List.length_append, List.length_cons] at hn hs ha
      rw [cutN_app hna, evs_cons hna]
      simp only [if_pos]
      rw [dec_val (by rw [ofL_size]; omega)]
      simp only [Option.bind_some]
      rw [if_pos (by omega), ih r _ (by omega) (by omega) (by rw [List.length_append]; simp; omega)]
      simp [toS]
theorem events_val (s : ByteArray) (hs : s.size ≤ 1099511627775 / 2) (n : Nat) (hn : s.size ≤ n) : wire_Events.f (n + 1) s = some ((evsN s.data.toList).1.map toS, ofL (evsN s.data.toList).2) := by
  unfold wire_Events.f
  have := events_loop n s.data.toList [] (by rw [dlen]; exact hn) (by rw [dlen]; omega) (by rw [dlen]; simp; omega)
  rw [ofL_list] at this
  rw [this]
  rfl
theorem s28_ne (x y : S28) : (!(x.f0 == y.f0) || (!(x.f1 == y.f1) || (!(x.f2 == y.f2) || (!(x.f3 == y.f3) || (!(x.f4 == y.f4) || (!(x.f5 == y.f5) || (!(x.f6 == y.f6) || (!(x.f7 == y.f7) || (!(x.f8 == y.f8) || (!(x.f9.toList == y.f9.toList) || (!(x.f10.toList == y.f10.toList) || (!(x.f11.toList == y.f11.toList) || (!(x.f12.toList == y.f12.toList) || (!(x.f13 == y.f13))))))))))))))) = decide (evOf x ≠ evOf y) := by
  simp only [list_beq, int_beq, bool_beq, evOf, ne_eq, Evt.mk.injEq]
  rw [Bool.eq_iff_iff]
  simp only [Bool.or_eq_true, Bool.not_eq_true', decide_eq_false_iff_not, decide_eq_true_eq, Classical.not_and_iff_not_or_not]
theorem same_loop : ∀ (d : Nat) (a b : List S28) (x : Int), 0 ≤ x → x.toNat + d = a.length → a.length = b.length → a.length ≤ 1099511627776 → mullionlaw03_same.l0 (d + 1) a b x = some (decide ((a.drop x.toNat).map evOf = (b.drop x.toNat).map evOf)) := by
  intro d
  induction d with
  | zero =>
    intro a b x h0 hd hl hs
    unfold mullionlaw03_same.l0
    rw [if_neg (by omega), List.drop_eq_nil_of_le (by omega), List.drop_eq_nil_of_le (by omega)]
    simp
  | succ d ih =>
    intro a b x h0 hd hl hs
    have e1 := drop_rd (l := a) h0 (by omega)
    have e2 := drop_rd (l := b) h0 (by omega)
    unfold mullionlaw03_same.l0
    rw [if_pos (by omega), if_pos h0, if_pos (by omega), s28_ne, e1, e2]
    by_cases he : evOf (rd_T28 a x) = evOf (rd_T28 b x)
    · rw [if_neg (by simp [he]), wrap_in (by omega) (by omega), ih a b (x + 1) (by omega) (by omega) hl hs, he]
      rw [show (x + 1).toNat = x.toNat + 1 by omega]
      simp
    · rw [if_pos (by simp [he])]
      simp [he]
theorem same_val (a b : List S28) (hs : a.length ≤ 1099511627776) (n : Nat) (hn : a.length ≤ n) : ∃ k, k ≤ n + 1 ∧ mullionlaw03_same.f k a b = some (decide (a.map evOf = b.map evOf)) := by
  by_cases hl : a.length = b.length
  · refine ⟨a.length + 1, by omega, ?_⟩
    unfold mullionlaw03_same.f
    rw [if_pos (by omega), same_loop a.length a b 0 (Int.le_refl _) (by simp) hl hs]
    rfl
  · refine ⟨0, by omega, ?_⟩
    unfold mullionlaw03_same.f
    rw [if_neg (by omega)]
    have : ¬ a.map evOf = b.map evOf := fun e => hl (by simpa using congrArg List.length e)
    simp [this]
theorem same_more (a b : List S28) (hs : a.length ≤ 1099511627776) (n : Nat) (hn : a.length + 1 ≤ n) : mullionlaw03_same.f n a b = some (decide (a.map evOf = b.map evOf)) := by
  obtain ⟨k, hk, h⟩ := same_val a b hs a.length (Nat.le_refl _)
  obtain ⟨d, rfl⟩ : ∃ d, n = k + d := ⟨n - k, by omega⟩
  clear hk hn
  induction d with
  | zero => exact h
  | succ d ih => exact mullionlaw03_same.mono a b (k + d) _ ih
theorem sureV : mullionlaw03_sure.f = some true := LawP.sure_val
theorem map_toS (l : List Evt) : (l.map toS).map evOf = l := by
  rw [List.map_map]
  simp [Function.comp_def, ev_toS]
theorem piece_val {s : ByteArray} (hs : s.size ≤ 1048576) (x : Int) (h0 : 0 ≤ x) (h1 : x ≤ s.size) (n : Nat) (hn : 2097153 ≤ n) : mullionlaw03_WirePieces.j1 (n + 1) s x = some true := by
  obtain ⟨m, rfl⟩ : ∃ m, n = m + 1 := ⟨n - 1, by omega⟩
  simp only [mullionlaw03_WirePieces.j1]
  have hx : x.toNat ≤ s.size := by omega
  have z1 : (s.extract 0 x.toNat).size = x.toNat := by simp; omega
  have z2 : (s.extract x.toNat s.size).size = s.size - x.toNat := by simp
  have e0 : (s.extract 0 x.toNat).data.toList = s.data.toList.take x.toNat := by
    have h := ofL_extract s.data.toList 0 x.toNat
    rw [ofL_list] at h
    rw [h, ofL_data]
    simp
  have e1 : (s.extract x.toNat s.size).data.toList = s.data.toList.drop x.toNat := ext_drop s x.toNat
  have e2 : s.data.toList = s.data.toList.take x.toNat ++ s.data.toList.drop x.toNat := (List.take_append_drop _ _).symm
  have ha := evs_app _ (s.data.toList.take x.toNat) (s.data.toList.drop x.toNat) (Nat.le_refl _)
  rw [← e2] at ha
  have l1 := evs_len _ (s.data.toList.take x.toNat) (Nat.le_refl _)
  rw [List.length_take, dlen] at l1
  rw [events_val s (by omega) m (by omega)]
  simp only [Option.bind_some]
  rw [if_pos h0, if_pos h1, events_val (s.extract 0 x.toNat) (by omega) m (by omega)]
  simp only [Option.bind_some]
  rw [e0]
  generalize hA : (evsN (s.data.toList.take x.toNat)).1 = A at *
  generalize hl : (evsN (s.data.toList.take x.toNat)).2 = left at *
  have z3 : (ofL left ++ s.extract x.toNat s.size).size = left.length + (s.size - x.toNat) := by
    rw [ByteArray.size_append, ofL_size, z2]
  rw [if_pos (by rw [ofL_size, z2]; omega), events_val _ (by rw [z3]; omega) m (by rw [z3]; omega)]
  have e3 : (ofL left ++ s.extract x.toNat s.size).data.toList = left ++ s.data.toList.drop x.toNat := by
    rw [ByteArray.data_append, Array.toList_append, e1, ofL_data]
  rw [e3]
  have l2 := evs_len _ (left ++ s.data.toList.drop x.toNat) (Nat.le_refl _)
  rw [List.length_append, List.length_drop, dlen] at l2
  generalize hB : (evsN (left ++ s.data.toList.drop x.toNat)).1 = B at *
  generalize hE : (evsN (left ++ s.data.toList.drop x.toNat)).2 = fin at *
  simp only [Option.bind_some, List.length_nil, List.nil_append, List.length_map]
  rw [if_pos (by omega)]
  (try simp only [Option.bind_some, List.length_map])
  rw [if_pos (by omega)]
  have hla : (evsN s.data.toList).1.length ≤ 2097152 := by
    have := (evs_len _ s.data.toList (Nat.le_refl _)).1
    rw [dlen] at this
    omega
  rw [same_more _ _ (by rw [List.length_map]; omega) _ (by rw [List.length_map]; omega), ha]
  simp only [List.map_append, map_toS, Option.bind_some, sureV]
  simp
theorem pieces_val {s : ByteArray} (hs : s.size ≤ 1048576) (x : Int) : mullionlaw03_WirePieces.f 2097156 s x = some true := by
  have hw : wrap64 ((s.size : Int) / 2) = (s.size : Int) / 2 := wrap_in (by omega) (by omega)
  unfold mullionlaw03_WirePieces.f
  by_cases h0 : x < 0
  · rw [if_pos h0]
    simp only [mullionlaw03_WirePieces.j0]
    rw [if_pos trivial, hw]
    exact piece_val hs _ (by omega) (by omega) 2097154 (by omega)
  · rw [if_neg h0]
    simp only [mullionlaw03_WirePieces.j0]
    by_cases h1 : x > (s.size : Int)
    · rw [if_pos (by simpa using h1), hw]
      exact piece_val hs _ (by omega) (by omega) 2097154 (by omega)
    · rw [if_neg (by simpa using h1)]
      exact piece_val hs _ (by omega) (by omega) 2097154 (by omega)
theorem pieces_calls {w : World} (hL : LaidW w) (s : ByteArray) (h : s.size ≤ 1048576) (x : Int) (_hx : (Lit.int .i64 x).wf = true) : Calls Tryz.prog 9 #[.string s, .int .i64 x] w fun r w' => r = .returned (.bool true) ∧ Below w.heap.size w w' :=
  mullionlaw03_WirePieces.calls 2097156 s x true w hL (pieces_val h x)
end Go.Proofs.YtnblabfkkcohgaaGreatDoor.LawU
end
