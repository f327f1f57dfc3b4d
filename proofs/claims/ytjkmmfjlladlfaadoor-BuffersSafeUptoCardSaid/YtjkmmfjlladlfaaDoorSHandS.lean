/- The program's Paste, and the statements' own functions BuffersPastes, BuffersSafe, walked: they tell true. Conditions: the tables lie as they are laid, the texts have at most 2^20 bytes. -/
import Derived.Test.YtjkmmfjlladlfaaDoorSHandP
namespace Go.Proofs.YtjkmmfjlladlfaaDoor.Hand
set_option linter.unusedVariables false
set_option linter.unusedSimpArgs false
open Go.RowKit Go.Proofs.YtjkmmfjlladlfaaDoor.PPas Go.Proofs.YtjkmmfjlladlfaaDoor.Rep Go.Proofs.YtjkmmfjlladlfaaDoor.Given Go.Proofs.YtjkmmfjlladlfaaDoorW.PrintWords Go.Proofs.YtjkmmfjlladlfaaDoorW.PrintLast

theorem dlen (s : ByteArray) : s.data.toList.length = s.size := by rw [Array.length_toList]; rfl
theorem countB_le (s old : ByteArray) (h : 1 ≤ old.size) : Lib.countB s old ≤ s.size := by
  have h1 := Lib.countB_mul_le old h s.size s (Nat.le_refl _)
  have h2 : Lib.countB s old * 1 ≤ Lib.countB s old * old.size := Nat.mul_le_mul_left _ h
  omega
theorem repl_calls {W : World} (hL : LaidW W) (s between : ByteArray) (hs : s.size ≤ 1048576) (hb : between.size ≤ 1048576) :
    Calls Tryd.prog 37 #[.string s, .string (⟨#[10]⟩ : ByteArray), .string between] W fun e W' => e = .returned (.string (ofL (each 10 between.data.toList s.data.toList))) ∧ Below W.heap.size W W' := by
  obtain ⟨m, hm⟩ := hL.len
  have h1 := countB_le s (⟨#[10]⟩ : ByteArray) (by decide)
  have h2 : Lib.countB s (⟨#[10]⟩ : ByteArray) * between.size ≤ 1048576 * 1048576 := Nat.mul_le_mul (by omega) hb
  refine (Tryd.strings_ReplaceAll s (⟨#[10]⟩ : ByteArray) between m W (by omega) hm (by decide) (by omega)).mono ?_
  rintro e W' ⟨rfl, hb⟩
  refine ⟨?_, hb⟩
  rw [show (⟨#[10]⟩ : ByteArray).data.toList = [10] from rfl, replaceAll_one]
  rfl
theorem repl_end {W : World} (hL : LaidW W) (s : ByteArray) (hs : s.size ≤ 1048576) :
    Calls Tryd.prog 37 #[.string s, .string (⟨#[27, 91, 50, 48, 49, 126]⟩ : ByteArray), .string (⟨#[]⟩ : ByteArray)] W fun e W' => e = .returned (.string (ofL (rep endL [] s.data.toList.length s.data.toList))) ∧ Below W.heap.size W W' := by
  obtain ⟨m, hm⟩ := hL.len
  have h1 := countB_le s (⟨#[27, 91, 50, 48, 49, 126]⟩ : ByteArray) (by decide)
  refine (Tryd.strings_ReplaceAll s (⟨#[27, 91, 50, 48, 49, 126]⟩ : ByteArray) (⟨#[]⟩ : ByteArray) m W (by omega) hm (by decide) (by rw [show (⟨#[]⟩ : ByteArray).size = 0 from rfl]; omega)).mono ?_
  rintro e W' ⟨rfl, hb⟩
  refine ⟨?_, hb⟩
  rw [show (⟨#[27, 91, 50, 48, 49, 126]⟩ : ByteArray).data.toList = endL from rfl, show (⟨#[]⟩ : ByteArray).data.toList = [] from rfl, replaceAll_rep _ _ _ (by decide) (by decide)]
  rfl

set_option maxHeartbeats 3200000 in
theorem paste_calls {W : World} (hL : LaidW W) (text between : ByteArray) (br : Bool) (hs : text.size ≤ 1048576) (hb : between.size ≤ 1048576) :
    Calls Tryd.prog 16 #[.string text, .string between, .bool br] W fun e W' => e = .returned (.string (ofL (pasteN text.data.toList between.data.toList br))) ∧ Below W.heap.size W W' := by
  have HL := Lib.hid hL
  have HS := Lib.hid hs
  have HB := Lib.hid hb
  clear hL hs hb
  cases br with
  | false =>
    go_enter Tryd.func16, Tryd.ntmps16
    go_wp2_with ((go_at_call 37); (with_reducible refine (repl_calls HL.out text between HS.out HB.out).mono ?_); rintro e w1 ⟨rfl, hb⟩; have HB1 := Lib.hid hb; clear hb)
    all_goals go_returns
    all_goals exact ⟨rfl, HB1.out⟩
  | true =>
    have hlen := dlen text
    have hblen := dlen between
    have hr := rep_length endL text.data.toList.length text.data.toList
    obtain ⟨R, HR⟩ : ∃ R, Aside0 (R = rep endL [] text.data.toList.length text.data.toList) := ⟨_, ⟨rfl⟩⟩
    rw [← HR.out] at hr
    obtain ⟨v, HV⟩ : ∃ v, Aside0 (v = ofL (each 10 between.data.toList R)) := ⟨_, ⟨rfl⟩⟩
    have hv : v.size ≤ 1048576 + 1048576 * 1048576 := by
      rw [HV.out, ofL_size]
      have h1 := each_le 10 between.data.toList R
      have h2 : R.length * between.data.toList.length ≤ 1048576 * 1048576 := Nat.mul_le_mul (by have := HS.out; omega) (by have := HB.out; omega)
      have := HS.out
      omega
    have h6 : 6 + v.size ≤ 9223372036854775807 := by omega
    have h12 : 6 + v.size + 6 ≤ 9223372036854775807 := by omega
    have hz : ((⟨#[27, 91, 50, 48, 48, 126]⟩ : ByteArray) ++ v).size = 6 + v.size := by rw [show v = ofL v.data.toList from (ofL_list v).symm, show (⟨#[27, 91, 50, 48, 48, 126]⟩ : ByteArray) = ofL startL from rfl, ofL_append, ofL_size, ofL_size, List.length_append]; rfl
    have h7 : ((⟨#[27, 91, 50, 48, 48, 126]⟩ : ByteArray) ++ v).size + 6 ≤ 9223372036854775807 := by rw [hz]; exact h12
    have HRS := Lib.hid (show (ofL R).size ≤ 1048576 by rw [ofL_size]; have := HS.out; omega)
    clear hlen hblen hr hv hz
    go_enter Tryd.func16, Tryd.ntmps16
    go_wp2_with (first | ((go_at_call 37); (with_reducible refine (repl_end HL.out text HS.out).mono ?_); rintro e w1 ⟨rfl, hb⟩; rw [← HR.out]; have HB1 := Lib.hid hb; clear hb) | ((go_at_call 37); (with_reducible refine (repl_calls (LaidW.below HL.out HB1.out) (ofL R) between HRS.out HB.out).mono ?_); rintro e w2 ⟨rfl, hb⟩; rw [ofL_data, ← HV.out]; have HB2 := Lib.hid (below_step HB1.out hb); clear hb))

    all_goals go_returns
    all_goals exact ⟨by
      have e1 : (⟨#[27, 91, 50, 48, 48, 126]⟩ : ByteArray) ++ v ++ (⟨#[27, 91, 50, 48, 49, 126]⟩ : ByteArray) = ofL (pasteN text.data.toList between.data.toList true) := by
        rw [HV.out, HR.out, show (⟨#[27, 91, 50, 48, 48, 126]⟩ : ByteArray) = ofL startL from rfl, show (⟨#[27, 91, 50, 48, 49, 126]⟩ : ByteArray) = ofL endL from rfl, ofL_append, ofL_append]
        rfl
      rw [← e1]
      rfl, HB2.out⟩

theorem ref_paste (W : World) (text between : ByteArray) (br : Bool) (hs : text.size ≤ 1048576) (hb : between.size ≤ 1048576) :
    Calls Tryd.prog 17 #[.string text, .string between, .bool br] W fun e W' => e = .returned (.string (ofL (pasteN text.data.toList between.data.toList br))) ∧ Below W.heap.size W W' := by
  obtain ⟨k, hk⟩ := (paste_ev text.data.toList between.data.toList br (by rw [dlen]; exact hs) (by rw [dlen]; exact hb)).rounds
  rw [ofL_list, ofL_list] at hk
  refine (mullionref24_Paste.calls k text between br _ W hk).mono ?_
  rintro e W' ⟨he, nd, rfl⟩
  exact ⟨he, by repeat (first | exact Below.refl _ _ | apply pw_below_drewN | apply below_drew1)⟩

set_option maxHeartbeats 3200000 in
theorem pastes_calls {W : World} (hL : LaidW W) (text between : ByteArray) (br : Bool) (hs : text.size ≤ 1048576) (hb : between.size ≤ 1048576) :
    Calls Tryd.prog 6 #[.string text, .string between, .bool br] W fun e W' => e = .returned (.bool true) ∧ Below W.heap.size W W' := by
  have HL := Lib.hid hL
  have HS := Lib.hid hs
  have HB := Lib.hid hb
  clear hL hs hb
  obtain ⟨v, HV⟩ : ∃ v, Aside0 (v = ofL (pasteN text.data.toList between.data.toList br)) := ⟨_, ⟨rfl⟩⟩
  have P1 := fun W (h : LaidW W) => paste_calls h text between br HS.out HB.out
  have P2 := fun W => ref_paste W text between br HS.out HB.out
  rw [← HV.out] at P1 P2
  have HP1 := Lib.hid P1
  have HP2 := Lib.hid P2
  clear P1 P2
  go_enter Tryd.func6, Tryd.ntmps6
  go_wp2_with (first | ((go_at_call 16); (with_reducible refine (HP1.out _ HL.out).mono ?_); rintro e w1 ⟨rfl, hb⟩; have HB1 := Lib.hid hb; clear hb) | ((go_at_call 17); (with_reducible refine (HP2.out _).mono ?_); rintro e w2 ⟨rfl, hb⟩; have HB2 := Lib.hid (below_step HB1.out hb); clear hb) | ((go_at_call 11); (with_reducible refine (sure_calls (LaidW.below HL.out HB2.out)).mono ?_); rintro e w3 ⟨rfl, hb⟩; have HB3 := Lib.hid (below_step HB2.out hb); clear hb))
  all_goals go_returns
  all_goals exact ⟨rfl, HB3.out⟩

theorem ofL_eq (s : ByteArray) (l : List UInt8) (h : l = s.data.toList) : ofL l = s := by rw [h, ofL_list]
theorem each_same (c : UInt8) : ∀ s : List UInt8, each c [c] s = s
  | [] => rfl
  | b :: l => by
    rw [show each c [c] (b :: l) = (if b = c then [c] else [b]) ++ each c [c] l from List.flatMap_cons, each_same c l]
    by_cases hb : b = c
    · rw [if_pos hb, hb]; rfl
    · rw [if_neg hb]; rfl
theorem count_take (T : List UInt8) (i : Nat) (hi : i < T.length) : (T.take (i + 1)).count 10 = (T.take i).count 10 + (if T[i] = 10 then 1 else 0) := by
  rw [List.take_succ_eq_append_getElem hi, List.count_append]
  congr 1
  by_cases h : T[i] = 10
  · rw [h]; rfl
  · rw [if_neg h, List.count_cons_of_ne h]; rfl

theorem count_text (text : ByteArray) (i : Nat) (hi : i < text.size) : (text.data.toList.take (i + 1)).count 10 = (text.data.toList.take i).count 10 + (if (((text[i].toNat : Nat) : Int) == 10) = true then 1 else 0) := by
  rw [count_take _ i (by rw [dlen]; exact hi)]
  congr 1
  have e : text.data.toList[i]'(by rw [dlen]; exact hi) = text[i] := by simp; rfl
  rw [e]
  by_cases h : text[i] = 10
  · rw [if_pos h, h]; rfl
  · rw [if_neg h, if_neg]
    simp only [beq_iff_eq]
    intro q
    apply h
    apply UInt8.toNat_inj.1
    show _ = 10
    omega

set_option maxHeartbeats 6400000 in
set_option maxRecDepth 100000 in
theorem safe_calls {W : World} (hL : LaidW W) (text between : ByteArray) (hs : text.size ≤ 1048576) (hb : between.size ≤ 1048576) :
    Calls Tryd.prog 7 #[.string text, .string between] W fun e W' => e = .returned (.bool true) ∧ Below W.heap.size W W' := by
  have HL := Lib.hid hL
  have HS := Lib.hid hs
  have HB := Lib.hid hb
  clear hL hs hb
  obtain ⟨T, HT⟩ : ∃ T, Aside0 (T = text.data.toList) := ⟨_, ⟨rfl⟩⟩
  obtain ⟨n, HN⟩ : ∃ n, Aside0 (n = T.count 10) := ⟨_, ⟨rfl⟩⟩
  have HTL : Aside0 (T.length = text.size) := ⟨by rw [HT.out, dlen]⟩
  have HNT : Aside0 (n ≤ text.size) := ⟨by rw [HN.out, ← HTL.out]; exact (each_length 10 [] T).2⟩
  obtain ⟨u, HU⟩ : ∃ u, Aside0 (u = ofL (each 10 [] T)) := ⟨_, ⟨rfl⟩⟩
  have HUS : Aside0 (u.size = text.size - n) := ⟨by
    have h := (each_length 10 [] T).1
    rw [HU.out, ofL_size, h, HN.out, HTL.out]
    simp⟩
  obtain ⟨x, HX⟩ : ∃ x, Aside0 (x = ofL (each 10 between.data.toList T)) := ⟨_, ⟨rfl⟩⟩
  have HXS : Aside0 (x.size = text.size - n + n * between.size) := ⟨by
    have h := (each_length 10 between.data.toList T).1
    rw [HX.out, ofL_size, h, HN.out, HTL.out, dlen]⟩
  obtain ⟨m, HM⟩ : ∃ m, Aside0 (m = each 10 [13] (rep endL [] T.length T)) := ⟨_, ⟨rfl⟩⟩
  obtain ⟨v, HV⟩ : ∃ v, Aside0 (v = ofL (startL ++ m ++ endL)) := ⟨_, ⟨rfl⟩⟩
  have P1 := fun W (h : LaidW W) => paste_calls h text (⟨#[10]⟩ : ByteArray) false HS.out (by decide)
  have P2 := fun W (h : LaidW W) => paste_calls h text (⟨#[]⟩ : ByteArray) false HS.out (by decide)
  have P3 := fun W (h : LaidW W) => paste_calls h text between false HS.out HB.out
  have P4 := fun W (h : LaidW W) => paste_calls h text (⟨#[13]⟩ : ByteArray) true HS.out (by decide)
  have e1 : ofL (pasteN text.data.toList (⟨#[10]⟩ : ByteArray).data.toList false) = text := ofL_eq _ _ (each_same 10 _)
  have e2 : ofL (pasteN text.data.toList (⟨#[]⟩ : ByteArray).data.toList false) = u := by rw [HU.out, HT.out]; rfl
  have e3 : ofL (pasteN text.data.toList between.data.toList false) = x := by rw [HX.out, HT.out]; rfl
  have e4 : ofL (pasteN text.data.toList (⟨#[13]⟩ : ByteArray).data.toList true) = v := by rw [HV.out, HM.out, HT.out]; rfl
  rw [e1] at P1
  rw [e2] at P2
  rw [e3] at P3
  rw [e4] at P4
  have HP1 := Lib.hid P1
  have HP2 := Lib.hid P2
  have HP3 := Lib.hid P3
  have HP4 := Lib.hid P4
  clear P1 P2 P3 P4 e1 e2 e3 e4
  go_enter Tryd.func7, Tryd.ntmps7
  go_wp2_with (first | ((go_at_call 16); (with_reducible refine (HP1.out _ HL.out).mono ?_); rintro e w1 ⟨rfl, hb⟩; have HB1 := Lib.hid hb; clear hb) | ((go_at_call 16); (with_reducible refine (HP2.out _ (LaidW.below HL.out HB1.out)).mono ?_); rintro e w2 ⟨rfl, hb⟩; have HB2 := Lib.hid (below_step HB1.out hb); clear hb))
  (try simp only [Act.put, List.setIfInBounds_toArray, List.set_cons_zero, List.set_cons_succ])
  go_loopg [7, 8] text.size (fun kq v7 v8 w' => ∃ i : Nat, v8 = .int .i64 i ∧ v7 = .int .i64 ((T.take i).count 10 : Nat) ∧ Aside0 (i + kq = text.size) ∧ Aside0 (Below W.heap.size W w'))
  case atStart => exact ⟨0, rfl, rfl, ⟨by omega⟩, ⟨HB2.out⟩⟩
  case round =>
    obtain ⟨i, rfl, rfl, HI, HW⟩ := hrel
    by_cases hi : i < text.size
    · have HCNT := Lib.hid (count_text text i hi)
      rw [← HT.out] at HCNT
      have HI2 := Lib.hid hi
      have hi' : (i : Int) < (text.size : Int) := by omega
      have hip : (0 : Int) ≤ (i : Int) := by omega
      go_wp2
      · rename_i hq
        go_roundg (text.size - i - 1)
        case measure => have := HI.out; omega
        case rel =>
          have h := HCNT.out
          rw [if_pos hq] at h
          have hle : (T.take i).count 10 ≤ 1048576 := Nat.le_trans List.count_le_length (by rw [List.length_take]; have := HS.out; omega)
          have hsz := HS.out
          have hii := HI2.out
          exact ⟨i + 1, by rw [wrap_in (by omega) (by omega)]; rfl, by rw [h, wrap_in (by omega) (by omega)]; rfl, ⟨by have := HI.out; omega⟩, ⟨HW.out⟩⟩
      · rename_i hq
        go_roundg (text.size - i - 1)
        case measure => have := HI.out; omega
        case rel =>
          have h := HCNT.out
          rw [if_neg (by rw [hq]; simp)] at h
          have hsz := HS.out
          have hii := HI2.out
          exact ⟨i + 1, by rw [wrap_in (by omega) (by omega)]; rfl, by rw [h]; rfl, ⟨by have := HI.out; omega⟩, ⟨HW.out⟩⟩
    · have hin : ¬ (i : Int) < (text.size : Int) := by omega
      have hie : i = text.size := by have := HI.out; omega
      have hc : (T.take i).count 10 = n := by rw [HN.out, List.take_of_length_le (by rw [HTL.out]; omega)]
      rw [hc]
      clear hc hie
      have hns := HNT.out
      have hts := HS.out
      have hbs := HB.out
      have hmul : n * between.size ≤ 1048576 * 1048576 := Nat.mul_le_mul (by omega) hbs
      have hmul2 : ((n : Int) * (between.size : Int)) = ((n * between.size : Nat) : Int) := by rw [Int.natCast_mul]
      have w1 : wrap64 ((text.size : Int) - (n : Int)) = ((text.size - n : Nat) : Int) := by unfold wrap64; omega
      have w2 : wrap64 ((n : Int) * (between.size : Int)) = ((n * between.size : Nat) : Int) := by rw [hmul2]; unfold wrap64; omega
      have q1 : (u.size : Int) = wrap64 ((text.size : Int) - (n : Int)) := by rw [w1, HUS.out]
      have q2 : ((x.size : Int) != wrap64 (wrap64 ((text.size : Int) - (n : Int)) + wrap64 ((n : Int) * (between.size : Int)))) = false := by
        rw [w1, w2, HXS.out, bne_eq_false_iff_eq]
        unfold wrap64
        omega
      have hm1 : m.length ≤ 1048576 + 1048576 := by
        have h1 := (each_length 10 [13] (rep endL [] T.length T)).1
        have h2 := (each_length 10 [13] (rep endL [] T.length T)).2
        have h3 := rep_length endL T.length T
        rw [HM.out, h1, List.length_cons, List.length_nil]
        have := HTL.out
        omega
      have hvs : v.size = 6 + m.length + 6 := by rw [HV.out, ofL_size, List.length_append, List.length_append]; rfl
      have w3 : wrap64 ((v.size : Int) - 6) = ((6 + m.length : Nat) : Int) := by rw [hvs]; unfold wrap64; omega
      have q3 : (12 : Int) ≤ (v.size : Int) := by omega
      have q4 : (6 : Int) ≤ (v.size : Int) := by omega
      have q5 : (v.extract 0 6).toList = ([27, 91, 50, 48, 48, 126] : List UInt8) := by
        rw [HV.out, ofL_extract, ofL_toList]
        rfl
      have q6 : 0 ≤ wrap64 ((v.size : Int) - 6) ∧ wrap64 ((v.size : Int) - 6) ≤ (v.size : Int) := by rw [w3, hvs]; omega
      have q7 : ((v.extract (wrap64 ((v.size : Int) - 6)).toNat v.size).toList == ([27, 91, 50, 48, 49, 126] : List UInt8)) = true := by
        rw [beq_iff_eq, w3, hvs, HV.out, ofL_extract, ofL_toList, show ((6 + m.length : Nat) : Int).toNat = (startL ++ m).length by rw [List.length_append, Int.toNat_natCast]; rfl, List.drop_left]
        rw [show 6 + m.length + 6 - (startL ++ m).length = 6 by rw [List.length_append, show startL.length = 6 from rfl]; omega]
        rfl
      clear hm1 hvs w1 w2 w3 hmul hmul2 hns hts hbs
      go_wp2_with (first | ((go_at_call 16); (with_reducible refine (HP3.out _ (LaidW.below HL.out HW.out)).mono ?_); rintro e w3 ⟨rfl, hb⟩; have HB3 := Lib.hid (below_step HW.out hb); clear hb) | ((go_at_call 16); (with_reducible refine (HP4.out _ (LaidW.below HL.out HB3.out)).mono ?_); rintro e w4 ⟨rfl, hb⟩; have HB4 := Lib.hid (below_step HB3.out hb); clear hb) | ((go_at_call 11); (with_reducible refine (sure_calls (LaidW.below HL.out HB4.out)).mono ?_); rintro e w5 ⟨rfl, hb⟩; have HB5 := Lib.hid (below_step HB4.out hb); clear hb))
      all_goals go_returns
      all_goals exact ⟨rfl, HB5.out⟩
end Go.Proofs.YtjkmmfjlladlfaaDoor.Hand
