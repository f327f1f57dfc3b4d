/- Texts of this claim, put together by a program of this session (prune.py): TxtA, TxtG. -/
import Derived.Test.YtnblabfkkcohgaaGreatDoorQUCE
import Derived.Test.YtnblabfkkcohgaaGreatDoorQUCF
import Derived.Test.YtnblabfkkcohgaaGreatDoorQUCI
section
/- Text, walked. -/
namespace Go.Proofs.YtnblabfkkcohgaaGreatDoor.Wire
set_option linter.unusedVariables false
set_option linter.unusedSimpArgs false
open Go Go.Shelf Go.RowKit Go.Proofs.YtnblabfkkcohgaaGreatDoor.Given Go.Proofs.YtnblabfkkcohgaaGreatDoorW.PrintWords Go.Proofs.YtnblabfkkcohgaaGreatDoorW.PrintLast

open Go.Proofs.YtnblabfkkcohgaaGreatDoor.PWireOne
@[reducible] def evOf (x : S28) : Evt := ⟨x.f0, x.f1, x.f2, x.f3, x.f4, x.f5, x.f6, x.f7, x.f8, x.f9, x.f10, x.f11, x.f12, x.f13⟩
/-- The text of events behind acc, and the error. -/
def textN : List Evt → List UInt8 → ByteArray × Int
  | [], acc => (ofL acc, 0)
  | e :: l, acc => if (encN e).2 = 0 then textN l (acc ++ (encN e).1.data.toList ++ [10]) else (⟨#[]⟩, (encN e).2)
theorem drop_rd {l : List S28} {x : Int} (h0 : 0 ≤ x) (h1 : x < l.length) : (l.drop x.toNat).map evOf = evOf (rd_T28 l x) :: (l.drop (x.toNat + 1)).map evOf := by
  have hi : x.toNat < l.length := by omega
  rw [List.drop_eq_getElem_cons hi, List.map_cons]
  congr 2
  unfold rd_T28
  rw [List.getD_eq_getElem?_getD, List.getElem?_eq_getElem hi]
  rfl
set_option maxHeartbeats 6400000 in
set_option maxRecDepth 100000 in
theorem text_calls {w : World} (hL : LaidW w) (A : Option Addr) (cap : Nat) (l : List S28) (hC : Kd.C k28 w A l.length l) (hcap : l.length ≤ cap) (m : Nat) (hm : m ≤ 1099511627776) (hs : ∀ x : Int, Sz m (evOf (rd_T28 l x))) (hb : l.length * (28 * m + 301) ≤ 140737488355328) :
    Calls Tryz.prog 17 #[.slice A l.length cap] w fun r w' => r = .returned (.tuple #[.string (textN (l.map evOf) []).1, .int .i64 (textN (l.map evOf) []).2]) ∧ Below w.heap.size w w' := by
  have HL := Lib.hid hL
  have HS := Lib.hid hs
  have HM := Lib.hid hm
  have HB := Lib.hid hb
  have HC := Lib.hid hC
  have HR := Lib.hid (show textN (l.map evOf) [] = textN (l.map evOf) [] from rfl)
  generalize hR : textN (l.map evOf) [] = R
  have HRR := Lib.hid hR.symm
  clear hL hs hm hb hC HR hR
  go_enter Tryz.func17, Tryz.ntmps17
  go_wp2_with (first | ((with_reducible refine gate_dst (N := 4) rfl ?_); refine box_event ?hg (N := 4) ?hd (cs := #[.pointer none, .slice none 0 0]) (t := 53) ?hr ?_; (case hd => rfl); (case hg => rfl); (case hr => first | (go_simp; done) | (go_simp; rfl)); intro gl hgb w1 hbox hbb; have HW1 := Lib.hid (wr_new (by rw [hgb]; exact Nat.le_refl _) hbb hbox); have HC1 := Lib.hid hbb; clear hgb hbox hbb))
  (try simp only [Act.put, List.setIfInBounds_toArray, List.set_cons_zero, List.set_cons_succ])
  go_loopg [11] l.length (fun kq v11 w' => ∃ (x : Int) (acc : List UInt8), v11 = .int .i64 x ∧ Aside0 (0 ≤ x ∧ x.toNat + kq = l.length) ∧ Aside0 (R = textN ((l.drop x.toNat).map evOf) acc) ∧ Aside0 (acc.length ≤ x.toNat * (28 * m + 301)) ∧ Aside0 (Below w.heap.size w w') ∧ Aside0 (Lib.IsBuilderF 53 5 w.heap.size gl (Lib.byteCells acc) w'))
  case atStart => exact ⟨0, [], rfl, ⟨by omega, by simp⟩, ⟨HRR.out⟩, ⟨by simp⟩, ⟨HC1.out⟩, ⟨HW1.out.is⟩⟩
  case round =>
    obtain ⟨x, acc, rfl, HI, HP, HAL, HBW, HBD⟩ := hrel
    by_cases c : x < (l.length : Int)
    · obtain ⟨ad, rfl, f0, f1, f2, f3, f4, f5, f6, f7, f8, f9, f10, f11, f12, f13⟩ := at_T28 (Kd.C_below HC.out HBW.out) x HI.out.1 c
      have hx0 := eq_true HI.out.1
      have hx1 := eq_true c
      have hx2 : decide (x < (l.length : Int)) = true := decide_eq_true c
      have HXL := Lib.hid (show x.toNat < l.length by have := HI.out.1; omega)
      have HXB := Lib.hid (show x.toNat * (28 * m + 301) + (28 * m + 301) ≤ 140737488355328 by
        have h1 := HB.out
        have h2 : (x.toNat + 1) * (28 * m + 301) ≤ l.length * (28 * m + 301) := Nat.mul_le_mul_right _ HXL.out
        rw [Nat.add_mul, Nat.one_mul] at h2
        omega)
      have HSZ := Lib.hid ((HS.out x).ev HM.out)
      have HEL := Lib.hid (enc_len (HS.out x))
      have HD := Lib.hid (drop_rd HI.out.1 c)
      clear c
      by_cases hok : (encN (evOf (rd_T28 l x))).2 = 0
      · have hokb : ((encN (evOf (rd_T28 l x))).2 != 0) = false := by simp [hok]
        go_wp2_with (first | ((with_reducible refine gate_dst (N := 6) rfl ?_); refine box_event ?hg (N := 6) ?hd (cs := #[.int .i64 0, .int .i64 0, .int .i64 0, .int .i64 0, .int .i64 0, .int .i64 0, .int .i64 0, .int .i64 0, .int .i64 0, .string (⟨#[]⟩ : ByteArray), .string (⟨#[]⟩ : ByteArray), .string (⟨#[]⟩ : ByteArray), .string (⟨#[]⟩ : ByteArray), .bool false]) (t := 28) ?hr ?_; (case hd => rfl); (case hg => rfl); (case hr => first | (go_simp; done) | (go_simp; rfl)); intro ge hgb w2 hbox hbb; have HX2 := Lib.hid hbox; have HGe := Lib.hid (Nat.le_of_eq hgb.symm); have HC2 := Lib.hid hbb; clear hgb hbox hbb) | ((with_reducible refine gate_store (t := 28) (p := 6) rfl ?_); refine store_event (ty := 28) (p := 6) rfl ?hg ?hd (cells := #[.int .i64 (rd_T28 l x).f0, .int .i64 (rd_T28 l x).f1, .int .i64 (rd_T28 l x).f2, .int .i64 (rd_T28 l x).f3, .int .i64 (rd_T28 l x).f4, .int .i64 (rd_T28 l x).f5, .int .i64 (rd_T28 l x).f6, .int .i64 (rd_T28 l x).f7, .int .i64 (rd_T28 l x).f8, .string (rd_T28 l x).f9, .string (rd_T28 l x).f10, .string (rd_T28 l x).f11, .string (rd_T28 l x).f12, .bool (rd_T28 l x).f13]) ?hx ?hy HX2.out ?hi ?ho ?h1 ?_; (case hd => rfl); (case hg => rfl); (case hx => first | (go_simp; done) | (go_simp; rfl)); (case hy => first | (go_simp; done) | (go_simp; rfl)); (case hi => kernel_rfl); (case ho => rfl); (case h1 => kernel_rfl); intro w3 hst hsb; have HC3 := Lib.hid (below_tr HC2.out (hsb.below HGe.out HC2.out.size)); have ce0 : World.cell? w3 ⟨ge, 0, none⟩ = some (.int .i64 (rd_T28 l x).f0) := (blk_cell hst 0).trans rfl; have ce1 : World.cell? w3 ⟨ge, 1, none⟩ = some (.int .i64 (rd_T28 l x).f1) := (blk_cell hst 1).trans rfl; have ce2 : World.cell? w3 ⟨ge, 2, none⟩ = some (.int .i64 (rd_T28 l x).f2) := (blk_cell hst 2).trans rfl; have ce3 : World.cell? w3 ⟨ge, 3, none⟩ = some (.int .i64 (rd_T28 l x).f3) := (blk_cell hst 3).trans rfl; have ce4 : World.cell? w3 ⟨ge, 4, none⟩ = some (.int .i64 (rd_T28 l x).f4) := (blk_cell hst 4).trans rfl; have ce5 : World.cell? w3 ⟨ge, 5, none⟩ = some (.int .i64 (rd_T28 l x).f5) := (blk_cell hst 5).trans rfl; have ce6 : World.cell? w3 ⟨ge, 6, none⟩ = some (.int .i64 (rd_T28 l x).f6) := (blk_cell hst 6).trans rfl; have ce7 : World.cell? w3 ⟨ge, 7, none⟩ = some (.int .i64 (rd_T28 l x).f7) := (blk_cell hst 7).trans rfl; have ce8 : World.cell? w3 ⟨ge, 8, none⟩ = some (.int .i64 (rd_T28 l x).f8) := (blk_cell hst 8).trans rfl; have ce9 : World.cell? w3 ⟨ge, 9, none⟩ = some (.string (rd_T28 l x).f9) := (blk_cell hst 9).trans rfl; have ce10 : World.cell? w3 ⟨ge, 10, none⟩ = some (.string (rd_T28 l x).f10) := (blk_cell hst 10).trans rfl; have ce11 : World.cell? w3 ⟨ge, 11, none⟩ = some (.string (rd_T28 l x).f11) := (blk_cell hst 11).trans rfl; have ce12 : World.cell? w3 ⟨ge, 12, none⟩ = some (.string (rd_T28 l x).f12) := (blk_cell hst 12).trans rfl; have ce13 : World.cell? w3 ⟨ge, 13, none⟩ = some (.bool (rd_T28 l x).f13) := (blk_cell hst 13).trans rfl; clear hst hsb) | ((go_at_call 21); (with_reducible refine (enc_calls (HL.out.below (below_step HBW.out HC3.out)) (evOf (rd_T28 l x)) HSZ.out).mono ?_); rintro r w4 ⟨rfl, hb⟩; have HC4 := Lib.hid (below_step HC3.out hb); clear hb) | ((go_at_call 32); (with_reducible refine (ws (B := w.heap.size) (b := gl) (bs := Lib.byteCells acc) (w0 := w4) ⟨builder_kp HBD.out (Kp.of HC4.out), Below.refl _ _, Lib.OthersKept.refl _ _ _, Nat.le_trans HBW.out.size HC4.out.size⟩ _ (by have := HAL.out; have := HEL.out; have := HXB.out; rw [Lib.byteCells_length]; omega)).mono ?_); rintro r w5 ⟨rfl, h⟩; have HWa := Lib.hid h; clear h) | ((go_at_call 33); (with_reducible refine (wb HWa.out _ (by have := HAL.out; have := HEL.out; have := HXB.out; rw [List.length_append, Lib.byteCells_length, Lib.strCells_length]; omega)).mono ?_); rintro r w6 ⟨rfl, h⟩; have HWb := Lib.hid h; clear h))
        go_roundg (l.length - x.toNat - 1)
        case measure => have := HI.out; have := HXL.out; omega
        case rel =>
          have hx := HI.out
          have hl := HXL.out
          have hm2 : x.toNat * (28 * m + 301) ≤ 140737488355328 := by have := HXB.out; omega
          have hxx : (x + 1).toNat = x.toNat + 1 := by omega
          have hsm : x ≤ 140737488355328 := by
            have h3 : x.toNat * 1 ≤ x.toNat * (28 * m + 301) := Nat.mul_le_mul_left _ (by omega)
            omega
          refine ⟨x + 1, acc ++ (encN (evOf (rd_T28 l x))).1.data.toList ++ [10], by first | rfl | (rw [wrap_in (by omega) (by omega)]), ⟨by omega⟩, ⟨?_⟩, ⟨?_⟩, ⟨?_⟩, ⟨?_⟩⟩
          · rw [hxx, HP.out, HD.out]
            exact if_pos hok
          · have h1 := HAL.out
            have h2 := HEL.out
            rw [hxx, Nat.add_mul]
            simp only [List.length_append, dlen, List.length_cons, List.length_nil]
            omega
          · exact below_tr (below_step HBW.out HC4.out) HWb.out.below
          · have h1 := HWb.out.is
            have h2 : Lib.byteCells acc ++ Lib.strCells (encN (evOf (rd_T28 l x))).1 ++ [.int .u8 10] = Lib.byteCells (acc ++ (encN (evOf (rd_T28 l x))).1.data.toList ++ [10]) := by
              rw [Lib.byteCells_append, Lib.byteCells_append]
              rfl
            rw [h2] at h1
            exact h1
      · have hokb : ((encN (evOf (rd_T28 l x))).2 != 0) = true := by simpa using hok
        go_wp2_with (first | ((with_reducible refine gate_dst (N := 6) rfl ?_); refine box_event ?hg (N := 6) ?hd (cs := #[.int .i64 0, .int .i64 0, .int .i64 0, .int .i64 0, .int .i64 0, .int .i64 0, .int .i64 0, .int .i64 0, .int .i64 0, .string (⟨#[]⟩ : ByteArray), .string (⟨#[]⟩ : ByteArray), .string (⟨#[]⟩ : ByteArray), .string (⟨#[]⟩ : ByteArray), .bool false]) (t := 28) ?hr ?_; (case hd => rfl); (case hg => rfl); (case hr => first | (go_simp; done) | (go_simp; rfl)); intro ge hgb w2 hbox hbb; have HX2 := Lib.hid hbox; have HGe := Lib.hid (Nat.le_of_eq hgb.symm); have HC2 := Lib.hid hbb; clear hgb hbox hbb) | ((with_reducible refine gate_store (t := 28) (p := 6) rfl ?_); refine store_event (ty := 28) (p := 6) rfl ?hg ?hd (cells := #[.int .i64 (rd_T28 l x).f0, .int .i64 (rd_T28 l x).f1, .int .i64 (rd_T28 l x).f2, .int .i64 (rd_T28 l x).f3, .int .i64 (rd_T28 l x).f4, .int .i64 (rd_T28 l x).f5, .int .i64 (rd_T28 l x).f6, .int .i64 (rd_T28 l x).f7, .int .i64 (rd_T28 l x).f8, .string (rd_T28 l x).f9, .string (rd_T28 l x).f10, .string (rd_T28 l x).f11, .string (rd_T28 l x).f12, .bool (rd_T28 l x).f13]) ?hx ?hy HX2.out ?hi ?ho ?h1 ?_; (case hd => rfl); (case hg => rfl); (case hx => first | (go_simp; done) | (go_simp; rfl)); (case hy => first | (go_simp; done) | (go_simp; rfl)); (case hi => kernel_rfl); (case ho => rfl); (case h1 => kernel_rfl); intro w3 hst hsb; have HC3 := Lib.hid (below_tr HC2.out (hsb.below HGe.out HC2.out.size)); have ce0 : World.cell? w3 ⟨ge, 0, none⟩ = some (.int .i64 (rd_T28 l x).f0) := (blk_cell hst 0).trans rfl; have ce1 : World.cell? w3 ⟨ge, 1, none⟩ = some (.int .i64 (rd_T28 l x).f1) := (blk_cell hst 1).trans rfl; have ce2 : World.cell? w3 ⟨ge, 2, none⟩ = some (.int .i64 (rd_T28 l x).f2) := (blk_cell hst 2).trans rfl; have ce3 : World.cell? w3 ⟨ge, 3, none⟩ = some (.int .i64 (rd_T28 l x).f3) := (blk_cell hst 3).trans rfl; have ce4 : World.cell? w3 ⟨ge, 4, none⟩ = some (.int .i64 (rd_T28 l x).f4) := (blk_cell hst 4).trans rfl; have ce5 : World.cell? w3 ⟨ge, 5, none⟩ = some (.int .i64 (rd_T28 l x).f5) := (blk_cell hst 5).trans rfl; have ce6 : World.cell? w3 ⟨ge, 6, none⟩ = some (.int .i64 (rd_T28 l x).f6) := (blk_cell hst 6).trans rfl; have ce7 : World.cell? w3 ⟨ge, 7, none⟩ = some (.int .i64 (rd_T28 l x).f7) := (blk_cell hst 7).trans rfl; have ce8 : World.cell? w3 ⟨ge, 8, none⟩ = some (.int .i64 (rd_T28 l x).f8) := (blk_cell hst 8).trans rfl; have ce9 : World.cell? w3 ⟨ge, 9, none⟩ = some (.string (rd_T28 l x).f9) := (blk_cell hst 9).trans rfl; have ce10 : World.cell? w3 ⟨ge, 10, none⟩ = some (.string (rd_T28 l x).f10) := (blk_cell hst 10).trans rfl; have ce11 : World.cell? w3 ⟨ge, 11, none⟩ = some (.string (rd_T28 l x).f11) := (blk_cell hst 11).trans rfl; have ce12 : World.cell? w3 ⟨ge, 12, none⟩ = some (.string (rd_T28 l x).f12) := (blk_cell hst 12).trans rfl; have ce13 : World.cell? w3 ⟨ge, 13, none⟩ = some (.bool (rd_T28 l x).f13) := (blk_cell hst 13).trans rfl; clear hst hsb) | ((go_at_call 21); (with_reducible refine (enc_calls (HL.out.below (below_step HBW.out HC3.out)) (evOf (rd_T28 l x)) HSZ.out).mono ?_); rintro r w4 ⟨rfl, hb⟩; have HC4 := Lib.hid (below_step HC3.out hb); clear hb))
        all_goals go_returns
        all_goals exact ⟨by rw [HP.out, HD.out]; simp only [textN, if_neg hok]; rfl, below_step HBW.out HC4.out⟩
    · have hx2 : decide (x < (l.length : Int)) = false := decide_eq_false c
      have HE0 := Lib.hid (show R = (ofL acc, 0) by
        have h1 := HP.out
        have h2 := HI.out
        rw [List.drop_eq_nil_of_le (by omega)] at h1
        exact h1)
      go_wp2_with ((go_at_call 34); (with_reducible refine (wstr (B := w.heap.size) (b := gl) (l := acc) (w0 := _) ⟨HBD.out, Below.refl _ _, Lib.OthersKept.refl _ _ _, HBW.out.size⟩).mono ?_); rintro r w9 ⟨rfl, hb⟩; have HB9 := Lib.hid hb; clear hb)
      all_goals go_returns
      all_goals exact ⟨by rw [HE0.out]; rfl, below_tr HBW.out HB9.out⟩
end Go.Proofs.YtnblabfkkcohgaaGreatDoor.Wire
end
section
/- Text as the printed texts want it. -/
namespace Go.Proofs.YtnblabfkkcohgaaGreatDoor.TxtG
open Go Go.Shelf Go.RowKit Go.Proofs.YtnblabfkkcohgaaGreatDoor.Given Go.Proofs.YtnblabfkkcohgaaGreatDoorW.PrintWords Go.Proofs.YtnblabfkkcohgaaGreatDoor.Wire Go.Proofs.YtnblabfkkcohgaaGreatDoor.PWireOne
/-- Events whose texts are no longer than 2^20 bytes. -/
def smallE (x : S28) : Bool := decide (x.f9.size ≤ 1048576) && (decide (x.f10.size ≤ 1048576) && (decide (x.f11.size ≤ 1048576) && decide (x.f12.size ≤ 1048576)))
theorem small_sz {x : S28} (h : smallE x = true) : Sz 1048576 (evOf x) := by
  unfold smallE at h
  simp only [Bool.and_eq_true, decide_eq_true_eq] at h
  exact ⟨h.1, h.2.1, h.2.2.1, h.2.2.2⟩
/-- Text, at lists of at most 2^20 events, each text of at most 2^20 bytes. -/
def given_Text.f (l : List S28) : Option (ByteArray × Int) := if l.all smallE = true ∧ l.length ≤ 1048576 then some (textN (l.map evOf) []) else none
theorem rd_small {l : List S28} (h : l.all smallE = true) (x : Int) : Sz 1048576 (evOf (rd_T28 l x)) := by
  unfold rd_T28
  rw [List.getD_eq_getElem?_getD]
  cases hx : l[x.toNat]? with
  | none => exact ⟨Nat.zero_le _, Nat.zero_le _, Nat.zero_le _, Nat.zero_le _⟩
  | some y => exact small_sz (List.all_eq_true.1 h y (List.mem_of_getElem? hx))
theorem given_Text.calls (A : Option Addr) (c : Nat) (l : List S28) (r1 : ByteArray) (r2 : Int) (w : World) (hr : Kd.C k28 w A l.length l) (hc : l.length ≤ c) (hL : LaidW w) (h : given_Text.f l = some (r1, r2)) :
    Calls Tryz.prog 17 #[.slice A l.length c] w fun e w' => e = .returned (.tuple #[.string r1, .int .i64 r2]) ∧ Below w.heap.size w w' := by
  unfold given_Text.f at h
  split at h
  · rename_i hs
    have h1 := Option.some.inj h
    have hb : l.length * (28 * 1048576 + 301) ≤ 140737488355328 := by
      have := Nat.mul_le_mul_right (28 * 1048576 + 301) hs.2
      omega
    have ht := text_calls hL A c l hr hc 1048576 (by omega) (rd_small hs.1) hb
    rw [h1] at ht
    exact ht
  · cases h
end Go.Proofs.YtnblabfkkcohgaaGreatDoor.TxtG
end
