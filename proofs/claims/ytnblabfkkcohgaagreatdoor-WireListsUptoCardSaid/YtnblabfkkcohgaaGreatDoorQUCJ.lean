/- Texts of this claim, put together by a program of this session (prune.py): LawP. -/
import Derived.Test.YtnblabfkkcohgaaGreatDoorQUCI
import Derived.Test.YtnblabfkkcohgaaGreatDoorQUCF
section
/- WireBack, WireTotal, WireForged: what the laws reckon is true. -/
namespace Go.Proofs.YtnblabfkkcohgaaGreatDoor.LawP
set_option linter.unusedVariables false
set_option linter.unusedSimpArgs false
open Go Go.Shelf Go.RowKit Go.Proofs.YtnblabfkkcohgaaGreatDoor.Wire Go.Proofs.YtnblabfkkcohgaaGreatDoor.LawG Go.Proofs.YtnblabfkkcohgaaGreatDoor.CutG Go.Proofs.YtnblabfkkcohgaaGreatDoor.Given Go.Proofs.YtnblabfkkcohgaaGreatDoor.PLwA

theorem enc_val {e : Evt} {m : Nat} (h : Sz m e) (hm : m ≤ 1099511627776) : given_Encode.f e.kind e.session e.window e.pane e.index e.offset e.tick e.number e.flag e.name e.text e.layout e.visible e.zoom = some (encN e) := by
  unfold given_Encode.f
  rw [if_pos ⟨by have := h.name; omega, by have := h.text; omega, by have := h.layout; omega, by have := h.visible; omega⟩]
theorem dec_val {s : ByteArray} (h : s.size ≤ 1099511627776) : given_Decode.f s = some ((decN s).kind, (decN s).session, (decN s).window, (decN s).pane, (decN s).index, (decN s).offset, (decN s).tick, (decN s).number, (decN s).flag, (decN s).name, (decN s).text, (decN s).layout, (decN s).visible, (decN s).zoom) := by
  unfold given_Decode.f
  rw [if_pos h]
/-- A line's class by its event's kind. -/
def classN (k : Int) : Int := if k = 25 then 0 else if k = 1 then 2 else if k = 2 then 4 else if k = 3 then 4 else if k = 4 then 3 else if k = 24 then 5 else 1
theorem class_val {s : ByteArray} (h : s.size ≤ 1099511627776) (k : Nat) : wire_Class.f (k + 1) s = some (classN (decN s).kind) := by
  unfold wire_Class.f
  rw [dec_val h]
  simp only [Option.bind_some, wire_Class.j0]
  generalize (decN s).kind = x
  unfold classN
  by_cases h1 : x = 25
  · rw [if_pos h1, if_pos h1]
  · rw [if_neg h1, if_neg h1]
    by_cases h2 : x = 1
    · rw [if_pos h2, if_pos h2]
    · rw [if_neg h2, if_neg h2]
      by_cases h3 : x = 2
      · rw [if_pos h3, if_pos h3]
        simp [h3]
      · rw [if_neg h3, if_neg h3]
        by_cases h4 : x = 3
        · rw [if_pos h4]
          simp [h4]
        · rw [if_neg h4, if_neg (by simpa using h4)]
          by_cases h5 : x = 4
          · rw [if_pos h5, if_pos h5]
          · rw [if_neg h5, if_neg h5]
            by_cases h6 : x = 24
            · rw [if_pos h6, if_pos h6]
            · rw [if_neg h6, if_neg h6]
def linkEv : Evt := ⟨18, 1, 3, 0, 2, 0, 0, 0, 0, ⟨#[]⟩, ⟨#[]⟩, ⟨#[]⟩, ⟨#[]⟩, false⟩
theorem id1 (m : UInt8) (n : Nat) (h1 : 1 ≤ n) (h : n < 10) : putIdN m n = [m, UInt8.ofNat (48 + n)] := by
  unfold putIdN
  rw [if_pos (by omega), Int.toNat_natCast, Lib.decDigits_one h]
theorem num1 (n : Nat) (h : n < 10) : putNumN n = [UInt8.ofNat (48 + n)] := by
  unfold putNumN
  rw [if_pos (by omega), Int.toNat_natCast, Lib.decDigits_one h]
theorem enc_link : encN linkEv = (ofL [37, 119, 105, 110, 100, 111, 119, 45, 108, 105, 110, 107, 32, 36, 49, 32, 50, 32, 64, 51], 0) := by
  have a1 : (Fd.id 36 .session).put linkEv = (ofL [36, 49], true) := by
    show (ofL (putIdN 36 ((1 : Nat) : Int)), !(ofL (putIdN 36 ((1 : Nat) : Int))).toList.isEmpty) = _
    rw [id1 36 1 (by omega) (by omega), ofL_toList]
    rfl
  have a2 : (Fd.num .index 9999).put linkEv = (ofL [50], true) := by
    show (ofL (putNumN ((2 : Nat) : Int)), decide ((0 : Int) ≤ 2) && decide ((2 : Int) ≤ 9999)) = _
    rw [num1 2 (by omega)]
    rfl
  have a3 : (Fd.id 64 .window).put linkEv = (ofL [64, 51], true) := by
    show (ofL (putIdN 64 ((3 : Nat) : Int)), !(ofL (putIdN 64 ((3 : Nat) : Int))).toList.isEmpty) = _
    rw [id1 64 3 (by omega) (by omega), ofL_toList]
    rfl
  unfold encN
  rw [if_neg (show ¬ linkEv.kind = 4 by decide), if_neg (show ¬ linkEv = bareEv 24 by decide), if_neg (show ¬ (kwN linkEv.kind).toList.isEmpty = true by decide +kernel)]
  rw [show fdsOf linkEv.kind.toNat = [.id 36 .session, .num .index 9999, .id 64 .window] from rfl]
  simp only [putsN]
  rw [a1, a2, a3]
  simp only [if_pos]
  rw [if_pos (by decide)]
  rw [show (kwN linkEv.kind).data.toList = [37, 119, 105, 110, 100, 111, 119, 45, 108, 105, 110, 107] by decide +kernel]
  rfl
theorem sure_val : mullionlaw03_sure.f = some true := by
  unfold mullionlaw03_sure.f
  rw [show given_Encode.f 18 1 3 0 2 0 0 0 0 (⟨#[]⟩ : ByteArray) (⟨#[]⟩ : ByteArray) (⟨#[]⟩ : ByteArray) (⟨#[]⟩ : ByteArray) false = some (encN linkEv) from enc_val (e := linkEv) (m := 0) ⟨Nat.le_refl _, Nat.le_refl _, Nat.le_refl _, Nat.le_refl _⟩ (by omega)]
  have hd : decN (encN linkEv).1 = linkEv := dec_enc (by rw [enc_link])
  rw [enc_link] at hd ⊢
  simp only [Option.bind_some, ofL_toList, if_pos]
  rw [dec_val (by rw [ofL_size]; decide), hd]
  simp only [Option.bind_some, linkEv, ByteArray.toList_eq]
  decide
end Go.Proofs.YtnblabfkkcohgaaGreatDoor.LawP
end
