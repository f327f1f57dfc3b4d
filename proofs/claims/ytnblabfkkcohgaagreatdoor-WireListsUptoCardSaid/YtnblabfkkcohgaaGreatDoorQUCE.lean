/- Texts of this claim, put together by a program of this session (prune.py): PWireOnex2, PWireOnex, FldH, EncA, EncB, EncC, CutA, CutG, PKofx0. -/
import Derived.Test.YtnblabfkkcohgaaGreatDoorQUCD
import Derived.Laws.ResultCell
import Derived.Great.BuildSlice
import Derived.Laws.Tables
import Derived.Test.YtnblabfkkcohgaaGreatDoorQUCB
import Derived.Shelf.RegionOpen
import Derived.Test.YtnblabfkkcohgaaGreatDoorProg
import Derived.Below
import Derived.Deep.Draws
import Derived.Deep.AppendLies
import Derived.Maps.AppendAt
import Derived.OwnWalk
import Derived.Laws.BytesArg
import Derived.Laws.MakeOwn
import Derived.Laws.OwnMore
import Derived.Deep.OwnRows
import Derived.Tactics
import Derived.Lib.ConvBytes
import Derived.Laws.Slices
import Derived.WalkKit
import Derived.KernelRfl
import Derived.RowKit3
import Derived.Deep.LoopGhost
import Derived.Deep.QuietTactic
import Derived.BigQuiet
import Derived.WideLaws
import Derived.Deep.DeepCutAuto
import Derived.Deep.CutBlock
import Derived.Deep.RegionHeld3
import Derived.Laws.Rows
import Derived.Lib.AppendStr
import Derived.ArgAppend
import Derived.Laws.IdiomCopy
import Derived.OrdersHeld
import Derived.Laws.BitsLemmas
import Derived.RowKit
import Derived.Test.YtnblabfkkcohgaaGreatDoorQUWWords
import Derived.Test.YtnblabfkkcohgaaGreatDoorQUWLast
import Derived.Test.YtnblabfkkcohgaaGreatDoorQUWTab
import Derived.Test.YtnblabfkkcohgaaGreatDoorQUWFour
import Derived.Test.YtnblabfkkcohgaaGreatDoorQUWQPut
import Derived.Test.YtnblabfkkcohgaaGreatDoorQUWApart
import Derived.Test.YtnblabfkkcohgaaGreatDoorQUWArr
import Derived.Test.YtnblabfkkcohgaaGreatDoorQUWZeros
import Derived.Test.YtnblabfkkcohgaaGreatDoorQUWFoot
import Derived.Test.YtnblabfkkcohgaaGreatDoorQUWKept
import Derived.Test.YtnblabfkkcohgaaGreatDoorQUWShare
import Derived.Test.YtnblabfkkcohgaaGreatDoorQUWN
import Derived.Test.YtnblabfkkcohgaaGreatDoorQUWFootNe
import Derived.Test.YtnblabfkkcohgaaGreatDoorQUWAt
import Derived.Test.YtnblabfkkcohgaaGreatDoorQUWEqStruct
import Derived.Test.YtnblabfkkcohgaaGreatDoorQUWRepsOne
import Derived.Test.YtnblabfkkcohgaaGreatDoorQUWInv
import Derived.Test.YtnblabfkkcohgaaGreatDoorQUWInvWords
import Derived.Test.YtnblabfkkcohgaaGreatDoorQUWGuard
import Derived.Test.YtnblabfkkcohgaaGreatDoorQUWNEv
import Derived.Test.YtnblabfkkcohgaaGreatDoorQUWMore
section
-- Printed by a program of the kit, cut by a program of this session (prune.py). Lean checks it.
namespace Go.Proofs.YtnblabfkkcohgaaGreatDoor.PWireOne
open Go.RowKit Go.Proofs.YtnblabfkkcohgaaGreatDoorW.PrintWords Go.Proofs.YtnblabfkkcohgaaGreatDoorW.PrintLast Go.Proofs.YtnblabfkkcohgaaGreatDoorW.PrintMore
attribute [local go_sem] max2_int min2_int max_two min_two max_three min_three max_four min_four   -- for this text's walks alone
set_option linter.unusedVariables false
set_option linter.unusedSimpArgs false

attribute [local go_sem high] eqA28
-- NOT PRINTED: function 87 (abi_NoEscape)

-- NOT PRINTED: function 53 (strings_Builder_copyCheck)

-- NOT PRINTED: function 32 (strings_Builder_WriteString)

-- NOT PRINTED: function 33 (strings_Builder_WriteByte)

-- NOT PRINTED: function 34 (strings_Builder_String)

/-! ### octal_must: function 88 -/
def octal_must.f (a0 : Int) : Option (Bool) := if a0 < 32 then (some true) else (some (a0 == 92))
set_option maxHeartbeats 8000000 in
set_option maxRecDepth 100000 in
theorem octal_must.calls (a0 : Int) (r : Bool) (w : World) (h : octal_must.f a0 = some r) :
    Calls Tryz.prog 88 #[.int .u8 a0] w fun e w' => e = .returned (.bool r) ∧ Drawn0 w w' := by
  have H : (if a0 < 32 then (some true) else (some (a0 == 92))) = some r := h
  clear h
  by_cases c2 : a0 < 32
  · rw [if_pos c2] at H
    have c2b0 : decide (a0 < 32) = true := decide_eq_true c2
    clear c2
    obtain rfl := Option.some.inj H
    go_enter Tryz.func88, Tryz.ntmps88
    go_wp2
    go_ret
    exact ⟨by first | rfl | (simp; done) | (simp [*]; done), by repeat (first | exact Drawn0.refl _ | apply Drawn0.step)⟩
  · rw [if_neg c2] at H
    have c2b0 : decide (a0 < 32) = false := decide_eq_false c2
    clear c2
    obtain rfl := Option.some.inj H
    go_enter Tryz.func88, Tryz.ntmps88
    go_wp2
    go_ret
    exact ⟨by first | rfl | (simp; done) | (simp [*]; done), by repeat (first | exact Drawn0.refl _ | apply Drawn0.step)⟩

-- NOT PRINTED: function 89 (octal_put)

-- NOT PRINTED: function 54 (octal_Escape)

-- NOT PRINTED: function 35 (octal_EscapeBody)

/-! ### wire_word: function 36 -/
def wire_word.f (a0 : Int) : Option (ByteArray) := if a0 = 1 then (some (⟨#[37, 98, 101, 103, 105, 110]⟩ : ByteArray)) else (if a0 = 2 then (some (⟨#[37, 101, 110, 100]⟩ : ByteArray)) else (if a0 = 3 then (some (⟨#[37, 101, 114, 114, 111, 114]⟩ : ByteArray)) else (if a0 = 5 then (some (⟨#[37, 111, 117, 116, 112, 117, 116]⟩ : ByteArray)) else (if a0 = 6 then (some (⟨#[37, 112, 97, 117, 115, 101]⟩ : ByteArray)) else (if a0 = 7 then (some (⟨#[37, 99, 111, 110, 116, 105, 110, 117, 101]⟩ : ByteArray)) else (if a0 = 8 then (some (⟨#[37, 112, 97, 110, 101, 45, 97, 100, 100]⟩ : ByteArray)) else (if a0 = 9 then (some (⟨#[37, 112, 97, 110, 101, 45, 99, 108, 111, 115, 101]⟩ : ByteArray)) else (if a0 = 10 then (some (⟨#[37, 119, 105, 110, 100, 111, 119, 45, 97, 100, 100]⟩ : ByteArray)) else (if a0 = 11 then (some (⟨#[37, 119, 105, 110, 100, 111, 119, 45, 99, 108, 111, 115, 101]⟩ : ByteArray)) else (if a0 = 12 then (some (⟨#[37, 119, 105, 110, 100, 111, 119, 45, 114, 101, 110, 97, 109, 101, 100]⟩ : ByteArray)) else (if a0 = 13 then (some (⟨#[37, 108, 97, 121, 111, 117, 116, 45, 99, 104, 97, 110, 103, 101]⟩ : ByteArray)) else (if a0 = 14 then (some (⟨#[37, 119, 105, 110, 100, 111, 119, 45, 112, 97, 110, 101, 45, 99, 104, 97, 110, 103, 101, 100]⟩ : ByteArray)) else (if a0 = 15 then (some (⟨#[37, 115, 101, 115, 115, 105, 111, 110, 45, 97, 100, 100]⟩ : ByteArray)) else (if a0 = 16 then (some (⟨#[37, 115, 101, 115, 115, 105, 111, 110, 45, 99, 108, 111, 115, 101]⟩ : ByteArray)) else (if a0 = 17 then (some (⟨#[37, 115, 101, 115, 115, 105, 111, 110, 45, 114, 101, 110, 97, 109, 101, 100]⟩ : ByteArray)) else (if a0 = 18 then (some (⟨#[37, 119, 105, 110, 100, 111, 119, 45, 108, 105, 110, 107]⟩ : ByteArray)) else (if a0 = 19 then (some (⟨#[37, 119, 105, 110, 100, 111, 119, 45, 117, 110, 108, 105, 110, 107]⟩ : ByteArray)) else (if a0 = 20 then (some (⟨#[37, 115, 101, 115, 115, 105, 111, 110, 45, 119, 105, 110, 100, 111, 119, 45, 99, 104, 97, 110, 103, 101, 100]⟩ : ByteArray)) else (if a0 = 21 then (some (⟨#[37, 115, 101, 115, 115, 105, 111, 110, 45, 99, 104, 97, 110, 103, 101, 100]⟩ : ByteArray)) else (if a0 = 22 then (some (⟨#[37, 115, 117, 98, 115, 99, 114, 105, 112, 116, 105, 111, 110, 45, 99, 104, 97, 110, 103, 101, 100]⟩ : ByteArray)) else (if a0 = 23 then (some (⟨#[37, 109, 101, 115, 115, 97, 103, 101]⟩ : ByteArray)) else (if a0 = 24 then (some (⟨#[37, 101, 120, 105, 116]⟩ : ByteArray)) else (some (⟨#[]⟩ : ByteArray))))))))))))))))))))))))
set_option maxHeartbeats 8000000 in
set_option maxRecDepth 100000 in
theorem wire_word.calls (a0 : Int) (r : ByteArray) (w : World) (h : wire_word.f a0 = some r) :
    Calls Tryz.prog 36 #[.int .i64 a0] w fun e w' => e = .returned (.string r) ∧ Drawn0 w w' := by
  have H : (if a0 = 1 then (some (⟨#[37, 98, 101, 103, 105, 110]⟩ : ByteArray)) else (if a0 = 2 then (some (⟨#[37, 101, 110, 100]⟩ : ByteArray)) else (if a0 = 3 then (some (⟨#[37, 101, 114, 114, 111, 114]⟩ : ByteArray)) else (if a0 = 5 then (some (⟨#[37, 111, 117, 116, 112, 117, 116]⟩ : ByteArray)) else (if a0 = 6 then (some (⟨#[37, 112, 97, 117, 115, 101]⟩ : ByteArray)) else (if a0 = 7 then (some (⟨#[37, 99, 111, 110, 116, 105, 110, 117, 101]⟩ : ByteArray)) else (if a0 = 8 then (some (⟨#[37, 112, 97, 110, 101, 45, 97, 100, 100]⟩ : ByteArray)) else (if a0 = 9 then (some (⟨#[37, 112, 97, 110, 101, 45, 99, 108, 111, 115, 101]⟩ : ByteArray)) else (if a0 = 10 then (some (⟨#[37, 119, 105, 110, 100, 111, 119, 45, 97, 100, 100]⟩ : ByteArray)) else (if a0 = 11 then (some (⟨#[37, 119, 105, 110, 100, 111, 119, 45, 99, 108, 111, 115, 101]⟩ : ByteArray)) else (if a0 = 12 then (some (⟨#[37, 119, 105, 110, 100, 111, 119, 45, 114, 101, 110, 97, 109, 101, 100]⟩ : ByteArray)) else (if a0 = 13 then (some (⟨#[37, 108, 97, 121, 111, 117, 116, 45, 99, 104, 97, 110, 103, 101]⟩ : ByteArray)) else (if a0 = 14 then (some (⟨#[37, 119, 105, 110, 100, 111, 119, 45, 112, 97, 110, 101, 45, 99, 104, 97, 110, 103, 101, 100]⟩ : ByteArray)) else (if a0 = 15 then (some (⟨#[37, 115, 101, 115, 115, 105, 111, 110, 45, 97, 100, 100]⟩ : ByteArray)) else (if a0 = 16 then (some (⟨#[37, 115, 101, 115, 115, 105, 111, 110, 45, 99, 108, 111, 115, 101]⟩ : ByteArray)) else (if a0 = 17 then (some (⟨#[37, 115, 101, 115, 115, 105, 111, 110, 45, 114, 101, 110, 97, 109, 101, 100]⟩ : ByteArray)) else (if a0 = 18 then (some (⟨#[37, 119, 105, 110, 100, 111, 119, 45, 108, 105, 110, 107]⟩ : ByteArray)) else (if a0 = 19 then (some (⟨#[37, 119, 105, 110, 100, 111, 119, 45, 117, 110, 108, 105, 110, 107]⟩ : ByteArray)) else (if a0 = 20 then (some (⟨#[37, 115, 101, 115, 115, 105, 111, 110, 45, 119, 105, 110, 100, 111, 119, 45, 99, 104, 97, 110, 103, 101, 100]⟩ : ByteArray)) else (if a0 = 21 then (some (⟨#[37, 115, 101, 115, 115, 105, 111, 110, 45, 99, 104, 97, 110, 103, 101, 100]⟩ : ByteArray)) else (if a0 = 22 then (some (⟨#[37, 115, 117, 98, 115, 99, 114, 105, 112, 116, 105, 111, 110, 45, 99, 104, 97, 110, 103, 101, 100]⟩ : ByteArray)) else (if a0 = 23 then (some (⟨#[37, 109, 101, 115, 115, 97, 103, 101]⟩ : ByteArray)) else (if a0 = 24 then (some (⟨#[37, 101, 120, 105, 116]⟩ : ByteArray)) else (some (⟨#[]⟩ : ByteArray))))))))))))))))))))))))) = some r := h
  clear h
  by_cases c2 : a0 = 1
  · rw [if_pos c2] at H
    have c2b0 : (a0 == 1) = true := beq_iff_eq.mpr c2
    have c2b1 : (a0 != 1) = false := bne_eq_false_iff_eq.mpr c2
    clear c2
    obtain rfl := Option.some.inj H
    go_enter Tryz.func36, Tryz.ntmps36
    go_wp2
    go_ret
    exact ⟨by first | rfl | (simp; done) | (simp [*]; done), by repeat (first | exact Drawn0.refl _ | apply Drawn0.step)⟩
  · rw [if_neg c2] at H
    have c2b0 : (a0 == 1) = false := beq_eq_false_iff_ne.mpr c2
    have c2b1 : (a0 != 1) = true := bne_iff_ne.mpr c2
    by_cases c3 : a0 = 2
    · rw [if_pos c3] at H
      have c3b0 : (a0 == 2) = true := beq_iff_eq.mpr c3
      have c3b1 : (a0 != 2) = false := bne_eq_false_iff_eq.mpr c3
      clear c3
      obtain rfl := Option.some.inj H
      go_enter Tryz.func36, Tryz.ntmps36
      go_wp2
      go_ret
      exact ⟨by first | rfl | (simp; done) | (simp [*]; done), by repeat (first | exact Drawn0.refl _ | apply Drawn0.step)⟩
    · rw [if_neg c3] at H
      have c3b0 : (a0 == 2) = false := beq_eq_false_iff_ne.mpr c3
      have c3b1 : (a0 != 2) = true := bne_iff_ne.mpr c3
      by_cases c4 : a0 = 3
      · rw [if_pos c4] at H
        have c4b0 : (a0 == 3) = true := beq_iff_eq.mpr c4
        have c4b1 : (a0 != 3) = false := bne_eq_false_iff_eq.mpr c4
        clear c4
        obtain rfl := Option.some.inj H
        go_enter Tryz.func36, Tryz.ntmps36
        go_wp2
        go_ret
        exact ⟨by first | rfl | (simp; done) | (simp [*]; done), by repeat (first | exact Drawn0.refl _ | apply Drawn0.step)⟩
      · rw [if_neg c4] at H
        have c4b0 : (a0 == 3) = false := beq_eq_false_iff_ne.mpr c4
        have c4b1 : (a0 != 3) = true := bne_iff_ne.mpr c4
        by_cases c5 : a0 = 5
        · rw [if_pos c5] at H
          have c5b0 : (a0 == 5) = true := beq_iff_eq.mpr c5
          have c5b1 : (a0 != 5) = false := bne_eq_false_iff_eq.mpr c5
          clear c5
          obtain rfl := Option.some.inj H
          go_enter Tryz.func36, Tryz.ntmps36
          go_wp2
          go_ret
          exact ⟨by first | rfl | (simp; done) | (simp [*]; done), by repeat (first | exact Drawn0.refl _ | apply Drawn0.step)⟩
        · rw [if_neg c5] at H
          have c5b0 : (a0 == 5) = false := beq_eq_false_iff_ne.mpr c5
          have c5b1 : (a0 != 5) = true := bne_iff_ne.mpr c5
          by_cases c6 : a0 = 6
          · rw [if_pos c6] at H
            have c6b0 : (a0 == 6) = true := beq_iff_eq.mpr c6
            have c6b1 : (a0 != 6) = false := bne_eq_false_iff_eq.mpr c6
            clear c6
            obtain rfl := Option.some.inj H
            go_enter Tryz.func36, Tryz.ntmps36
            go_wp2
            go_ret
            exact ⟨by first | rfl | (simp; done) | (simp [*]; done), by repeat (first | exact Drawn0.refl _ | apply Drawn0.step)⟩
          · rw [if_neg c6] at H
            have c6b0 : (a0 == 6) = false := beq_eq_false_iff_ne.mpr c6
            have c6b1 : (a0 != 6) = true := bne_iff_ne.mpr c6
            by_cases c7 : a0 = 7
            · rw [if_pos c7] at H
              have c7b0 : (a0 == 7) = true := beq_iff_eq.mpr c7
              have c7b1 : (a0 != 7) = false := bne_eq_false_iff_eq.mpr c7
              clear c7
              obtain rfl := Option.some.inj H
              go_enter Tryz.func36, Tryz.ntmps36
              go_wp2
              go_ret
              exact ⟨by first | rfl | (simp; done) | (simp [*]; done), by repeat (first | exact Drawn0.refl _ | apply Drawn0.step)⟩
            · rw [if_neg c7] at H
              have c7b0 : (a0 == 7) = false := beq_eq_false_iff_ne.mpr c7
              have c7b1 : (a0 != 7) = true := bne_iff_ne.mpr c7
              by_cases c8 : a0 = 8
              · rw [if_pos c8] at H
                have c8b0 : (a0 == 8) = true := beq_iff_eq.mpr c8
                have c8b1 : (a0 != 8) = false := bne_eq_false_iff_eq.mpr c8
                clear c8
                obtain rfl := Option.some.inj H
                go_enter Tryz.func36, Tryz.ntmps36
                go_wp2
                go_ret
                exact ⟨by first | rfl | (simp; done) | (simp [*]; done), by repeat (first | exact Drawn0.refl _ | apply Drawn0.step)⟩
              · rw [if_neg c8] at H
                have c8b0 : (a0 == 8) = false := beq_eq_false_iff_ne.mpr c8
                have c8b1 : (a0 != 8) = true := bne_iff_ne.mpr c8
                by_cases c9 : a0 = 9
                · rw [if_pos c9] at H
                  have c9b0 : (a0 == 9) = true := beq_iff_eq.mpr c9
                  have c9b1 : (a0 != 9) = false := bne_eq_false_iff_eq.mpr c9
                  clear c9
                  obtain rfl := Option.some.inj H
                  go_enter Tryz.func36, Tryz.ntmps36
                  go_wp2
                  go_ret
                  exact ⟨by first | rfl | (simp; done) | (simp [*]; done), by repeat (first | exact Drawn0.refl _ | apply Drawn0.step)⟩
                · rw [if_neg c9] at H
                  have c9b0 : (a0 == 9) = false := beq_eq_false_iff_ne.mpr c9
                  have c9b1 : (a0 != 9) = true := bne_iff_ne.mpr c9
                  by_cases c10 : a0 = 10
                  · rw [if_pos c10] at H
                    have c10b0 : (a0 == 10) = true := beq_iff_eq.mpr c10
                    have c10b1 : (a0 != 10) = false := bne_eq_false_iff_eq.mpr c10
                    clear c10
                    obtain rfl := Option.some.inj H
                    go_enter Tryz.func36, Tryz.ntmps36
                    go_wp2
                    go_ret
                    exact ⟨by first | rfl | (simp; done) | (simp [*]; done), by repeat (first | exact Drawn0.refl _ | apply Drawn0.step)⟩
                  · rw [if_neg c10] at H
                    have c10b0 : (a0 == 10) = false := beq_eq_false_iff_ne.mpr c10
                    have c10b1 : (a0 != 10) = true := bne_iff_ne.mpr c10
                    by_cases c11 : a0 = 11
                    · rw [if_pos c11] at H
                      have c11b0 : (a0 == 11) = true := beq_iff_eq.mpr c11
                      have c11b1 : (a0 != 11) = false := bne_eq_false_iff_eq.mpr c11
                      clear c11
                      obtain rfl := Option.some.inj H
                      go_enter Tryz.func36, Tryz.ntmps36
                      go_wp2
                      go_ret
                      exact ⟨by first | rfl | (simp; done) | (simp [*]; done), by repeat (first | exact Drawn0.refl _ | apply Drawn0.step)⟩
                    · rw [if_neg c11] at H
                      have c11b0 : (a0 == 11) = false := beq_eq_false_iff_ne.mpr c11
                      have c11b1 : (a0 != 11) = true := bne_iff_ne.mpr c11
                      by_cases c12 : a0 = 12
                      · rw [if_pos c12] at H
                        have c12b0 : (a0 == 12) = true := beq_iff_eq.mpr c12
                        have c12b1 : (a0 != 12) = false := bne_eq_false_iff_eq.mpr c12
                        clear c12
                        obtain rfl := Option.some.inj H
                        go_enter Tryz.func36, Tryz.ntmps36
                        go_wp2
                        go_ret
                        exact ⟨by first | rfl | (simp; done) | (simp [*]; done), by repeat (first | exact Drawn0.refl _ | apply Drawn0.step)⟩
                      · rw [if_neg c12] at H
                        have c12b0 : (a0 == 12) = false := beq_eq_false_iff_ne.mpr c12
                        have c12b1 : (a0 != 12) = true := bne_iff_ne.mpr c12
                        by_cases c13 : a0 = 13
                        · rw [if_pos c13] at H
                          have c13b0 : (a0 == 13) = true := beq_iff_eq.mpr c13
                          have c13b1 : (a0 != 13) = false := bne_eq_false_iff_eq.mpr c13
                          clear c13
                          obtain rfl := Option.some.inj H
                          go_enter Tryz.func36, Tryz.ntmps36
                          go_wp2
                          go_ret
                          exact ⟨by first | rfl | (simp; done) | (simp [*]; done), by repeat (first | exact Drawn0.refl _ | apply Drawn0.step)⟩
                        · rw [if_neg c13] at H
                          have c13b0 : (a0 == 13) = false := beq_eq_false_iff_ne.mpr c13
                          have c13b1 : (a0 != 13) = true := bne_iff_ne.mpr c13
                          by_cases c14 : a0 = 14
                          · rw [if_pos c14] at H
                            have c14b0 : (a0 == 14) = true := beq_iff_eq.mpr c14
                            have c14b1 : (a0 != 14) = false := bne_eq_false_iff_eq.mpr c14
                            clear c14
                            obtain rfl := Option.some.inj H
                            go_enter Tryz.func36, Tryz.ntmps36
                            go_wp2
                            go_ret
                            exact ⟨by first | rfl | (simp; done) | (simp [*]; done), by repeat (first | exact Drawn0.refl _ | apply Drawn0.step)⟩
                          · rw [if_neg c14] at H
                            have c14b0 : (a0 == 14) = false := beq_eq_false_iff_ne.mpr c14
                            have c14b1 : (a0 != 14) = true := bne_iff_ne.mpr c14
                            by_cases c15 : a0 = 15
                            · rw [if_pos c15] at H
                              have c15b0 : (a0 == 15) = true := beq_iff_eq.mpr c15
                              have c15b1 : (a0 != 15) = false := bne_eq_false_iff_eq.mpr c15
                              clear c15
                              obtain rfl := Option.some.inj H
                              go_enter Tryz.func36, Tryz.ntmps36
                              go_wp2
                              go_ret
                              exact ⟨by first | rfl | (simp; done) | (simp [*]; done), by repeat (first | exact Drawn0.refl _ | apply Drawn0.step)⟩
                            · rw [if_neg c15] at H
                              have c15b0 : (a0 == 15) = false := beq_eq_false_iff_ne.mpr c15
                              have c15b1 : (a0 != 15) = true := bne_iff_ne.mpr c15
                              by_cases c16 : a0 = 16
                              · rw [if_pos c16] at H
                                have c16b0 : (a0 == 16) = true := beq_iff_eq.mpr c16
                                have c16b1 : (a0 != 16) = false := bne_eq_false_iff_eq.mpr c16
                                clear c16
                                obtain rfl := Option.some.inj H
                                go_enter Tryz.func36, Tryz.ntmps36
                                go_wp2
                                go_ret
                                exact ⟨by first | rfl | (simp; done) | (simp [*]; done), by repeat (first | exact Drawn0.refl _ | apply Drawn0.step)⟩
                              · rw [if_neg c16] at H
                                have c16b0 : (a0 == 16) = false := beq_eq_false_iff_ne.mpr c16
                                have c16b1 : (a0 != 16) = true := bne_iff_ne.mpr c16
                                by_cases c17 : a0 = 17
                                · rw [if_pos c17] at H
                                  have c17b0 : (a0 == 17) = true := beq_iff_eq.mpr c17
                                  have c17b1 : (a0 != 17) = false := bne_eq_false_iff_eq.mpr c17
                                  clear c17
                                  obtain rfl := Option.some.inj H
                                  go_enter Tryz.func36, Tryz.ntmps36
                                  go_wp2
                                  go_ret
                                  exact ⟨by first | rfl | (simp; done) | (simp [*]; done), by repeat (first | exact Drawn0.refl _ | apply Drawn0.step)⟩
                                · rw [if_neg c17] at H
                                  have c17b0 : (a0 == 17) = false := beq_eq_false_iff_ne.mpr c17
                                  have c17b1 : (a0 != 17) = true := bne_iff_ne.mpr c17
                                  by_cases c18 : a0 = 18
                                  · rw [if_pos c18] at H
                                    have c18b0 : (a0 == 18) = true := beq_iff_eq.mpr c18
                                    have c18b1 : (a0 != 18) = false := bne_eq_false_iff_eq.mpr c18
                                    clear c18
                                    obtain rfl := Option.some.inj H
                                    go_enter Tryz.func36, Tryz.ntmps36
                                    go_wp2
                                    go_ret
                                    exact ⟨by first | rfl | (simp; done) | (simp [*]; done), by repeat (first | exact Drawn0.refl _ | apply Drawn0.step)⟩
                                  · rw [if_neg c18] at H
                                    have c18b0 : (a0 == 18) = false := beq_eq_false_iff_ne.mpr c18
                                    have c18b1 : (a0 != 18) = true := bne_iff_ne.mpr c18
                                    by_cases c19 : a0 = 19
                                    · rw [if_pos c19] at H
                                      have c19b0 : (a0 == 19) = true := beq_iff_eq.mpr c19
                                      have c19b1 : (a0 != 19) = false := bne_eq_false_iff_eq.mpr c19
                                      clear c19
                                      obtain rfl := Option.some.inj H
                                      go_enter Tryz.func36, Tryz.ntmps36
                                      go_wp2
                                      go_ret
                                      exact ⟨by first | rfl | (simp; done) | (simp [*]; done), by repeat (first | exact Drawn0.refl _ | apply Drawn0.step)⟩
                                    · rw [if_neg c19] at H
                                      have c19b0 : (a0 == 19) = false := beq_eq_false_iff_ne.mpr c19
                                      have c19b1 : (a0 != 19) = true := bne_iff_ne.mpr c19
                                      by_cases c20 : a0 = 20
                                      · rw [if_pos c20] at H
                                        have c20b0 : (a0 == 20) = true := beq_iff_eq.mpr c20
                                        have c20b1 : (a0 != 20) = false := bne_eq_false_iff_eq.mpr c20
                                        clear c20
                                        obtain rfl := Option.some.inj H
                                        go_enter Tryz.func36, Tryz.ntmps36
                                        go_wp2
                                        go_ret
                                        exact ⟨by first | rfl | (simp; done) | (simp [*]; done), by repeat (first | exact Drawn0.refl _ | apply Drawn0.step)⟩
                                      · rw [if_neg c20] at H
                                        have c20b0 : (a0 == 20) = false := beq_eq_false_iff_ne.mpr c20
                                        have c20b1 : (a0 != 20) = true := bne_iff_ne.mpr c20
                                        by_cases c21 : a0 = 21
                                        · rw [if_pos c21] at H
                                          have c21b0 : (a0 == 21) = true := beq_iff_eq.mpr c21
                                          have c21b1 : (a0 != 21) = false := bne_eq_false_iff_eq.mpr c21
                                          clear c21
                                          obtain rfl := Option.some.inj H
                                          go_enter Tryz.func36, Tryz.ntmps36
                                          go_wp2
                                          go_ret
                                          exact ⟨by first | rfl | (simp; done) | (simp [*]; done), by repeat (first | exact Drawn0.refl _ | apply Drawn0.step)⟩
                                        · rw [if_neg c21] at H
                                          have c21b0 : (a0 == 21) = false := beq_eq_false_iff_ne.mpr c21
                                          have c21b1 : (a0 != 21) = true := bne_iff_ne.mpr c21
                                          by_cases c22 : a0 = 22
                                          · rw [if_pos c22] at H
                                            have c22b0 : (a0 == 22) = true := beq_iff_eq.mpr c22
                                            have c22b1 : (a0 != 22) = false := bne_eq_false_iff_eq.mpr c22
                                            clear c22
                                            obtain rfl := Option.some.inj H
                                            go_enter Tryz.func36, Tryz.ntmps36
                                            go_wp2
                                            go_ret
                                            exact ⟨by first | rfl | (simp; done) | (simp [*]; done), by repeat (first | exact Drawn0.refl _ | apply Drawn0.step)⟩
                                          · rw [if_neg c22] at H
                                            have c22b0 : (a0 == 22) = false := beq_eq_false_iff_ne.mpr c22
                                            have c22b1 : (a0 != 22) = true := bne_iff_ne.mpr c22
                                            by_cases c23 : a0 = 23
                                            · rw [if_pos c23] at H
                                              have c23b0 : (a0 == 23) = true := beq_iff_eq.mpr c23
                                              have c23b1 : (a0 != 23) = false := bne_eq_false_iff_eq.mpr c23
                                              clear c23
                                              obtain rfl := Option.some.inj H
                                              go_enter Tryz.func36, Tryz.ntmps36
                                              go_wp2
                                              go_ret
                                              exact ⟨by first | rfl | (simp; done) | (simp [*]; done), by repeat (first | exact Drawn0.refl _ | apply Drawn0.step)⟩
                                            · rw [if_neg c23] at H
                                              have c23b0 : (a0 == 23) = false := beq_eq_false_iff_ne.mpr c23
                                              have c23b1 : (a0 != 23) = true := bne_iff_ne.mpr c23
                                              by_cases c24 : a0 = 24
                                              · rw [if_pos c24] at H
                                                have c24b0 : (a0 == 24) = true := beq_iff_eq.mpr c24
                                                have c24b1 : (a0 != 24) = false := bne_eq_false_iff_eq.mpr c24
                                                clear c24
                                                obtain rfl := Option.some.inj H
                                                go_enter Tryz.func36, Tryz.ntmps36
                                                go_wp2
                                                go_ret
                                                exact ⟨by first | rfl | (simp; done) | (simp [*]; done), by repeat (first | exact Drawn0.refl _ | apply Drawn0.step)⟩
                                              · rw [if_neg c24] at H
                                                have c24b0 : (a0 == 24) = false := beq_eq_false_iff_ne.mpr c24
                                                have c24b1 : (a0 != 24) = true := bne_iff_ne.mpr c24
                                                obtain rfl := Option.some.inj H
                                                go_enter Tryz.func36, Tryz.ntmps36
                                                go_wp2
                                                go_ret
                                                exact ⟨by first | rfl | (simp; done) | (simp [*]; done), by repeat (first | exact Drawn0.refl _ | apply Drawn0.step)⟩

-- NOT PRINTED: function 61 (wire_list)

-- NOT PRINTED: function 62 (wire_number)

-- NOT PRINTED: function 63 (wire_tick)

-- NOT PRINTED: function 64 (wire_count)

-- NOT PRINTED: function 65 (wire_flag)

-- NOT PRINTED: function 66 (wire_id)

-- NOT PRINTED: function 67 (wire_pane)

-- NOT PRINTED: function 68 (wire_text)

-- NOT PRINTED: function 69 (wire_offset)

-- NOT PRINTED: function 70 (wire_window)

-- NOT PRINTED: function 153 (bytealg_IndexByteString)

-- NOT PRINTED: function 144 (stringslite_IndexByte)

-- NOT PRINTED: function 143 (strings_IndexByte)

-- NOT PRINTED: function 116 (octal_IsName)

-- NOT PRINTED: function 115 (octal_IsWord)

-- NOT PRINTED: function 71 (wire_name)

-- NOT PRINTED: function 122 (wire_isPlanText)

-- NOT PRINTED: function 72 (wire_planText)

-- NOT PRINTED: function 75 (wire_zoom)

-- NOT PRINTED: function 76 (wire_session)

-- NOT PRINTED: function 77 (wire_index)

-- NOT PRINTED: function 78 (wire_colon)

-- NOT PRINTED: function 43 (wire_fieldsOf)

-- NOT PRINTED: function 37 (wire_rowOf)

-- NOT PRINTED: function 21 (wire_Encode)

-- NOT PRINTED: function 17 (wire_Text)

/-! ### mullionlaw03_same: function 18 -/
def mullionlaw03_same.l0 : Nat → List (S28) → List (S28) → Int → Option (Bool)
  | 0, _, _, _ => none
  | k + 1, x0, x1, x5 => if x5 < (x0.length : Int) then (if 0 ≤ x5 then (if x5 < (x1.length : Int) then (if (!(((rd_T28 x0 x5).f0) == ((rd_T28 x1 x5).f0)) || (!(((rd_T28 x0 x5).f1) == ((rd_T28 x1 x5).f1)) || (!(((rd_T28 x0 x5).f2) == ((rd_T28 x1 x5).f2)) || (!(((rd_T28 x0 x5).f3) == ((rd_T28 x1 x5).f3)) || (!(((rd_T28 x0 x5).f4) == ((rd_T28 x1 x5).f4)) || (!(((rd_T28 x0 x5).f5) == ((rd_T28 x1 x5).f5)) || (!(((rd_T28 x0 x5).f6) == ((rd_T28 x1 x5).f6)) || (!(((rd_T28 x0 x5).f7) == ((rd_T28 x1 x5).f7)) || (!(((rd_T28 x0 x5).f8) == ((rd_T28 x1 x5).f8)) || (!((((rd_T28 x0 x5).f9).toList) == (((rd_T28 x1 x5).f9).toList)) || (!((((rd_T28 x0 x5).f10).toList) == (((rd_T28 x1 x5).f10).toList)) || (!((((rd_T28 x0 x5).f11).toList) == (((rd_T28 x1 x5).f11).toList)) || (!((((rd_T28 x0 x5).f12).toList) == (((rd_T28 x1 x5).f12).toList)) || (!(((rd_T28 x0 x5).f13) == ((rd_T28 x1 x5).f13)))))))))))))))) = true then (some false) else (mullionlaw03_same.l0 k x0 x1 (wrap64 (x5 + 1)))) else (none)) else (none)) else (some true)
def mullionlaw03_same.f (k : Nat) (l0 : List (S28)) (l1 : List (S28)) : Option (Bool) := if (l0.length : Int) = (l1.length : Int) then (mullionlaw03_same.l0 k l0 l1 0) else (some false)
theorem mullionlaw03_same.mono_l : ∀ k, (∀ y0 y1 y2, LeO (mullionlaw03_same.l0 k y0 y1 y2) (mullionlaw03_same.l0 (k + 1) y0 y1 y2))
  | 0 => fun _ _ _ r h => by simp [mullionlaw03_same.l0] at h
  | k + 1 => by
    have ih0 := mullionlaw03_same.mono_l k
    · intro y0 y1 y2
      unfold mullionlaw03_same.l0
      repeat' first
      | (with_reducible exact ih0 _ _ _)
      | (with_reducible exact LeO.refl _)
      | (with_reducible exact LeO.none _)
      | (with_reducible refine LeO.ite ?_ ?_)
      | (with_reducible refine LeO.bind ?_ (fun _ => ?_))
      | exact ih0 _ _ _
      | exact LeO.none _
      | refine LeO.ite ?_ ?_
      | refine LeO.bind ?_ (fun _ => ?_)
theorem mullionlaw03_same.mono : ∀ a0 a1 k, LeO (mullionlaw03_same.f k a0 a1) (mullionlaw03_same.f (k + 1) a0 a1) := by
  intro a0 a1 k
  have ih0 := mullionlaw03_same.mono_l k
  unfold mullionlaw03_same.f
  repeat' first
      | (with_reducible exact ih0 _ _ _)
      | (with_reducible exact LeO.refl _)
      | (with_reducible exact LeO.none _)
      | (with_reducible refine LeO.ite ?_ ?_)
      | (with_reducible refine LeO.bind ?_ (fun _ => ?_))
      | exact ih0 _ _ _
      | exact LeO.none _
      | refine LeO.ite ?_ ?_
      | refine LeO.bind ?_ (fun _ => ?_)
set_option maxHeartbeats 8000000 in
set_option maxRecDepth 100000 in
theorem mullionlaw03_same.calls (k : Nat) (A0 : Option Addr) (c0 : Nat) (l0 : List (S28)) (A1 : Option Addr) (c1 : Nat) (l1 : List (S28)) (r : Bool) (w : World) (hr0 : Kd.C k28 w A0 l0.length l0) (hc0 : l0.length ≤ c0) (hr1 : Kd.C k28 w A1 l1.length l1) (hc1 : l1.length ≤ c1) (h : mullionlaw03_same.f k l0 l1 = some r) :
    Calls Tryz.prog 18 #[.slice A0 l0.length c0, .slice A1 l1.length c1] w fun e w' => e = .returned (.bool r) ∧ Drawn0 w w' := by
  have hu28 := Tryz.underlying28
  have HR0 := Aside0.mk hr0
  have HC0 := Aside0.mk hc0
  clear hr0 hc0
  have HR1 := Aside0.mk hr1
  have HC1 := Aside0.mk hc1
  clear hr1 hc1
  have H : (if (l0.length : Int) = (l1.length : Int) then (mullionlaw03_same.l0 k l0 l1 0) else (some false)) = some r := h
  clear h
  by_cases c3 : (l0.length : Int) = (l1.length : Int)
  · rw [if_pos c3] at H
    have c3b0 : ((l0.length : Int) == (l1.length : Int)) = true := beq_iff_eq.mpr c3
    have c3b1 : ((l0.length : Int) != (l1.length : Int)) = false := bne_eq_false_iff_eq.mpr c3
    have c3b2 : (l0.length == l1.length) = true := by first | simpa using c3 | (simp at c3 ⊢; omega)
    clear c3
    have H' := Aside0.mk H
    clear H
    go_enter Tryz.func18, Tryz.ntmps18
    go_wp2
    repeat (go_quiet (fail); try go_wp2)
    go_loopg [5] k (fun kq v5 w' => ∃ (x5_1 : Int), v5 = .int .i64 x5_1 ∧ Aside0 (mullionlaw03_same.l0 kq l0 l1 x5_1 = some r) ∧ Aside0 (kq ≤ k) ∧ Drawn0 w w')
    case atStart => exact ⟨(0), (by first | rfl | (simp; done) | (simp [*]; done)), H', ⟨Nat.le_refl _⟩, by repeat (first | exact Drawn0.refl _ | apply Drawn0.step)⟩
    case round =>
      clear H'
      try clear c1
      try clear p2
      try clear c3
      try clear c3b0
      try clear c3b1
      try clear c3b2
      obtain ⟨x5_1, rfl, HA, HK1, ⟨m1, rfl⟩⟩ := hrel
      cases gk with
      | zero => exact absurd HA.out (by simp [mullionlaw03_same.l0])
      | succ k1 =>
        have H := HA.out
        clear HA
        simp only [mullionlaw03_same.l0] at H
        by_cases c4 : x5_1 < (l0.length : Int)
        · rw [if_pos c4] at H
          have c4b0 : decide (x5_1 < (l0.length : Int)) = true := decide_eq_true c4
          clear c4
          by_cases c5 : 0 ≤ x5_1
          · rw [if_pos c5] at H
            have c5b0 : decide (0 ≤ x5_1) = true := decide_eq_true c5
            clear c5
            by_cases c6 : x5_1 < (l1.length : Int)
            · rw [if_pos c6] at H
              have c6b0 : decide (x5_1 < (l1.length : Int)) = true := decide_eq_true c6
              clear c6
              by_cases c7 : (!(((rd_T28 l0 x5_1).f0) == ((rd_T28 l1 x5_1).f0)) || (!(((rd_T28 l0 x5_1).f1) == ((rd_T28 l1 x5_1).f1)) || (!(((rd_T28 l0 x5_1).f2) == ((rd_T28 l1 x5_1).f2)) || (!(((rd_T28 l0 x5_1).f3) == ((rd_T28 l1 x5_1).f3)) || (!(((rd_T28 l0 x5_1).f4) == ((rd_T28 l1 x5_1).f4)) || (!(((rd_T28 l0 x5_1).f5) == ((rd_T28 l1 x5_1).f5)) || (!(((rd_T28 l0 x5_1).f6) == ((rd_T28 l1 x5_1).f6)) || (!(((rd_T28 l0 x5_1).f7) == ((rd_T28 l1 x5_1).f7)) || (!(((rd_T28 l0 x5_1).f8) == ((rd_T28 l1 x5_1).f8)) || (!((((rd_T28 l0 x5_1).f9).toList) == (((rd_T28 l1 x5_1).f9).toList)) || (!((((rd_T28 l0 x5_1).f10).toList) == (((rd_T28 l1 x5_1).f10).toList)) || (!((((rd_T28 l0 x5_1).f11).toList) == (((rd_T28 l1 x5_1).f11).toList)) || (!((((rd_T28 l0 x5_1).f12).toList) == (((rd_T28 l1 x5_1).f12).toList)) || (!(((rd_T28 l0 x5_1).f13) == ((rd_T28 l1 x5_1).f13)))))))))))))))) = true
              · rw [if_pos c7] at H
                have c7b0 : (!(((rd_T28 l0 x5_1).f0) == ((rd_T28 l1 x5_1).f0)) || (!(((rd_T28 l0 x5_1).f1) == ((rd_T28 l1 x5_1).f1)) || (!(((rd_T28 l0 x5_1).f2) == ((rd_T28 l1 x5_1).f2)) || (!(((rd_T28 l0 x5_1).f3) == ((rd_T28 l1 x5_1).f3)) || (!(((rd_T28 l0 x5_1).f4) == ((rd_T28 l1 x5_1).f4)) || (!(((rd_T28 l0 x5_1).f5) == ((rd_T28 l1 x5_1).f5)) || (!(((rd_T28 l0 x5_1).f6) == ((rd_T28 l1 x5_1).f6)) || (!(((rd_T28 l0 x5_1).f7) == ((rd_T28 l1 x5_1).f7)) || (!(((rd_T28 l0 x5_1).f8) == ((rd_T28 l1 x5_1).f8)) || (!((((rd_T28 l0 x5_1).f9).toList) == (((rd_T28 l1 x5_1).f9).toList)) || (!((((rd_T28 l0 x5_1).f10).toList) == (((rd_T28 l1 x5_1).f10).toList)) || (!((((rd_T28 l0 x5_1).f11).toList) == (((rd_T28 l1 x5_1).f11).toList)) || (!((((rd_T28 l0 x5_1).f12).toList) == (((rd_T28 l1 x5_1).f12).toList)) || (!(((rd_T28 l0 x5_1).f13) == ((rd_T28 l1 x5_1).f13)))))))))))))))) = true := c7
                clear c7
                obtain rfl := Option.some.inj H
                have p102 : 0 ≤ (x5_1 : Int) := of_decide_eq_true (by first | (with_reducible assumption) | assumption)
                have q102 : x5_1 < (l0.length : Int) := of_decide_eq_true (by first | (with_reducible assumption) | assumption)
                obtain ⟨ad102, e102, hx102_0, hx102_1, hx102_2, hx102_3, hx102_4, hx102_5, hx102_6, hx102_7, hx102_8, hx102_9, hx102_10, hx102_11, hx102_12, hx102_13⟩ := at_T28 HR0.out x5_1 p102 q102
                cases e102
                replace p102 := eq_true p102
                replace q102 := eq_true q102
                have p103 : 0 ≤ (x5_1 : Int) := of_decide_eq_true (by first | (with_reducible assumption) | assumption)
                have q103 : x5_1 < (l1.length : Int) := of_decide_eq_true (by first | (with_reducible assumption) | assumption)
                obtain ⟨ad103, e103, hx103_0, hx103_1, hx103_2, hx103_3, hx103_4, hx103_5, hx103_6, hx103_7, hx103_8, hx103_9, hx103_10, hx103_11, hx103_12, hx103_13⟩ := at_T28 HR1.out x5_1 p103 q103
                cases e103
                replace p103 := eq_true p103
                replace q103 := eq_true q103
                go_wp2
                repeat (go_quiet (fail); try go_wp2)
                go_ret
                exact ⟨by first | rfl | (simp; done) | (simp [*]; done), by repeat (first | exact Drawn0.refl _ | apply Drawn0.step)⟩
              · rw [if_neg c7] at H
                have c7b0 : (!(((rd_T28 l0 x5_1).f0) == ((rd_T28 l1 x5_1).f0)) || (!(((rd_T28 l0 x5_1).f1) == ((rd_T28 l1 x5_1).f1)) || (!(((rd_T28 l0 x5_1).f2) == ((rd_T28 l1 x5_1).f2)) || (!(((rd_T28 l0 x5_1).f3) == ((rd_T28 l1 x5_1).f3)) || (!(((rd_T28 l0 x5_1).f4) == ((rd_T28 l1 x5_1).f4)) || (!(((rd_T28 l0 x5_1).f5) == ((rd_T28 l1 x5_1).f5)) || (!(((rd_T28 l0 x5_1).f6) == ((rd_T28 l1 x5_1).f6)) || (!(((rd_T28 l0 x5_1).f7) == ((rd_T28 l1 x5_1).f7)) || (!(((rd_T28 l0 x5_1).f8) == ((rd_T28 l1 x5_1).f8)) || (!((((rd_T28 l0 x5_1).f9).toList) == (((rd_T28 l1 x5_1).f9).toList)) || (!((((rd_T28 l0 x5_1).f10).toList) == (((rd_T28 l1 x5_1).f10).toList)) || (!((((rd_T28 l0 x5_1).f11).toList) == (((rd_T28 l1 x5_1).f11).toList)) || (!((((rd_T28 l0 x5_1).f12).toList) == (((rd_T28 l1 x5_1).f12).toList)) || (!(((rd_T28 l0 x5_1).f13) == ((rd_T28 l1 x5_1).f13)))))))))))))))) = false := by simpa using c7
                clear c7
                have H' := Aside0.mk H
                clear H
                have p102 : 0 ≤ (x5_1 : Int) := of_decide_eq_true (by first | (with_reducible assumption) | assumption)
                have q102 : x5_1 < (l0.length : Int) := of_decide_eq_true (by first | (with_reducible assumption) | assumption)
                obtain ⟨ad102, e102, hx102_0, hx102_1, hx102_2, hx102_3, hx102_4, hx102_5, hx102_6, hx102_7, hx102_8, hx102_9, hx102_10, hx102_11, hx102_12, hx102_13⟩ := at_T28 HR0.out x5_1 p102 q102
                cases e102
                replace p102 := eq_true p102
                replace q102 := eq_true q102
                have p103 : 0 ≤ (x5_1 : Int) := of_decide_eq_true (by first | (with_reducible assumption) | assumption)
                have q103 : x5_1 < (l1.length : Int) := of_decide_eq_true (by first | (with_reducible assumption) | assumption)
                obtain ⟨ad103, e103, hx103_0, hx103_1, hx103_2, hx103_3, hx103_4, hx103_5, hx103_6, hx103_7, hx103_8, hx103_9, hx103_10, hx103_11, hx103_12, hx103_13⟩ := at_T28 HR1.out x5_1 p103 q103
                cases e103
                replace p103 := eq_true p103
                replace q103 := eq_true q103
                go_wp2
                repeat (go_quiet (fail); try go_wp2)
                go_roundg k1
                case measure => have := HK1.out; omega
                case rel => exact ⟨(wrap64 (x5_1 + 1)), (by first | rfl | (simp; done) | (simp [*]; done)), H', ⟨by have := HK1.out; omega⟩, by repeat (first | exact Drawn0.refl _ | apply Drawn0.step)⟩
            · rw [if_neg c6] at H
              exact absurd H (by simp)
          · rw [if_neg c5] at H
            exact absurd H (by simp)
        · rw [if_neg c4] at H
          have c4b0 : decide (x5_1 < (l0.length : Int)) = false := decide_eq_false c4
          clear c4
          obtain rfl := Option.some.inj H
          go_wp2
          repeat (go_quiet (fail); try go_wp2)
          go_ret
          exact ⟨by first | rfl | (simp; done) | (simp [*]; done), by repeat (first | exact Drawn0.refl _ | apply Drawn0.step)⟩
  · rw [if_neg c3] at H
    have c3b0 : ((l0.length : Int) == (l1.length : Int)) = false := beq_eq_false_iff_ne.mpr c3
    have c3b1 : ((l0.length : Int) != (l1.length : Int)) = true := bne_iff_ne.mpr c3
    have c3b2 : (l0.length == l1.length) = false := by first | simpa using c3 | (simp at c3 ⊢; omega)
    obtain rfl := Option.some.inj H
    go_enter Tryz.func18, Tryz.ntmps18
    go_wp2
    repeat (go_quiet (fail); try go_wp2)
    go_ret
    exact ⟨by first | rfl | (simp; done) | (simp [*]; done), by repeat (first | exact Drawn0.refl _ | apply Drawn0.step)⟩

-- NOT PRINTED: function 3 (mullionlaw03_WireOne)

end Go.Proofs.YtnblabfkkcohgaaGreatDoor.PWireOne
end
section
-- Printed by a program of the kit, cut by a program of this session (prune.py). Lean checks it.
namespace Go.Proofs.YtnblabfkkcohgaaGreatDoor.PWireOne
open Go.RowKit Go.Proofs.YtnblabfkkcohgaaGreatDoorW.PrintWords Go.Proofs.YtnblabfkkcohgaaGreatDoorW.PrintLast Go.Proofs.YtnblabfkkcohgaaGreatDoorW.PrintMore
attribute [local go_sem] max2_int min2_int max_two min_two max_three min_three max_four min_four   -- for this text's walks alone
set_option linter.unusedVariables false
set_option linter.unusedSimpArgs false

end Go.Proofs.YtnblabfkkcohgaaGreatDoor.PWireOne
end
section
/- The words of kinds, a kind's fields and its row, walked. -/
namespace Go.Proofs.YtnblabfkkcohgaaGreatDoor.Wire
set_option linter.unusedVariables false
set_option linter.unusedSimpArgs false
open Go Go.Shelf Go.RowKit Go.Proofs.YtnblabfkkcohgaaGreatDoor.Given Go.Proofs.YtnblabfkkcohgaaGreatDoorW.PrintWords Go.Proofs.YtnblabfkkcohgaaGreatDoorW.PrintLast

/-- The word of a kind's line; empty, if there is none. -/
def kwN (k : Int) : ByteArray := (PWireOne.wire_word.f k).getD ⟨#[]⟩
def Kinds (k : Int) : Prop := k = 1 ∨ k = 2 ∨ k = 3 ∨ k = 5 ∨ k = 6 ∨ k = 7 ∨ k = 8 ∨ k = 9 ∨ k = 10 ∨ k = 11 ∨ k = 12 ∨ k = 13 ∨ k = 14 ∨ k = 15 ∨ k = 16 ∨ k = 17 ∨ k = 18 ∨ k = 19 ∨ k = 20 ∨ k = 21 ∨ k = 22 ∨ k = 23 ∨ k = 24
theorem kw_some (k : Int) : PWireOne.wire_word.f k = some (kwN k) := by
  have h : ∃ r, PWireOne.wire_word.f k = some r := by
    unfold PWireOne.wire_word.f
    by_cases h : Kinds k
    · rcases h with rfl | rfl | rfl | rfl | rfl | rfl | rfl | rfl | rfl | rfl | rfl | rfl | rfl | rfl | rfl | rfl | rfl | rfl | rfl | rfl | rfl | rfl | rfl
      all_goals exact ⟨_, rfl⟩
    · unfold Kinds at h
      simp only [not_or] at h
      obtain ⟨h1, h2, h3, h5, h6, h7, h8, h9, h10, h11, h12, h13, h14, h15, h16, h17, h18, h19, h20, h21, h22, h23, h24⟩ := h
      rw [if_neg h1, if_neg h2, if_neg h3, if_neg h5, if_neg h6, if_neg h7, if_neg h8, if_neg h9, if_neg h10, if_neg h11, if_neg h12, if_neg h13, if_neg h14, if_neg h15, if_neg h16, if_neg h17, if_neg h18, if_neg h19, if_neg h20, if_neg h21, if_neg h22, if_neg h23, if_neg h24]
      exact ⟨_, rfl⟩
  obtain ⟨r, h⟩ := h
  unfold kwN
  rw [h]
  rfl
theorem kw_calls (k : Int) (w : World) : Calls Tryz.prog 36 #[.int .i64 k] w fun e w' => e = .returned (.string (kwN k)) ∧ Below w.heap.size w w' :=
  (PWireOne.wire_word.calls k _ w (kw_some k)).mono fun e w' h => ⟨h.1, h.2.below⟩
theorem kw_kinds {k : Int} (h : ¬ Kinds k) : kwN k = ⟨#[]⟩ := by
  unfold Kinds at h
  unfold kwN PWireOne.wire_word.f
  simp only [not_or] at h
  obtain ⟨h1, h2, h3, h5, h6, h7, h8, h9, h10, h11, h12, h13, h14, h15, h16, h17, h18, h19, h20, h21, h22, h23, h24⟩ := h
  rw [if_neg h1, if_neg h2, if_neg h3, if_neg h5, if_neg h6, if_neg h7, if_neg h8, if_neg h9, if_neg h10, if_neg h11, if_neg h12, if_neg h13, if_neg h14, if_neg h15, if_neg h16, if_neg h17, if_neg h18, if_neg h19, if_neg h20, if_neg h21, if_neg h22, if_neg h23, if_neg h24]
  rfl
theorem kw_size (k : Int) : (kwN k).size ≤ 100 := by
  by_cases h : Kinds k
  · rcases h with rfl | rfl | rfl | rfl | rfl | rfl | rfl | rfl | rfl | rfl | rfl | rfl | rfl | rfl | rfl | rfl | rfl | rfl | rfl | rfl | rfl | rfl | rfl
    all_goals decide
  · rw [kw_kinds h]
    decide
theorem fds_none {k : Int} (h : ¬ Kinds k) : fdsOf k.toNat = [] := by
  unfold Kinds at h
  simp only [not_or] at h
  generalize hn : k.toNat = n
  unfold fdsOf
  split
  all_goals first | rfl | omega
theorem RowAt.lo {w : World} {lo lo' : Nat} {fds : List Fd} {v : Value} (h : RowAt w lo fds v) (hl : lo' ≤ lo) : RowAt w lo' fds v := by
  rcases h with h | ⟨g, cs, h1, h2, h3, h4, h5, h6⟩
  · exact .inl h
  · refine .inr ⟨g, cs, h1, h2, by omega, h4, h5, fun i fd hi => ?_⟩
    obtain ⟨a, b, c, d, ha, hb, hc, hd, hf⟩ := h6 i fd hi
    exact ⟨a, b, c, d, ha, hb, hc, hd, hf.lo hl⟩
theorem RowAt.kp {w w' : World} {lo : Nat} {fds : List Fd} {v : Value} (h : RowAt w lo fds v) (hb : Kp lo w w') : RowAt w' lo fds v := by
  rcases h with h | ⟨g, cs, h1, h2, h3, h4, h5, h6⟩
  · exact .inl h
  · refine .inr ⟨g, cs, h1, h2, h3, hb _ _ h3 h4, h5, fun i fd hi => ?_⟩
    obtain ⟨a, b, c, d, ha, hb', hc, hd, hf⟩ := h6 i fd hi
    exact ⟨a, b, c, d, ha, hb', hc, hd, hf.kp hb⟩
theorem RowAt.slice {w : World} {lo : Nat} {fds : List Fd} {v : Value} (h : RowAt w lo fds v) : ∃ A, v = .slice A fds.length fds.length := by
  rcases h with ⟨rfl, h⟩ | ⟨g, cs, h1, h2, _⟩
  · exact ⟨_, h⟩
  · exact ⟨_, h2⟩
theorem fields_calls (k : Int) (w : World) : Calls Tryz.prog 43 #[.int .i64 k] w fun e w' => ∃ A, e = .returned (.slice A (fdsOf k.toNat).length (fdsOf k.toNat).length) ∧ RowAt w' w.heap.size (fdsOf k.toNat) (.slice A (fdsOf k.toNat).length (fdsOf k.toNat).length) ∧ Below w.heap.size w w' := by
  have fin : ∀ {f : Nat}, (fdsOf k.toNat = fdsOf f) → (Calls Tryz.prog 43 #[.int .i64 k] w fun e w' => ∃ v, e = .returned v ∧ RowAt w' w.heap.size (fdsOf f) v ∧ Below w.heap.size w w') → Calls Tryz.prog 43 #[.int .i64 k] w fun e w' => ∃ A, e = .returned (.slice A (fdsOf k.toNat).length (fdsOf k.toNat).length) ∧ RowAt w' w.heap.size (fdsOf k.toNat) (.slice A (fdsOf k.toNat).length (fdsOf k.toNat).length) ∧ Below w.heap.size w w' := by
    intro f hf h
    rw [hf]
    refine h.mono ?_
    rintro e w' ⟨v, rfl, hr, hb⟩
    obtain ⟨A, rfl⟩ := hr.slice
    exact ⟨A, rfl, hr, hb⟩
  by_cases h : Kinds k
  · rcases h with rfl | rfl | rfl | rfl | rfl | rfl | rfl | rfl | rfl | rfl | rfl | rfl | rfl | rfl | rfl | rfl | rfl | rfl | rfl | rfl | rfl | rfl | rfl
    · exact fin (f := 1) rfl (flds_1 w)
    · exact fin (f := 2) rfl (flds_2 w)
    · exact fin (f := 3) rfl (flds_3 w)
    · exact fin (f := 5) rfl (flds_5 w)
    · exact fin (f := 6) rfl (flds_6 w)
    · exact fin (f := 7) rfl (flds_7 w)
    · exact fin (f := 8) rfl (flds_8 w)
    · exact fin (f := 9) rfl (flds_9 w)
    · exact fin (f := 10) rfl (flds_10 w)
    · exact fin (f := 11) rfl (flds_11 w)
    · exact fin (f := 12) rfl (flds_12 w)
    · exact fin (f := 13) rfl (flds_13 w)
    · exact fin (f := 14) rfl (flds_14 w)
    · exact fin (f := 15) rfl (flds_15 w)
    · exact fin (f := 16) rfl (flds_16 w)
    · exact fin (f := 17) rfl (flds_17 w)
    · exact fin (f := 18) rfl (flds_18 w)
    · exact fin (f := 19) rfl (flds_19 w)
    · exact fin (f := 20) rfl (flds_20 w)
    · exact fin (f := 21) rfl (flds_21 w)
    · exact fin (f := 22) rfl (flds_22 w)
    · exact fin (f := 23) rfl (flds_23 w)
    · exact fin (f := 24) rfl (flds_24 w)
  · have h0 := fds_none h
    unfold Kinds at h
    simp only [not_or] at h
    refine (flds_none w k h).mono ?_
    rintro e w' ⟨rfl, hb⟩
    rw [h0]
    exact ⟨none, rfl, .inl ⟨rfl, rfl⟩, hb⟩
theorem results_row_tmp {P : Program} {fn : Func} {p u : Tmp} {ty : TypeId} (h : fn.results = #[.cell p ty, .tmp u]) (tmps : Array Value) (w : World) (g : Nat) (t : TypeId) (cs : Array Value) (fr : Nat × Nat) (d : TypeDesc) (x : Value)
    (hp : tmps.getD p undef = .pointer (some ⟨g, 0, none⟩)) (hx : tmps.getD u undef = x) (hg : w.heap[g]? = some (.cells cs t fr))
    (hu : P.underlying ty = some d) (hd : (match d with | .struct _ | .array _ _ => true | _ => false) = true) (hi : (P.info? ty).map (·.size) = some cs.size) :
    (results fn tmps).run P w = .ok (.tuple #[.agg cs, x]) w := by
  rw [results_cell_tmp h, hp, hx]
  simp [asAddr, Result.andThen, run_loadVar_row w g t ty cs fr d hg hu hd hi]
set_option maxHeartbeats 3200000 in
theorem row_calls (k : Int) (w : World) : Calls Tryz.prog 37 #[.int .i64 k] w fun e w' => ∃ A, e = .returned (.tuple #[.agg #[.string (kwN k), .slice A (fdsOf k.toNat).length (fdsOf k.toNat).length], .bool (!(kwN k).toList.isEmpty)]) ∧ RowAt w' w.heap.size (fdsOf k.toNat) (.slice A (fdsOf k.toNat).length (fdsOf k.toNat).length) ∧ Below w.heap.size w w' := by
  go_enter Tryz.func37, Tryz.ntmps37
  go_wp2_with (first | ((with_reducible refine gate_dst (N := 2) rfl ?_); refine box_event ?hg (N := 2) ?hd (cs := #[.string (⟨#[]⟩ : ByteArray), .slice none 0 0]) (t := 64) ?hr ?_; (case hd => rfl); (case hg => rfl); (case hr => first | (go_simp; done) | (go_simp; rfl)); intro gr hgb w1 hbox hbb; have HG := Lib.hid (show w.heap.size ≤ gr by rw [hgb]; exact Nat.le_refl _); have HX := Lib.hid hbox; have HB1 := Lib.hid hbb; clear hgb hbox hbb) | ((go_at_call 36); (with_reducible refine (kw_calls _ _).mono ?_); rintro e w2 ⟨rfl, hb⟩; have HB2 := Lib.hid hb; clear hb) | ((go_at_call 43); (with_reducible refine (fields_calls _ _).mono ?_); rintro e w3 ⟨A, rfl, hr, hb⟩; have HR := Lib.hid hr; have HB3 := Lib.hid hb; have cq0 : w3.cell? ⟨gr, 0, none⟩ = some (.string (⟨#[]⟩ : ByteArray)) := (blk_cell (blk_below (blk_below HX.out HB2.out) hb) 0).trans rfl; have cz0 := blk_frozen (blk_below (blk_below HX.out HB2.out) hb) 0; have cq1 : w3.cell? ⟨gr, 1, none⟩ = some (.slice none 0 0) := (blk_cell (blk_below (blk_below HX.out HB2.out) hb) 1).trans rfl; have cz1 := blk_frozen (blk_below (blk_below HX.out HB2.out) hb) 1; clear hr hb))
  have hX := blk_below (blk_below HX.out HB2.out) HB3.out
  refine bodyPost_ret (results_row_tmp rfl _ _ gr 64 #[.string (kwN k), .slice A (fdsOf k.toNat).length (fdsOf k.toNat).length] (0, 0) _ _ rfl rfl (by exact blk_put (cs' := #[.string (kwN k), .slice A (fdsOf k.toNat).length (fdsOf k.toNat).length]) (blk_put (cs' := #[.string (kwN k), .slice none 0 0]) hX 0 _ rfl) 1 _ rfl) Tryz.underlying64 rfl (by kernel_rfl)) rfl ?_
  have hg := blk_lt HX.out
  have hbg := (Bg.set w3 gr 0 (.string (kwN k))).trans (Bg.set (w3.setCell ⟨gr, 0, none⟩ (.string (kwN k))) gr 1 (.slice A (fdsOf k.toNat).length (fdsOf k.toNat).length))
  have hb3 := below_step (below_step HB1.out HB2.out) HB3.out
  refine ⟨A, rfl, ?_, below_tr hb3 (hbg.below HG.out hb3.size)⟩
  exact (HR.out.kp (Kp.bg hbg (by have := HB2.out.size; omega))).lo (by have := HB1.out.size; have := HB2.out.size; omega)
end Go.Proofs.YtnblabfkkcohgaaGreatDoor.Wire
end
section
/- What Encode writes, said plainly; whole events loaded and stored as one step of a walk. -/
namespace Go.Proofs.YtnblabfkkcohgaaGreatDoor.Wire
set_option linter.unusedVariables false
set_option linter.unusedSimpArgs false
open Go Go.Shelf Go.RowKit Go.Proofs.YtnblabfkkcohgaaGreatDoor.Given Go.Proofs.YtnblabfkkcohgaaGreatDoorW.PrintWords Go.Proofs.YtnblabfkkcohgaaGreatDoorW.PrintLast

section
variable {P : Program} {ops : Array Oper} {rest : List Oper} {o : Oper} {a : Act} {W : World} {Q : Exit → Act → World → Prop}
theorem bg_setRow (w : World) (g : Nat) (cs : Array Value) : Bg w (w.setRow g cs) g :=
  ⟨rfl, rfl, rfl, by simp, fun k _ hne => setRow_other w g k cs hne⟩
/-- A struct goes whole into its block. -/
theorem store_event {ty : TypeId} {p : Tmp} {v : Operand} (ho : o.op = .store ty (.tmp p) v) (hgd : o.guard = none) (hd : o.dst = none) {g : Nat} {cells old : Array Value} {t : TypeId}
    (hx : a.eval (.tmp p) = .pointer (some ⟨g, 0, none⟩)) (hy : a.eval v = .agg cells) (hg : W.heap[g]? = some (.cells old t (0, 0))) (hi : (P.info? ty).map (·.size) = some cells.size)
    (hold : old.size = cells.size) (h1 : cells.all (·.oneCell') = true)
    (h : ∀ w1, w1.heap[g]? = some (.cells cells t (0, 0)) → Bg W w1 g → wpList P ops Q rest a w1) : wpList P ops Q (o :: rest) a W :=
  wpList_store_rowTo hgd ty (.tmp p) v ho hd g cells hx hy t old hg hi hold h1 (h _ (setRow_heap _ _ _ _ _ _ hg) (bg_setRow _ _ _))
/-- A struct is loaded whole out of its block. -/
theorem load_event {N : Tmp} (_hd : o.dst = some N) {ty : TypeId} {x : Operand} (ho : o.op = .load ty x) (hgd : o.guard = none) {g : Nat} {cells : Array Value} {t : TypeId} {d : TypeDesc}
    (hx : a.eval x = .pointer (some ⟨g, 0, none⟩)) (hg : W.heap[g]? = some (.cells cells t (0, 0))) (hu : P.underlying ty = some d)
    (hd : (match d with | .struct _ | .array _ _ => true | _ => false) = true) (hi : (P.info? ty).map (·.size) = some cells.size)
    (h : wpList P ops Q rest (a.put o.dst (.agg cells)) W) : wpList P ops Q (o :: rest) a W :=
  wpList_load_row hgd ty x ho g hx t cells (0, 0) d hg hu hd hi h
end

/-- Two events are equal. -/
def evB (a b : Evt) : Bool := decide (a = b)
theorem evB_true {a b : Evt} : evB a b = true ↔ a = b := decide_eq_true_iff
theorem evB_false {a b : Evt} : evB a b = false ↔ ¬ a = b := decide_eq_false_iff_not
theorem list_beq (a b : ByteArray) : (a.toList == b.toList) = decide (a = b) := by
  by_cases h : a = b
  · subst h
    simp
  · have : ¬ a.toList = b.toList := fun e => h (toList_inj e)
    simp [h, this]
theorem int_beq (a b : Int) : (a == b) = decide (a = b) := by
  by_cases h : a = b <;> simp [h]
theorem bool_beq (a b : Bool) : (a == b) = decide (a = b) := by cases a <;> cases b <;> rfl
theorem eqE (d : Nat) (w : World) (x0 y0 : Int) (x1 y1 : Int) (x2 y2 : Int) (x3 y3 : Int) (x4 y4 : Int) (x5 y5 : Int) (x6 y6 : Int) (x7 y7 : Int) (x8 y8 : Int) (x9 y9 : ByteArray) (x10 y10 : ByteArray) (x11 y11 : ByteArray) (x12 y12 : ByteArray) (x13 y13 : Bool) :
    (Op.equalIn (d + 2) 28 (.agg #[.int .i64 x0, .int .i64 x1, .int .i64 x2, .int .i64 x3, .int .i64 x4, .int .i64 x5, .int .i64 x6, .int .i64 x7, .int .i64 x8, .string x9, .string x10, .string x11, .string x12, .bool x13]) (.agg #[.int .i64 y0, .int .i64 y1, .int .i64 y2, .int .i64 y3, .int .i64 y4, .int .i64 y5, .int .i64 y6, .int .i64 y7, .int .i64 y8, .string y9, .string y10, .string y11, .string y12, .bool y13])).run Tryz.prog w = .ok (evB ⟨x0, x1, x2, x3, x4, x5, x6, x7, x8, x9, x10, x11, x12, x13⟩ ⟨y0, y1, y2, y3, y4, y5, y6, y7, y8, y9, y10, y11, y12, y13⟩) w := by
  rw [PWireOne.eqA28]
  congr 1
  unfold evB
  simp only [list_beq, int_beq, bool_beq, Evt.mk.injEq, Bool.decide_and]

/-- The event that has a kind and nothing else. -/
def bareEv (k : Int) : Evt := ⟨k, 0, 0, 0, 0, 0, 0, 0, 0, ⟨#[]⟩, ⟨#[]⟩, ⟨#[]⟩, ⟨#[]⟩, false⟩
def textEv (k : Int) (t : ByteArray) : Evt := ⟨k, 0, 0, 0, 0, 0, 0, 0, 0, ⟨#[]⟩, t, ⟨#[]⟩, ⟨#[]⟩, false⟩
/-- What is written of an event's fields behind l, and what is kept of it in t. -/
def putsN : List Fd → Evt → List UInt8 → Evt → Option (List UInt8 × Evt)
  | [], _, l, t => some (l, t)
  | fd :: fds, e, l, t => if (fd.put e).2 = true then putsN fds e (l ++ [32] ++ (fd.put e).1.data.toList) (fd.keep t e) else none
/-- An event's line and the error. -/
def encN (e : Evt) : ByteArray × Int :=
  if e.kind = 4 then (if e = textEv 4 e.text then (ofL (escBodyN e.text.data.toList), 0) else (⟨#[]⟩, 30))
  else if e = bareEv 24 then (kwN 24, 0)
  else if (kwN e.kind).toList.isEmpty = true then (⟨#[]⟩, 30)
  else match putsN (fdsOf e.kind.toNat) e (kwN e.kind).data.toList (bareEv e.kind) with
    | none => (⟨#[]⟩, 30)
    | some (s, t) => if t = e then (ofL s, 0) else (⟨#[]⟩, 30)
theorem fds_len (n : Nat) : (fdsOf n).length ≤ 7 := by
  unfold fdsOf
  split <;> decide
theorem putNum_len (n : Int) : (putNumN n).length ≤ 21 := by
  unfold putNumN
  split
  · exact dec_size _ (by omega)
  · simp
theorem putId_len (m : UInt8) (n : Int) : (putIdN m n).length ≤ 22 := by
  unfold putIdN
  split
  · have := dec_size n.toNat (by omega)
    simp
    omega
  · simp
theorem put_size (fd : Fd) {e : Evt} (hs : EvSz e) : (fd.put e).1.size ≤ 4398046511104 := by
  have h1 := hs.name
  have h2 := hs.text
  have h3 := hs.layout
  have h4 := hs.visible
  cases fd with
  | num p m => simp only [Fd.put, ofL_size]; have := putNum_len (p.get e); omega
  | id m p => simp only [Fd.put, ofL_size]; have := putId_len m (p.get e); omega
  | name b => simp only [Fd.put]; omega
  | text a b => simp only [Fd.put, ofL_size]; have := escL_len e.text.data.toList; rw [dlen] at this; omega
  | plan v => cases v <;> simp only [Fd.put] <;> omega
  | zoom => simp only [Fd.put, ofL_size]; split <;> simp
  | colon => simp only [Fd.put, ofL_size]; simp
end Go.Proofs.YtnblabfkkcohgaaGreatDoor.Wire
end
section
/- Encode, walked. -/
namespace Go.Proofs.YtnblabfkkcohgaaGreatDoor.Wire
set_option linter.unusedVariables false
set_option linter.unusedSimpArgs false
open Go Go.Shelf Go.RowKit Go.Proofs.YtnblabfkkcohgaaGreatDoor.Given Go.Proofs.YtnblabfkkcohgaaGreatDoorW.PrintWords Go.Proofs.YtnblabfkkcohgaaGreatDoorW.PrintLast

theorem ent_100 : Enters Tryz.prog 100 := enters_of Tryz.func100 (by kernel_rfl) rfl
theorem ent_98 : Enters Tryz.prog 98 := enters_of Tryz.func98 (by kernel_rfl) rfl
theorem ent_102 : Enters Tryz.prog 102 := enters_of Tryz.func102 (by kernel_rfl) rfl
theorem ent_106 : Enters Tryz.prog 106 := enters_of Tryz.func106 (by kernel_rfl) rfl
theorem ent_104 : Enters Tryz.prog 104 := enters_of Tryz.func104 (by kernel_rfl) rfl
theorem ent_108 : Enters Tryz.prog 108 := enters_of Tryz.func108 (by kernel_rfl) rfl
theorem ent_117 : Enters Tryz.prog 117 := enters_of Tryz.func117 (by kernel_rfl) rfl
theorem ent_118 : Enters Tryz.prog 118 := enters_of Tryz.func118 (by kernel_rfl) rfl
theorem ent_119 : Enters Tryz.prog 119 := enters_of Tryz.func119 (by kernel_rfl) rfl
theorem ent_110 : Enters Tryz.prog 110 := enters_of Tryz.func110 (by kernel_rfl) rfl
theorem ent_111 : Enters Tryz.prog 111 := enters_of Tryz.func111 (by kernel_rfl) rfl
theorem ent_112 : Enters Tryz.prog 112 := enters_of Tryz.func112 (by kernel_rfl) rfl
theorem ent_121 : Enters Tryz.prog 121 := enters_of Tryz.func121 (by kernel_rfl) rfl
theorem ent_123 : Enters Tryz.prog 123 := enters_of Tryz.func123 (by kernel_rfl) rfl
theorem ent_124 : Enters Tryz.prog 124 := enters_of Tryz.func124 (by kernel_rfl) rfl
theorem ent_125 : Enters Tryz.prog 125 := enters_of Tryz.func125 (by kernel_rfl) rfl
theorem ent_126 : Enters Tryz.prog 126 := enters_of Tryz.func126 (by kernel_rfl) rfl
theorem ent_127 : Enters Tryz.prog 127 := enters_of Tryz.func127 (by kernel_rfl) rfl
theorem ent_129 : Enters Tryz.prog 129 := enters_of Tryz.func129 (by kernel_rfl) rfl
theorem ent_130 : Enters Tryz.prog 130 := enters_of Tryz.func130 (by kernel_rfl) rfl
theorem ent_131 : Enters Tryz.prog 131 := enters_of Tryz.func131 (by kernel_rfl) rfl
theorem agg_fn {kp kg kk kb kp' kg' kk' kb' : Nat} {cp cg ck cb cp' cg' ck' cb' : Array Value} (h : Value.agg #[.func (.func kp) #[] cp, .func (.func kg) #[] cg, .func (.func kk) #[] ck, .func (.func kb) #[] cb] = Value.agg #[.func (.func kp') #[] cp', .func (.func kg') #[] cg', .func (.func kk') #[] ck', .func (.func kb') #[] cb']) : kp = kp' ∧ kg = kg' ∧ kk = kk' := by
  injection h with h
  have e1 : Value.func (.func kp) #[] cp = .func (.func kp') #[] cp' := by have := congrArg (fun x : Array Value => x[0]?) h; simpa using this
  have e2 : Value.func (.func kg) #[] cg = .func (.func kg') #[] cg' := by have := congrArg (fun x : Array Value => x[1]?) h; simpa using this
  have e3 : Value.func (.func kk) #[] ck = .func (.func kk') #[] ck' := by have := congrArg (fun x : Array Value => x[2]?) h; simpa using this
  injection e1 with e1
  injection e2 with e2
  injection e3 with e3
  injection e1 with e1
  injection e2 with e2
  injection e3 with e3
  exact ⟨e1, e2, e3⟩
theorem FdAt.enters {w : World} {lo : Nat} {fd : Fd} {v : Value} {kp kg kk kb : Nat} {cp cg ck cb : Array Value} (h : FdAt w lo fd v) (hv : v = .agg #[.func (.func kp) #[] cp, .func (.func kg) #[] cg, .func (.func kk) #[] ck, .func (.func kb) #[] cb]) : Enters Tryz.prog kp ∧ Enters Tryz.prog kg ∧ Enters Tryz.prog kk := by
  cases fd with
  | num p most => obtain ⟨_, _, _, e, _⟩ := h; rw [hv] at e; obtain ⟨rfl, rfl, rfl⟩ := agg_fn e; exact ⟨ent_100, ent_98, ent_102⟩
  | id mark p => obtain ⟨_, _, _, e, _⟩ := h; rw [hv] at e; obtain ⟨rfl, rfl, rfl⟩ := agg_fn e; exact ⟨ent_106, ent_104, ent_108⟩
  | name b => obtain ⟨_, e, _⟩ := h; rw [hv] at e; obtain ⟨rfl, rfl, rfl⟩ := agg_fn e; exact ⟨ent_117, ent_118, ent_119⟩
  | text least most => obtain ⟨_, _, e, _⟩ := h; rw [hv] at e; obtain ⟨rfl, rfl, rfl⟩ := agg_fn e; exact ⟨ent_110, ent_111, ent_112⟩
  | plan vis => obtain ⟨_, e, _⟩ := h; rw [hv] at e; obtain ⟨rfl, rfl, rfl⟩ := agg_fn e; exact ⟨ent_121, ent_123, ent_124⟩
  | zoom => rw [hv] at h; obtain ⟨rfl, rfl, rfl⟩ := agg_fn h; exact ⟨ent_125, ent_126, ent_127⟩
  | colon => rw [hv] at h; obtain ⟨rfl, rfl, rfl⟩ := agg_fn h; exact ⟨ent_129, ent_130, ent_131⟩
theorem below_mono {B B' : Nat} {a b : World} (h : Below B a b) (hB : B' ≤ B) : Below B' a b := ⟨h.os, h.tape, h.output, h.size, fun k hk => h.block k (by omega)⟩
theorem builder_lt {T e : TypeId} {B b : Nat} {bs : List Value} {w : World} (h : Lib.IsBuilderF T e B b bs w) : B ≤ b ∧ b < w.heap.size := by
  rcases h with ⟨hB, v, hb, _⟩ | ⟨hB, v, hb, _⟩ <;> exact ⟨hB, blk_lt hb⟩
/-- A field of a row, and its functions; the row lies in a later world. -/
theorem row_at {w W : World} {lo n : Nat} {fds : List Fd} {A : Option Addr} (h : RowAt w lo fds (.slice A n n)) (hn : fds.length = n) (hb : Kp lo w W) (i : Int) (h0 : 0 ≤ i) (h1 : i < n) :
    ∃ (ad : Addr) (fd : Fd) (kp : Nat) (cp : Array Value) (kg : Nat) (cg : Array Value) (kk : Nat) (ck : Array Value) (kb : Nat) (cb : Array Value), A = some ad ∧ fds.drop i.toNat = fd :: fds.drop (i.toNat + 1) ∧
      W.cell? (ad.add (i.toNat * 4)) = some (.func (.func kp) #[] cp) ∧ W.cell? ⟨(ad.add (i.toNat * 4)).block, (ad.add (i.toNat * 4)).off + 1, none⟩ = some (.func (.func kg) #[] cg) ∧
      W.cell? ⟨(ad.add (i.toNat * 4)).block, (ad.add (i.toNat * 4)).off + 2, none⟩ = some (.func (.func kk) #[] ck) ∧ W.cell? ⟨(ad.add (i.toNat * 4)).block, (ad.add (i.toNat * 4)).off + 3, none⟩ = some (.func (.func kb) #[] cb) ∧
      FdCode w lo fd (.agg #[.func (.func kp) #[] cp, .func (.func kg) #[] cg, .func (.func kk) #[] ck, .func (.func kb) #[] cb]) kp cp kg cg kk ck kb cb ∧ Enters Tryz.prog kp ∧ Enters Tryz.prog kg ∧ Enters Tryz.prog kk := by
  have hi : i.toNat < fds.length := by omega
  rcases h with ⟨rfl, _⟩ | ⟨g, cs, _, h2, h3, h4, _, h6⟩
  · simp at hi
  · injection h2 with hA _ _
    obtain ⟨a, b, c, d, ha, hbb, hc, hd, hf⟩ := h6 i.toNat fds[i.toNat] (List.getElem?_eq_getElem hi)
    obtain ⟨kp, cp, kg, cg, kk, ck, kb, cb, hk⟩ := hf.code
    have hv := hk.val
    injection hv with hv
    have e1 : a = .func (.func kp) #[] cp := by have := congrArg (fun x : Array Value => x[0]?) hv; simpa using this
    have e2 : b = .func (.func kg) #[] cg := by have := congrArg (fun x : Array Value => x[1]?) hv; simpa using this
    have e3 : c = .func (.func kk) #[] ck := by have := congrArg (fun x : Array Value => x[2]?) hv; simpa using this
    have e4 : d = .func (.func kb) #[] cb := by have := congrArg (fun x : Array Value => x[3]?) hv; simpa using this
    subst e1 e2 e3 e4
    have hW := hb _ _ h3 h4
    refine ⟨⟨g, 0, none⟩, fds[i.toNat], kp, cp, kg, cg, kk, ck, kb, cb, hA, List.drop_eq_getElem_cons hi, ?_, ?_, ?_, ?_, hk, hf.enters rfl⟩
    · rw [add_plain, Nat.mul_comm]; exact (blk_cell hW _).trans ha
    · rw [add_plain, Nat.mul_comm]; exact (blk_cell hW _).trans hbb
    · rw [add_plain, Nat.mul_comm]; exact (blk_cell hW _).trans hc
    · rw [add_plain, Nat.mul_comm]; exact (blk_cell hW _).trans hd
theorem puts_step {fds : List Fd} {fd : Fd} {i : Nat} {e t : Evt} {l : List UInt8} (h : fds.drop i = fd :: fds.drop (i + 1)) (hok : (fd.put e).2 = true) : putsN (fds.drop i) e l t = putsN (fds.drop (i + 1)) e (l ++ [32] ++ (fd.put e).1.data.toList) (fd.keep t e) := by
  rw [h]
  exact if_pos hok
theorem puts_stop {fds : List Fd} {fd : Fd} {i : Nat} {e t : Evt} {l : List UInt8} (h : fds.drop i = fd :: fds.drop (i + 1)) (hok : (fd.put e).2 = false) : putsN (fds.drop i) e l t = none := by
  rw [h]
  exact if_neg (by rw [hok]; simp)
def finN (r : Option (List UInt8 × Evt)) (e : Evt) : ByteArray × Int := match r with
  | none => (⟨#[]⟩, 30)
  | some (s, t) => if t = e then (ofL s, 0) else (⟨#[]⟩, 30)
attribute [local go_sem high] eqE
set_option maxHeartbeats 3200000 in
theorem enc_body_no {w : World} (hL : LaidW w) (e : Evt) (h4 : (e.kind == 4) = true) (hq : evB ⟨e.kind, e.session, e.window, e.pane, e.index, e.offset, e.tick, e.number, e.flag, e.name, e.text, e.layout, e.visible, e.zoom⟩ ⟨4, 0, 0, 0, 0, 0, 0, 0, 0, ⟨#[]⟩, e.text, ⟨#[]⟩, ⟨#[]⟩, false⟩ = false) :
    Calls Tryz.prog 21 #[.agg #[.int .i64 e.kind, .int .i64 e.session, .int .i64 e.window, .int .i64 e.pane, .int .i64 e.index, .int .i64 e.offset, .int .i64 e.tick, .int .i64 e.number, .int .i64 e.flag, .string e.name, .string e.text, .string e.layout, .string e.visible, .bool e.zoom]] w fun r w' => r = .returned (.tuple #[.string ⟨#[]⟩, .int .i64 30]) ∧ Below w.heap.size w w' := by
  go_enter Tryz.func21, Tryz.ntmps21
  go_wp2_with (first | ((with_reducible refine gate_dst (N := 1) rfl ?_); refine box_event ?hg (N := 1) ?hd (cs := #[.int .i64 e.kind, .int .i64 e.session, .int .i64 e.window, .int .i64 e.pane, .int .i64 e.index, .int .i64 e.offset, .int .i64 e.tick, .int .i64 e.number, .int .i64 e.flag, .string e.name, .string e.text, .string e.layout, .string e.visible, .bool e.zoom]) (t := 28) ?hr ?_; (case hd => rfl); (case hg => rfl); (case hr => first | (go_simp; done) | (go_simp; rfl)); intro ge hgb w1 hbox hbb; have HE := Lib.hid (show EvAt w1 ge e from hbox); have HB1 := Lib.hid hbb; have ce0 : World.cell? w1 ⟨ge, 0, none⟩ = some (.int .i64 e.kind) := (blk_cell hbox 0).trans rfl; have ce1 : World.cell? w1 ⟨ge, 1, none⟩ = some (.int .i64 e.session) := (blk_cell hbox 1).trans rfl; have ce2 : World.cell? w1 ⟨ge, 2, none⟩ = some (.int .i64 e.window) := (blk_cell hbox 2).trans rfl; have ce3 : World.cell? w1 ⟨ge, 3, none⟩ = some (.int .i64 e.pane) := (blk_cell hbox 3).trans rfl; have ce4 : World.cell? w1 ⟨ge, 4, none⟩ = some (.int .i64 e.index) := (blk_cell hbox 4).trans rfl; have ce5 : World.cell? w1 ⟨ge, 5, none⟩ = some (.int .i64 e.offset) := (blk_cell hbox 5).trans rfl; have ce6 : World.cell? w1 ⟨ge, 6, none⟩ = some (.int .i64 e.tick) := (blk_cell hbox 6).trans rfl; have ce7 : World.cell? w1 ⟨ge, 7, none⟩ = some (.int .i64 e.number) := (blk_cell hbox 7).trans rfl; have ce8 : World.cell? w1 ⟨ge, 8, none⟩ = some (.int .i64 e.flag) := (blk_cell hbox 8).trans rfl; have ce9 : World.cell? w1 ⟨ge, 9, none⟩ = some (.string e.name) := (blk_cell hbox 9).trans rfl; have ce10 : World.cell? w1 ⟨ge, 10, none⟩ = some (.string e.text) := (blk_cell hbox 10).trans rfl; have ce11 : World.cell? w1 ⟨ge, 11, none⟩ = some (.string e.layout) := (blk_cell hbox 11).trans rfl; have ce12 : World.cell? w1 ⟨ge, 12, none⟩ = some (.string e.visible) := (blk_cell hbox 12).trans rfl; have ce13 : World.cell? w1 ⟨ge, 13, none⟩ = some (.bool e.zoom) := (blk_cell hbox 13).trans rfl; clear hgb hbox hbb))
  all_goals go_returns
  all_goals exact ⟨rfl, HB1.out⟩
set_option maxHeartbeats 3200000 in
theorem enc_body_yes {w : World} (hL : LaidW w) (e : Evt) (hs : e.text.size ≤ 1099511627776) (h4 : (e.kind == 4) = true) (hq : evB ⟨e.kind, e.session, e.window, e.pane, e.index, e.offset, e.tick, e.number, e.flag, e.name, e.text, e.layout, e.visible, e.zoom⟩ ⟨4, 0, 0, 0, 0, 0, 0, 0, 0, ⟨#[]⟩, e.text, ⟨#[]⟩, ⟨#[]⟩, false⟩ = true) :
    Calls Tryz.prog 21 #[.agg #[.int .i64 e.kind, .int .i64 e.session, .int .i64 e.window, .int .i64 e.pane, .int .i64 e.index, .int .i64 e.offset, .int .i64 e.tick, .int .i64 e.number, .int .i64 e.flag, .string e.name, .string e.text, .string e.layout, .string e.visible, .bool e.zoom]] w fun r w' => r = .returned (.tuple #[.string (ofL (escBodyN e.text.data.toList)), .int .i64 0]) ∧ Below w.heap.size w w' := by
  have HL := Lib.hid hL
  have HS := Lib.hid hs
  clear hL hs
  go_enter Tryz.func21, Tryz.ntmps21
  go_wp2_with (first | ((with_reducible refine gate_dst (N := 1) rfl ?_); refine box_event ?hg (N := 1) ?hd (cs := #[.int .i64 e.kind, .int .i64 e.session, .int .i64 e.window, .int .i64 e.pane, .int .i64 e.index, .int .i64 e.offset, .int .i64 e.tick, .int .i64 e.number, .int .i64 e.flag, .string e.name, .string e.text, .string e.layout, .string e.visible, .bool e.zoom]) (t := 28) ?hr ?_; (case hd => rfl); (case hg => rfl); (case hr => first | (go_simp; done) | (go_simp; rfl)); intro ge hgb w1 hbox hbb; have HE := Lib.hid (show EvAt w1 ge e from hbox); have HB1 := Lib.hid hbb; have ce0 : World.cell? w1 ⟨ge, 0, none⟩ = some (.int .i64 e.kind) := (blk_cell hbox 0).trans rfl; have ce1 : World.cell? w1 ⟨ge, 1, none⟩ = some (.int .i64 e.session) := (blk_cell hbox 1).trans rfl; have ce2 : World.cell? w1 ⟨ge, 2, none⟩ = some (.int .i64 e.window) := (blk_cell hbox 2).trans rfl; have ce3 : World.cell? w1 ⟨ge, 3, none⟩ = some (.int .i64 e.pane) := (blk_cell hbox 3).trans rfl; have ce4 : World.cell? w1 ⟨ge, 4, none⟩ = some (.int .i64 e.index) := (blk_cell hbox 4).trans rfl; have ce5 : World.cell? w1 ⟨ge, 5, none⟩ = some (.int .i64 e.offset) := (blk_cell hbox 5).trans rfl; have ce6 : World.cell? w1 ⟨ge, 6, none⟩ = some (.int .i64 e.tick) := (blk_cell hbox 6).trans rfl; have ce7 : World.cell? w1 ⟨ge, 7, none⟩ = some (.int .i64 e.number) := (blk_cell hbox 7).trans rfl; have ce8 : World.cell? w1 ⟨ge, 8, none⟩ = some (.int .i64 e.flag) := (blk_cell hbox 8).trans rfl; have ce9 : World.cell? w1 ⟨ge, 9, none⟩ = some (.string e.name) := (blk_cell hbox 9).trans rfl; have ce10 : World.cell? w1 ⟨ge, 10, none⟩ = some (.string e.text) := (blk_cell hbox 10).trans rfl; have ce11 : World.cell? w1 ⟨ge, 11, none⟩ = some (.string e.layout) := (blk_cell hbox 11).trans rfl; have ce12 : World.cell? w1 ⟨ge, 12, none⟩ = some (.string e.visible) := (blk_cell hbox 12).trans rfl; have ce13 : World.cell? w1 ⟨ge, 13, none⟩ = some (.bool e.zoom) := (blk_cell hbox 13).trans rfl; clear hgb hbox hbb) | ((go_at_call 35); (with_reducible refine (escBody_calls (HL.out.below HB1.out) _ HS.out).mono ?_); rintro r w2 ⟨rfl, hb⟩; have HB2 := Lib.hid hb; clear hb))
  all_goals go_returns
  all_goals exact ⟨rfl, below_step HB1.out HB2.out⟩
set_option maxHeartbeats 3200000 in
theorem enc_exit {w : World} (hL : LaidW w) (e : Evt) (h4 : (e.kind == 4) = false) (hq : evB ⟨e.kind, e.session, e.window, e.pane, e.index, e.offset, e.tick, e.number, e.flag, e.name, e.text, e.layout, e.visible, e.zoom⟩ ⟨24, 0, 0, 0, 0, 0, 0, 0, 0, ⟨#[]⟩, ⟨#[]⟩, ⟨#[]⟩, ⟨#[]⟩, false⟩ = true) :
    Calls Tryz.prog 21 #[.agg #[.int .i64 e.kind, .int .i64 e.session, .int .i64 e.window, .int .i64 e.pane, .int .i64 e.index, .int .i64 e.offset, .int .i64 e.tick, .int .i64 e.number, .int .i64 e.flag, .string e.name, .string e.text, .string e.layout, .string e.visible, .bool e.zoom]] w fun r w' => r = .returned (.tuple #[.string (kwN 24), .int .i64 0]) ∧ Below w.heap.size w w' := by
  go_enter Tryz.func21, Tryz.ntmps21
  go_wp2_with (first | ((with_reducible refine gate_dst (N := 1) rfl ?_); refine box_event ?hg (N := 1) ?hd (cs := #[.int .i64 e.kind, .int .i64 e.session, .int .i64 e.window, .int .i64 e.pane, .int .i64 e.index, .int .i64 e.offset, .int .i64 e.tick, .int .i64 e.number, .int .i64 e.flag, .string e.name, .string e.text, .string e.layout, .string e.visible, .bool e.zoom]) (t := 28) ?hr ?_; (case hd => rfl); (case hg => rfl); (case hr => first | (go_simp; done) | (go_simp; rfl)); intro ge hgb w1 hbox hbb; have HE := Lib.hid (show EvAt w1 ge e from hbox); have HB1 := Lib.hid hbb; have ce0 : World.cell? w1 ⟨ge, 0, none⟩ = some (.int .i64 e.kind) := (blk_cell hbox 0).trans rfl; have ce1 : World.cell? w1 ⟨ge, 1, none⟩ = some (.int .i64 e.session) := (blk_cell hbox 1).trans rfl; have ce2 : World.cell? w1 ⟨ge, 2, none⟩ = some (.int .i64 e.window) := (blk_cell hbox 2).trans rfl; have ce3 : World.cell? w1 ⟨ge, 3, none⟩ = some (.int .i64 e.pane) := (blk_cell hbox 3).trans rfl; have ce4 : World.cell? w1 ⟨ge, 4, none⟩ = some (.int .i64 e.index) := (blk_cell hbox 4).trans rfl; have ce5 : World.cell? w1 ⟨ge, 5, none⟩ = some (.int .i64 e.offset) := (blk_cell hbox 5).trans rfl; have ce6 : World.cell? w1 ⟨ge, 6, none⟩ = some (.int .i64 e.tick) := (blk_cell hbox 6).trans rfl; have ce7 : World.cell? w1 ⟨ge, 7, none⟩ = some (.int .i64 e.number) := (blk_cell hbox 7).trans rfl; have ce8 : World.cell? w1 ⟨ge, 8, none⟩ = some (.int .i64 e.flag) := (blk_cell hbox 8).trans rfl; have ce9 : World.cell? w1 ⟨ge, 9, none⟩ = some (.string e.name) := (blk_cell hbox 9).trans rfl; have ce10 : World.cell? w1 ⟨ge, 10, none⟩ = some (.string e.text) := (blk_cell hbox 10).trans rfl; have ce11 : World.cell? w1 ⟨ge, 11, none⟩ = some (.string e.layout) := (blk_cell hbox 11).trans rfl; have ce12 : World.cell? w1 ⟨ge, 12, none⟩ = some (.string e.visible) := (blk_cell hbox 12).trans rfl; have ce13 : World.cell? w1 ⟨ge, 13, none⟩ = some (.bool e.zoom) := (blk_cell hbox 13).trans rfl; clear hgb hbox hbb) | ((go_at_call 36); (with_reducible refine (kw_calls _ _).mono ?_); rintro r w2 ⟨rfl, hb⟩; have HB2 := Lib.hid hb; clear hb))
  all_goals go_returns
  all_goals exact ⟨rfl, below_step HB1.out HB2.out⟩
set_option maxHeartbeats 3200000 in
theorem enc_none {w : World} (hL : LaidW w) (e : Evt) (hs : EvSz e) (fds : List Fd) (wd : ByteArray) (hrow : ∀ w, Calls Tryz.prog 37 #[.int .i64 e.kind] w fun r w' => ∃ A, r = .returned (.tuple #[.agg #[.string wd, .slice A fds.length fds.length], .bool (!wd.toList.isEmpty)]) ∧ RowAt w' w.heap.size fds (.slice A fds.length fds.length) ∧ Below w.heap.size w w') (hwd : wd.size ≤ 100) (hfl : fds.length ≤ 7) (h4 : (e.kind == 4) = false) (hq : evB ⟨e.kind, e.session, e.window, e.pane, e.index, e.offset, e.tick, e.number, e.flag, e.name, e.text, e.layout, e.visible, e.zoom⟩ ⟨24, 0, 0, 0, 0, 0, 0, 0, 0, ⟨#[]⟩, ⟨#[]⟩, ⟨#[]⟩, ⟨#[]⟩, false⟩ = false) (hz : wd.toList.isEmpty = true) :
    Calls Tryz.prog 21 #[.agg #[.int .i64 e.kind, .int .i64 e.session, .int .i64 e.window, .int .i64 e.pane, .int .i64 e.index, .int .i64 e.offset, .int .i64 e.tick, .int .i64 e.number, .int .i64 e.flag, .string e.name, .string e.text, .string e.layout, .string e.visible, .bool e.zoom]] w fun r w' => r = .returned (.tuple #[.string ⟨#[]⟩, .int .i64 30]) ∧ Below w.heap.size w w' := by
  have HROW := Lib.hid hrow
  clear hrow
  go_enter Tryz.func21, Tryz.ntmps21
  go_wp2_with (first | ((with_reducible refine gate_dst (N := 1) rfl ?_); refine box_event ?hg (N := 1) ?hd (cs := #[.int .i64 e.kind, .int .i64 e.session, .int .i64 e.window, .int .i64 e.pane, .int .i64 e.index, .int .i64 e.offset, .int .i64 e.tick, .int .i64 e.number, .int .i64 e.flag, .string e.name, .string e.text, .string e.layout, .string e.visible, .bool e.zoom]) (t := 28) ?hr ?_; (case hd => rfl); (case hg => rfl); (case hr => first | (go_simp; done) | (go_simp; rfl)); intro ge hgb w1 hbox hbb; have HE := Lib.hid (show EvAt w1 ge e from hbox); have HB1 := Lib.hid hbb; have ce0 : World.cell? w1 ⟨ge, 0, none⟩ = some (.int .i64 e.kind) := (blk_cell hbox 0).trans rfl; have ce1 : World.cell? w1 ⟨ge, 1, none⟩ = some (.int .i64 e.session) := (blk_cell hbox 1).trans rfl; have ce2 : World.cell? w1 ⟨ge, 2, none⟩ = some (.int .i64 e.window) := (blk_cell hbox 2).trans rfl; have ce3 : World.cell? w1 ⟨ge, 3, none⟩ = some (.int .i64 e.pane) := (blk_cell hbox 3).trans rfl; have ce4 : World.cell? w1 ⟨ge, 4, none⟩ = some (.int .i64 e.index) := (blk_cell hbox 4).trans rfl; have ce5 : World.cell? w1 ⟨ge, 5, none⟩ = some (.int .i64 e.offset) := (blk_cell hbox 5).trans rfl; have ce6 : World.cell? w1 ⟨ge, 6, none⟩ = some (.int .i64 e.tick) := (blk_cell hbox 6).trans rfl; have ce7 : World.cell? w1 ⟨ge, 7, none⟩ = some (.int .i64 e.number) := (blk_cell hbox 7).trans rfl; have ce8 : World.cell? w1 ⟨ge, 8, none⟩ = some (.int .i64 e.flag) := (blk_cell hbox 8).trans rfl; have ce9 : World.cell? w1 ⟨ge, 9, none⟩ = some (.string e.name) := (blk_cell hbox 9).trans rfl; have ce10 : World.cell? w1 ⟨ge, 10, none⟩ = some (.string e.text) := (blk_cell hbox 10).trans rfl; have ce11 : World.cell? w1 ⟨ge, 11, none⟩ = some (.string e.layout) := (blk_cell hbox 11).trans rfl; have ce12 : World.cell? w1 ⟨ge, 12, none⟩ = some (.string e.visible) := (blk_cell hbox 12).trans rfl; have ce13 : World.cell? w1 ⟨ge, 13, none⟩ = some (.bool e.zoom) := (blk_cell hbox 13).trans rfl; clear hgb hbox hbb) | ((go_at_call 37); (with_reducible refine (HROW.out _).mono ?_); rintro r w2 ⟨A, rfl, hr, hb⟩; have HR := Lib.hid hr; have HB2 := Lib.hid hb; have HC2 := Lib.hid (below_step HB1.out hb); clear hr hb) | ((with_reducible refine gate_dst (N := 4) rfl ?_); refine box_event ?hg (N := 4) ?hd (cs := #[.string (⟨#[]⟩ : ByteArray), .slice none 0 0]) (t := 64) ?hr ?_; (case hd => rfl); (case hg => rfl); (case hr => first | (go_simp; done) | (go_simp; rfl)); intro gw hgb w3 hbox hbb; have HX3 := Lib.hid hbox; have HG3 := Lib.hid (show w2.heap.size ≤ gw by rw [hgb]; exact Nat.le_refl _); have HC3 := Lib.hid hbb; clear hgb hbox hbb) | ((with_reducible refine gate_store (t := 64) (p := 4) rfl ?_); refine store_event (ty := 64) (p := 4) rfl ?hg ?hd (cells := #[.string wd, .slice A fds.length fds.length]) ?hx ?hy HX3.out ?hi ?ho ?h1 ?_; (case hd => rfl); (case hg => rfl); (case hx => first | (go_simp; done) | (go_simp; rfl)); (case hy => first | (go_simp; done) | (go_simp; rfl)); (case hi => kernel_rfl); (case ho => rfl); (case h1 => kernel_rfl); intro w4 hst hsb; have HX4 := Lib.hid hst; have HC4 := Lib.hid (below_tr HC3.out (hsb.below HG3.out HC3.out.size)); have cw0 : w4.cell? ⟨gw, 0, none⟩ = some (.string wd) := (blk_cell hst 0).trans rfl; have cw1 : w4.cell? ⟨gw, 1, none⟩ = some (.slice A fds.length fds.length) := (blk_cell hst 1).trans rfl; have ck4 : w4.cell? ⟨ge, 0, none⟩ = some (.int .i64 e.kind) := (blk_cell (blk_below (blk_below HE.out HB2.out) (below_tr HC3.out (hsb.below HG3.out HC3.out.size))) 0).trans rfl; clear hst hsb))
  all_goals go_returns
  all_goals exact ⟨rfl, below_step HC2.out HC4.out⟩
end Go.Proofs.YtnblabfkkcohgaaGreatDoor.Wire
end
section
/- Encode's way through the fields, walked. -/
namespace Go.Proofs.YtnblabfkkcohgaaGreatDoor.Wire
set_option linter.unusedVariables false
set_option linter.unusedSimpArgs false
open Go Go.Shelf Go.RowKit Go.Proofs.YtnblabfkkcohgaaGreatDoor.Given Go.Proofs.YtnblabfkkcohgaaGreatDoorW.PrintWords Go.Proofs.YtnblabfkkcohgaaGreatDoorW.PrintLast

theorem blk_keep {w w' : World} {g B : Nat} {e : Evt} (h : EvAt w g e) (hb : Below B w w') (hg : g < B) : EvAt w' g e := (hb.block g hg).trans h
attribute [local go_sem high] eqE
set_option maxHeartbeats 6400000 in
theorem enc_main {w : World} (hL : LaidW w) (e : Evt) (hs : EvSz e) (fds : List Fd) (wd : ByteArray) (hrow : ∀ w, Calls Tryz.prog 37 #[.int .i64 e.kind] w fun r w' => ∃ A, r = .returned (.tuple #[.agg #[.string wd, .slice A fds.length fds.length], .bool (!wd.toList.isEmpty)]) ∧ RowAt w' w.heap.size fds (.slice A fds.length fds.length) ∧ Below w.heap.size w w') (hwd : wd.size ≤ 100) (hfl : fds.length ≤ 7) (h4 : (e.kind == 4) = false) (hq : evB ⟨e.kind, e.session, e.window, e.pane, e.index, e.offset, e.tick, e.number, e.flag, e.name, e.text, e.layout, e.visible, e.zoom⟩ ⟨24, 0, 0, 0, 0, 0, 0, 0, 0, ⟨#[]⟩, ⟨#[]⟩, ⟨#[]⟩, ⟨#[]⟩, false⟩ = false) (hz : wd.toList.isEmpty = false) (R : ByteArray × Int) (hR : R = finN (putsN fds e wd.data.toList (bareEv e.kind)) e) :
    Calls Tryz.prog 21 #[.agg #[.int .i64 e.kind, .int .i64 e.session, .int .i64 e.window, .int .i64 e.pane, .int .i64 e.index, .int .i64 e.offset, .int .i64 e.tick, .int .i64 e.number, .int .i64 e.flag, .string e.name, .string e.text, .string e.layout, .string e.visible, .bool e.zoom]] w fun r w' => r = .returned (.tuple #[.string R.1, .int .i64 R.2]) ∧ Below w.heap.size w w' := by
  have HROW := Lib.hid hrow
  have HL := Lib.hid hL
  have HS := Lib.hid hs
  have HWD := Lib.hid hwd
  have HFL := Lib.hid hfl
  have HRR := Lib.hid hR
  clear hrow hL hs hwd hfl hR
  go_enter Tryz.func21, Tryz.ntmps21
  go_wp2_with (first | ((with_reducible refine gate_dst (N := 1) rfl ?_); refine box_event ?hg (N := 1) ?hd (cs := #[.int .i64 e.kind, .int .i64 e.session, .int .i64 e.window, .int .i64 e.pane, .int .i64 e.index, .int .i64 e.offset, .int .i64 e.tick, .int .i64 e.number, .int .i64 e.flag, .string e.name, .string e.text, .string e.layout, .string e.visible, .bool e.zoom]) (t := 28) ?hr ?_; (case hd => rfl); (case hg => rfl); (case hr => first | (go_simp; done) | (go_simp; rfl)); intro ge hgb w1 hbox hbb; have HE := Lib.hid (show EvAt w1 ge e from hbox); have HB1 := Lib.hid hbb; have ce0 : World.cell? w1 ⟨ge, 0, none⟩ = some (.int .i64 e.kind) := (blk_cell hbox 0).trans rfl; have ce1 : World.cell? w1 ⟨ge, 1, none⟩ = some (.int .i64 e.session) := (blk_cell hbox 1).trans rfl; have ce2 : World.cell? w1 ⟨ge, 2, none⟩ = some (.int .i64 e.window) := (blk_cell hbox 2).trans rfl; have ce3 : World.cell? w1 ⟨ge, 3, none⟩ = some (.int .i64 e.pane) := (blk_cell hbox 3).trans rfl; have ce4 : World.cell? w1 ⟨ge, 4, none⟩ = some (.int .i64 e.index) := (blk_cell hbox 4).trans rfl; have ce5 : World.cell? w1 ⟨ge, 5, none⟩ = some (.int .i64 e.offset) := (blk_cell hbox 5).trans rfl; have ce6 : World.cell? w1 ⟨ge, 6, none⟩ = some (.int .i64 e.tick) := (blk_cell hbox 6).trans rfl; have ce7 : World.cell? w1 ⟨ge, 7, none⟩ = some (.int .i64 e.number) := (blk_cell hbox 7).trans rfl; have ce8 : World.cell? w1 ⟨ge, 8, none⟩ = some (.int .i64 e.flag) := (blk_cell hbox 8).trans rfl; have ce9 : World.cell? w1 ⟨ge, 9, none⟩ = some (.string e.name) := (blk_cell hbox 9).trans rfl; have ce10 : World.cell? w1 ⟨ge, 10, none⟩ = some (.string e.text) := (blk_cell hbox 10).trans rfl; have ce11 : World.cell? w1 ⟨ge, 11, none⟩ = some (.string e.layout) := (blk_cell hbox 11).trans rfl; have ce12 : World.cell? w1 ⟨ge, 12, none⟩ = some (.string e.visible) := (blk_cell hbox 12).trans rfl; have ce13 : World.cell? w1 ⟨ge, 13, none⟩ = some (.bool e.zoom) := (blk_cell hbox 13).trans rfl; clear hgb hbox hbb) | ((go_at_call 37); (with_reducible refine (HROW.out _).mono ?_); rintro r w2 ⟨A, rfl, hr, hb⟩; have HR := Lib.hid hr; have HB2 := Lib.hid hb; have HC2 := Lib.hid (below_step HB1.out hb); clear hr hb) | ((with_reducible refine gate_dst (N := 4) rfl ?_); refine box_event ?hg (N := 4) ?hd (cs := #[.string (⟨#[]⟩ : ByteArray), .slice none 0 0]) (t := 64) ?hr ?_; (case hd => rfl); (case hg => rfl); (case hr => first | (go_simp; done) | (go_simp; rfl)); intro gw hgb w3 hbox hbb; have HX3 := Lib.hid hbox; have HG3 := Lib.hid (show w2.heap.size ≤ gw by rw [hgb]; exact Nat.le_refl _); have HC3 := Lib.hid hbb; clear hgb hbox hbb) | ((with_reducible refine gate_store (t := 64) (p := 4) rfl ?_); refine store_event (ty := 64) (p := 4) rfl ?hg ?hd (cells := #[.string wd, .slice A fds.length fds.length]) ?hx ?hy HX3.out ?hi ?ho ?h1 ?_; (case hd => rfl); (case hg => rfl); (case hx => first | (go_simp; done) | (go_simp; rfl)); (case hy => first | (go_simp; done) | (go_simp; rfl)); (case hi => kernel_rfl); (case ho => rfl); (case h1 => kernel_rfl); intro w4 hst hsb; have HX4 := Lib.hid hst; have HC4 := Lib.hid (below_tr HC3.out (hsb.below HG3.out HC3.out.size)); have cw0 : w4.cell? ⟨gw, 0, none⟩ = some (.string wd) := (blk_cell hst 0).trans rfl; have cw1 : w4.cell? ⟨gw, 1, none⟩ = some (.slice A fds.length fds.length) := (blk_cell hst 1).trans rfl; have ck4 : w4.cell? ⟨ge, 0, none⟩ = some (.int .i64 e.kind) := (blk_cell (blk_below (blk_below HE.out HB2.out) (below_tr HC3.out (hsb.below HG3.out HC3.out.size))) 0).trans rfl; clear hst hsb) | ((with_reducible refine gate_dst (N := 6) rfl ?_); refine box_event ?hg (N := 6) ?hd (cs := #[.int .i64 0, .int .i64 0, .int .i64 0, .int .i64 0, .int .i64 0, .int .i64 0, .int .i64 0, .int .i64 0, .int .i64 0, .string (⟨#[]⟩ : ByteArray), .string (⟨#[]⟩ : ByteArray), .string (⟨#[]⟩ : ByteArray), .string (⟨#[]⟩ : ByteArray), .bool false]) (t := 28) ?hr ?_; (case hd => rfl); (case hg => rfl); (case hr => first | (go_simp; done) | (go_simp; rfl)); intro gb hgb w5 hbox hbb; have HX5 := Lib.hid hbox; have HG5 := Lib.hid (show w4.heap.size ≤ gb by rw [hgb]; exact Nat.le_refl _); have HC5 := Lib.hid hbb; clear hgb hbox hbb) | ((with_reducible refine gate_store (t := 28) (p := 6) rfl ?_); refine store_event (ty := 28) (p := 6) rfl ?hg ?hd (cells := #[.int .i64 e.kind, .int .i64 0, .int .i64 0, .int .i64 0, .int .i64 0, .int .i64 0, .int .i64 0, .int .i64 0, .int .i64 0, .string (⟨#[]⟩ : ByteArray), .string (⟨#[]⟩ : ByteArray), .string (⟨#[]⟩ : ByteArray), .string (⟨#[]⟩ : ByteArray), .bool false]) ?hx ?hy HX5.out ?hi ?ho ?h1 ?_; (case hd => rfl); (case hg => rfl); (case hx => first | (go_simp; done) | (go_simp; rfl)); (case hy => first | (go_simp; done) | (go_simp; rfl)); (case hi => kernel_rfl); (case ho => rfl); (case h1 => kernel_rfl); intro w6 hst hsb; have HX6 := Lib.hid (show EvAt w6 gb (bareEv e.kind) from hst); have HC6 := Lib.hid (below_tr HC5.out (hsb.below HG5.out HC5.out.size)); clear hst hsb) | ((with_reducible refine gate_dst (N := 7) rfl ?_); refine box_event ?hg (N := 7) ?hd (cs := #[.pointer none, .slice none 0 0]) (t := 53) ?hr ?_; (case hd => rfl); (case hg => rfl); (case hr => first | (go_simp; done) | (go_simp; rfl)); intro gl hgb w7 hbox hbb; have HW7 := Lib.hid (wr_new (by rw [hgb]; exact Nat.le_refl _) hbb hbox); have cx0 : w7.cell? ⟨gw, 0, none⟩ = some (.string wd) := (blk_cell (blk_below (blk_below HX4.out HC6.out) hbb) 0).trans rfl; clear hgb hbox hbb) | ((go_at_call 32); (with_reducible refine (ws HW7.out _ (by have := HWD.out; simp only [Lib.byteCells, List.map_nil, List.length_nil]; omega)).mono ?_); rintro r w8 ⟨rfl, h⟩; have HW8 := Lib.hid h; have cx1 : w8.cell? ⟨gw, 1, none⟩ = some (.slice A fds.length fds.length) := (blk_cell (blk_below (blk_below HX4.out HC6.out) h.below) 1).trans rfl; clear h))
  have HGB := Lib.hid (blk_lt HX6.out)
  have HSZ := Lib.hid (show w2.heap.size ≤ w6.heap.size by have := HC4.out.size; have := HC6.out.size; omega)
  have HGB2 := Lib.hid (show w2.heap.size ≤ gb by have := HG5.out; have := HC4.out.size; omega)
  (try simp only [Act.put, List.setIfInBounds_toArray, List.set_cons_zero, List.set_cons_succ])
  go_loopg [44] fds.length (fun kq v44 w' => ∃ (x : Int) (acc : List UInt8) (t : Evt), v44 = .int .i64 x ∧ Aside0 (0 ≤ x ∧ x.toNat + kq = fds.length) ∧ Aside0 (R = finN (putsN (fds.drop x.toNat) e acc t) e) ∧ Aside0 (acc.length ≤ 100 + x.toNat * 4398046511105) ∧ Aside0 (Below w2.heap.size w2 w') ∧ Aside0 (EvAt w' gb t) ∧ Aside0 (Lib.IsBuilderF 53 5 w6.heap.size gl (Lib.byteCells acc) w') ∧ Aside0 (w6.heap.size ≤ w'.heap.size))
  case atStart =>
    refine ⟨0, wd.data.toList, bareEv e.kind, rfl, Aside0.mk ⟨by omega, by simp⟩, Aside0.mk HRR.out, Aside0.mk (by have := HWD.out; rw [dlen]; simp; omega), Aside0.mk (below_step (below_step HC4.out HC6.out) HW8.out.below), Aside0.mk (HX6.out.below HW8.out.below), Aside0.mk HW8.out.is, Aside0.mk HW8.out.base⟩
  case round =>
    obtain ⟨x, acc, t, rfl, HI, HP, HAL, HBW, HEB, HBD, HBS⟩ := hrel
    clear ce0 ce1 ce2 ce3 ce4 ce5 ce6 ce7 ce8 ce9 ce10 ce11 ce12 ce13 cw0 cw1 ck4 cx0 cx1
    by_cases c : x < (fds.length : Int)
    · obtain ⟨ad, fd, kp, cp, kg, cg, kk, ck, kb, cb, rfl, hd, f0, f1, f2, f3, hcode, hep, heg, hek⟩ := row_at HR.out rfl (Kp.of HBW.out) x HI.out.1 c
      have HK := Lib.hid hcode
      have hep2 : ∀ args w, (callFunc kp args).run Tryz.prog w = .ok (.enter kp args) w := hep
      have hek2 : ∀ args w, (callFunc kk args).run Tryz.prog w = .ok (.enter kk args) w := hek
      clear hep heg hek
      have HD := Lib.hid hd
      have HPS := Lib.hid (put_size fd HS.out)
      have hx0 := eq_true HI.out.1
      have hx1 := eq_true c
      have hx2 : decide (x < (fds.length : Int)) = true := decide_eq_true c
      have HXL := Lib.hid (show x.toNat < fds.length by have := HI.out.1; omega)
      have HXS := Lib.hid (show x.toNat * 4398046511105 ≤ 6 * 4398046511105 by have := HFL.out; have := HXL.out; exact Nat.mul_le_mul_right _ (by omega))
      clear hcode hd c
      by_cases hok : (fd.put e).2 = true
      · go_wp2_with (first | ((with_reducible refine gate_dst (N := 9) rfl ?_); refine box_event ?hg (N := 9) ?hd (cs := #[.nilFunc, .nilFunc, .nilFunc, .nilFunc]) (t := 71) ?hr ?_; (case hd => rfl); (case hg => rfl); (case hr => first | (go_simp; done) | (go_simp; rfl)); intro gf hgb w9 hbox hbb; have HXf := Lib.hid hbox; have HGf := Lib.hid (Nat.le_of_eq hgb.symm); have HCf := Lib.hid hbb; clear hgb hbox hbb) | ((with_reducible refine gate_store (t := 71) (p := 9) rfl ?_); refine store_event (ty := 71) (p := 9) rfl ?hg ?hd (cells := #[.func (.func kp) #[] cp, .func (.func kg) #[] cg, .func (.func kk) #[] ck, .func (.func kb) #[] cb]) ?hx ?hy HXf.out ?hi ?ho ?h1 ?_; (case hd => rfl); (case hg => rfl); (case hx => first | (go_simp; done) | (go_simp; rfl)); (case hy => first | (go_simp; done) | (go_simp; rfl)); (case hi => kernel_rfl); (case ho => rfl); (case h1 => kernel_rfl); intro w10 hst hsb; have HXg := Lib.hid hst; have HCg := Lib.hid (below_tr HCf.out (hsb.below HGf.out HCf.out.size)); have HNE := Lib.hid (show some gf ≠ some gl by have := builder_lt HBD.out; have := HGf.out; intro hh; injection hh with hh; omega); have cf0 : w10.cell? ⟨gf, 0, none⟩ = some (.func (.func kp) #[] cp) := (blk_cell hst 0).trans rfl; clear hst hsb) | ((with_reducible refine (HK.out.put _ (Kp.of (below_step HBW.out HCg.out)) ((HL.out.below (below_step HB1.out HB2.out)).below (below_step HBW.out HCg.out)) ge e ((HE.out.below HB2.out).below (below_step HBW.out HCg.out)) HS.out).mono ?_); rintro r w11 ⟨rfl, hb⟩; have HCh := Lib.hid (below_step HCg.out hb); have HXh := Lib.hid (blk_below HXg.out hb); clear hb) | ((go_at_call 33); (with_reducible refine (wb (B := w6.heap.size) (b := gl) (bs := Lib.byteCells acc) (w0 := w11) ⟨builder_kp HBD.out (Kp.of HCh.out), Below.refl _ _, Lib.OthersKept.refl _ _ _, Nat.le_trans HBS.out HCh.out.size⟩ _ (by have := HAL.out; rw [Lib.byteCells_length]; have := HXS.out; omega)).mono ?_); rintro r w12 ⟨rfl, h⟩; have HWa := Lib.hid h; clear h) | ((go_at_call 32); (with_reducible refine (ws HWa.out _ (by have := HAL.out; have := HPS.out; have := HXS.out; simp only [List.length_append, Lib.byteCells_length, List.length_cons, List.length_nil]; omega)).mono ?_); rintro r w13 ⟨rfl, h⟩; have HWb := Lib.hid h; have HXi := Lib.hid (h.others gf _ HXh.out HNE.out (by intro c fz hc; injection hc with _ h2; exact absurd h2 (by decide))); have cf2 : w13.cell? ⟨gf, 2, none⟩ = some (.func (.func kk) #[] ck) := (blk_cell HXi.out 2).trans rfl; have HCi := Lib.hid (below_tr (below_step HBW.out HCh.out) (below_mono h.below HSZ.out)); clear h) | ((with_reducible refine (HK.out.keep _ (Kp.of HCi.out) gb ge t e (blk_keep (HEB.out.below HCh.out) HWb.out.below HGB.out) ((HE.out.below HB2.out).below HCi.out)).mono ?_); rintro r w14 ⟨rfl, he, hb⟩; have HEj := Lib.hid he; have HCj := Lib.hid hb; clear he hb))
        go_roundg (fds.length - x.toNat - 1)
        case measure => have := HI.out; have := HXL.out; omega
        case rel =>
          have hx := HI.out
          have hl := HXL.out
          have hf := HFL.out
          have hxx : (x + 1).toNat = x.toNat + 1 := by omega
          refine ⟨x + 1, acc ++ [32] ++ (fd.put e).1.data.toList, fd.keep t e, by first | rfl | (rw [wrap_in (by omega) (by omega)]), ⟨by omega⟩, ⟨?_⟩, ⟨?_⟩, ⟨?_⟩, ⟨HEj.out⟩, ⟨?_⟩, ⟨?_⟩⟩
          · rw [hxx, ← puts_step HD.out hok]; exact HP.out
          · have h1 := HAL.out
            have h2 := HPS.out
            rw [hxx]
            simp only [List.length_append, dlen, List.length_cons, List.length_nil]
            omega
          · exact below_tr HCi.out (HCj.out.below HGB2.out HCi.out.size)
          · have h1 := HWb.out.is
            have h2 : Lib.byteCells acc ++ [.int .u8 32] ++ Lib.strCells (fd.put e).1 = Lib.byteCells (acc ++ [32] ++ (fd.put e).1.data.toList) := by
              rw [Lib.byteCells_append, Lib.byteCells_append]
              rfl
            rw [h2] at h1
            exact builder_kp h1 (Kp.bg HCj.out HGB.out)
          · exact Nat.le_trans HWb.out.base HCj.out.size
      · have hok' : (fd.put e).2 = false := by simpa using hok
        go_wp2_with (first | ((with_reducible refine gate_dst (N := 9) rfl ?_); refine box_event ?hg (N := 9) ?hd (cs := #[.nilFunc, .nilFunc, .nilFunc, .nilFunc]) (t := 71) ?hr ?_; (case hd => rfl); (case hg => rfl); (case hr => first | (go_simp; done) | (go_simp; rfl)); intro gf hgb w9 hbox hbb; have HXf := Lib.hid hbox; have HGf := Lib.hid (Nat.le_of_eq hgb.symm); have HCf := Lib.hid hbb; clear hgb hbox hbb) | ((with_reducible refine gate_store (t := 71) (p := 9) rfl ?_); refine store_event (ty := 71) (p := 9) rfl ?hg ?hd (cells := #[.func (.func kp) #[] cp, .func (.func kg) #[] cg, .func (.func kk) #[] ck, .func (.func kb) #[] cb]) ?hx ?hy HXf.out ?hi ?ho ?h1 ?_; (case hd => rfl); (case hg => rfl); (case hx => first | (go_simp; done) | (go_simp; rfl)); (case hy => first | (go_simp; done) | (go_simp; rfl)); (case hi => kernel_rfl); (case ho => rfl); (case h1 => kernel_rfl); intro w10 hst hsb; have HXg := Lib.hid hst; have HCg := Lib.hid (below_tr HCf.out (hsb.below HGf.out HCf.out.size)); have HNE := Lib.hid (show some gf ≠ some gl by have := builder_lt HBD.out; have := HGf.out; intro hh; injection hh with hh; omega); have cf0 : w10.cell? ⟨gf, 0, none⟩ = some (.func (.func kp) #[] cp) := (blk_cell hst 0).trans rfl; clear hst hsb) | ((with_reducible refine (HK.out.put _ (Kp.of (below_step HBW.out HCg.out)) ((HL.out.below (below_step HB1.out HB2.out)).below (below_step HBW.out HCg.out)) ge e ((HE.out.below HB2.out).below (below_step HBW.out HCg.out)) HS.out).mono ?_); rintro r w11 ⟨rfl, hb⟩; have HCh := Lib.hid (below_step HCg.out hb); have HXh := Lib.hid (blk_below HXg.out hb); clear hb))
        all_goals go_returns
        all_goals exact ⟨by rw [HP.out, puts_stop HD.out hok']; rfl, below_step HC2.out (below_step HBW.out HCh.out)⟩
    · have hx2 : decide (x < (fds.length : Int)) = false := decide_eq_false c
      have HE0 := Lib.hid (show R = finN (some (acc, t)) e by
        have h1 := HP.out
        have h2 := HI.out
        rw [List.drop_eq_nil_of_le (by omega)] at h1
        exact h1)
      have HEW := Lib.hid ((HE.out.below HB2.out).below HBW.out)
      have ct0 : World.cell? _ ⟨gb, 0, none⟩ = some (.int .i64 t.kind) := (blk_cell HEB.out 0).trans rfl
      have ct1 : World.cell? _ ⟨gb, 1, none⟩ = some (.int .i64 t.session) := (blk_cell HEB.out 1).trans rfl
      have ct2 : World.cell? _ ⟨gb, 2, none⟩ = some (.int .i64 t.window) := (blk_cell HEB.out 2).trans rfl
      have ct3 : World.cell? _ ⟨gb, 3, none⟩ = some (.int .i64 t.pane) := (blk_cell HEB.out 3).trans rfl
      have ct4 : World.cell? _ ⟨gb, 4, none⟩ = some (.int .i64 t.index) := (blk_cell HEB.out 4).trans rfl
      have ct5 : World.cell? _ ⟨gb, 5, none⟩ = some (.int .i64 t.offset) := (blk_cell HEB.out 5).trans rfl
      have ct6 : World.cell? _ ⟨gb, 6, none⟩ = some (.int .i64 t.tick) := (blk_cell HEB.out 6).trans rfl
      have ct7 : World.cell? _ ⟨gb, 7, none⟩ = some (.int .i64 t.number) := (blk_cell HEB.out 7).trans rfl
      have ct8 : World.cell? _ ⟨gb, 8, none⟩ = some (.int .i64 t.flag) := (blk_cell HEB.out 8).trans rfl
      have ct9 : World.cell? _ ⟨gb, 9, none⟩ = some (.string t.name) := (blk_cell HEB.out 9).trans rfl
      have ct10 : World.cell? _ ⟨gb, 10, none⟩ = some (.string t.text) := (blk_cell HEB.out 10).trans rfl
      have ct11 : World.cell? _ ⟨gb, 11, none⟩ = some (.string t.layout) := (blk_cell HEB.out 11).trans rfl
      have ct12 : World.cell? _ ⟨gb, 12, none⟩ = some (.string t.visible) := (blk_cell HEB.out 12).trans rfl
      have ct13 : World.cell? _ ⟨gb, 13, none⟩ = some (.bool t.zoom) := (blk_cell HEB.out 13).trans rfl
      have ce0 : World.cell? _ ⟨ge, 0, none⟩ = some (.int .i64 e.kind) := (blk_cell HEW.out 0).trans rfl
      have ce1 : World.cell? _ ⟨ge, 1, none⟩ = some (.int .i64 e.session) := (blk_cell HEW.out 1).trans rfl
      have ce2 : World.cell? _ ⟨ge, 2, none⟩ = some (.int .i64 e.window) := (blk_cell HEW.out 2).trans rfl
      have ce3 : World.cell? _ ⟨ge, 3, none⟩ = some (.int .i64 e.pane) := (blk_cell HEW.out 3).trans rfl
      have ce4 : World.cell? _ ⟨ge, 4, none⟩ = some (.int .i64 e.index) := (blk_cell HEW.out 4).trans rfl
      have ce5 : World.cell? _ ⟨ge, 5, none⟩ = some (.int .i64 e.offset) := (blk_cell HEW.out 5).trans rfl
      have ce6 : World.cell? _ ⟨ge, 6, none⟩ = some (.int .i64 e.tick) := (blk_cell HEW.out 6).trans rfl
      have ce7 : World.cell? _ ⟨ge, 7, none⟩ = some (.int .i64 e.number) := (blk_cell HEW.out 7).trans rfl
      have ce8 : World.cell? _ ⟨ge, 8, none⟩ = some (.int .i64 e.flag) := (blk_cell HEW.out 8).trans rfl
      have ce9 : World.cell? _ ⟨ge, 9, none⟩ = some (.string e.name) := (blk_cell HEW.out 9).trans rfl
      have ce10 : World.cell? _ ⟨ge, 10, none⟩ = some (.string e.text) := (blk_cell HEW.out 10).trans rfl
      have ce11 : World.cell? _ ⟨ge, 11, none⟩ = some (.string e.layout) := (blk_cell HEW.out 11).trans rfl
      have ce12 : World.cell? _ ⟨ge, 12, none⟩ = some (.string e.visible) := (blk_cell HEW.out 12).trans rfl
      have ce13 : World.cell? _ ⟨ge, 13, none⟩ = some (.bool e.zoom) := (blk_cell HEW.out 13).trans rfl
      by_cases hq2 : evB ⟨t.kind, t.session, t.window, t.pane, t.index, t.offset, t.tick, t.number, t.flag, t.name, t.text, t.layout, t.visible, t.zoom⟩ ⟨e.kind, e.session, e.window, e.pane, e.index, e.offset, e.tick, e.number, e.flag, e.name, e.text, e.layout, e.visible, e.zoom⟩ = true
      · have HT := Lib.hid (show t = e from evB_true.1 hq2)
        go_wp2_with ((go_at_call 34); (with_reducible refine (wstr (B := w6.heap.size) (b := gl) (l := acc) (w0 := _) ⟨HBD.out, Below.refl _ _, Lib.OthersKept.refl _ _ _, HBS.out⟩).mono ?_); rintro r w9 ⟨rfl, hb⟩; have HB9 := Lib.hid hb; clear hb)
        all_goals go_returns
        all_goals exact ⟨by rw [HE0.out]; simp only [finN, if_pos HT.out]; rfl, below_step HC2.out (below_tr HBW.out (below_mono HB9.out HSZ.out))⟩
      · have hq3 : evB ⟨t.kind, t.session, t.window, t.pane, t.index, t.offset, t.tick, t.number, t.flag, t.name, t.text, t.layout, t.visible, t.zoom⟩ ⟨e.kind, e.session, e.window, e.pane, e.index, e.offset, e.tick, e.number, e.flag, e.name, e.text, e.layout, e.visible, e.zoom⟩ = false := by simpa using hq2
        have HT := Lib.hid (show ¬ t = e from evB_false.1 hq3)
        clear hq2
        go_wp2
        all_goals go_returns
        all_goals exact ⟨by rw [HE0.out]; simp only [finN, if_neg HT.out]; rfl, below_step HC2.out HBW.out⟩
/-- Encode: the line and the error. -/
theorem enc_calls {w : World} (hL : LaidW w) (e : Evt) (hs : EvSz e) :
    Calls Tryz.prog 21 #[.agg #[.int .i64 e.kind, .int .i64 e.session, .int .i64 e.window, .int .i64 e.pane, .int .i64 e.index, .int .i64 e.offset, .int .i64 e.tick, .int .i64 e.number, .int .i64 e.flag, .string e.name, .string e.text, .string e.layout, .string e.visible, .bool e.zoom]] w fun r w' => r = .returned (.tuple #[.string (encN e).1, .int .i64 (encN e).2]) ∧ Below w.heap.size w w' := by
  by_cases h4 : e.kind = 4
  · have h4b : (e.kind == 4) = true := by simpa using h4
    by_cases hq : e = textEv 4 e.text
    · have h1 : encN e = (ofL (escBodyN e.text.data.toList), 0) := by unfold encN; rw [if_pos h4, if_pos hq]
      rw [h1]
      exact enc_body_yes hL e hs.text h4b (evB_true.2 hq)
    · have h1 : encN e = (⟨#[]⟩, 30) := by unfold encN; rw [if_pos h4, if_neg hq]
      rw [h1]
      exact enc_body_no hL e h4b (evB_false.2 hq)
  · have h4b : (e.kind == 4) = false := by simpa using h4
    by_cases hq : e = bareEv 24
    · have h1 : encN e = (kwN 24, 0) := by unfold encN; rw [if_neg h4, if_pos hq]
      rw [h1]
      exact enc_exit hL e h4b (evB_true.2 hq)
    · by_cases hz : (kwN e.kind).toList.isEmpty = true
      · have h1 : encN e = (⟨#[]⟩, 30) := by unfold encN; rw [if_neg h4, if_neg hq, if_pos hz]
        rw [h1]
        exact enc_none hL e hs _ _ (row_calls e.kind) (kw_size _) (fds_len _) h4b (evB_false.2 hq) hz
      · have h1 : encN e = finN (putsN (fdsOf e.kind.toNat) e (kwN e.kind).data.toList (bareEv e.kind)) e := by unfold encN finN; rw [if_neg h4, if_neg hq, if_neg hz]; try rfl
        exact enc_main hL e hs _ _ (row_calls e.kind) (kw_size _) (fds_len _) h4b (evB_false.2 hq) (by simpa using hz) _ h1
end Go.Proofs.YtnblabfkkcohgaaGreatDoor.Wire
end
section
/- strings.Cut at one byte, walked: what it gives, whatever the text's size. -/
namespace Go.Proofs.YtnblabfkkcohgaaGreatDoor.Wire
set_option linter.unusedVariables false
set_option linter.unusedSimpArgs false
open Go Go.Shelf Go.RowKit Go.Proofs.YtnblabfkkcohgaaGreatDoor.Given Go.Proofs.YtnblabfkkcohgaaGreatDoorW.PrintWords Go.Proofs.YtnblabfkkcohgaaGreatDoorW.PrintLast

/-- A text cut at the first byte c. -/
def cutN (c : UInt8) : List UInt8 → List UInt8 × List UInt8 × Bool
  | [] => ([], [], false)
  | b :: l => if b == c then ([], l, true) else (b :: (cutN c l).1, (cutN c l).2.1, (cutN c l).2.2)
theorem cutN_cases (c : UInt8) (l : List UInt8) : (Lib.indexByte l c = -1 ∧ cutN c l = (l, [], false)) ∨ ∃ i : Nat, Lib.indexByte l c = i ∧ i < l.length ∧ cutN c l = (l.take i, l.drop (i + 1), true) := by
  induction l with
  | nil => exact .inl ⟨rfl, rfl⟩
  | cons b l ih =>
    unfold Lib.indexByte cutN
    by_cases hb : (b == c) = true
    · rw [if_pos hb, if_pos hb]
      exact .inr ⟨0, rfl, by simp, rfl⟩
    · rw [if_neg hb, if_neg hb]
      rcases ih with ⟨h1, h2⟩ | ⟨i, h1, h2, h3⟩
      · rw [h1, h2]
        exact .inl ⟨rfl, rfl⟩
      · rw [h1, h3]
        have : ((i : Int) == -1) = false := beq_eq_false_iff_ne.mpr (by omega)
        rw [if_neg (by rw [this]; simp)]
        exact .inr ⟨i + 1, rfl, by simpa using h2, rfl⟩
theorem idx_one (s : ByteArray) (c : UInt8) (sep : ByteArray) (h : sep = ⟨#[c]⟩) (w : World) : Calls Tryz.prog 133 #[.string s, .string sep] w fun e w' => e = .returned (.int .i64 (Lib.indexByte s.data.toList c)) ∧ w' = w := by
  rw [h]
  exact Tryz.stringslite_Index_one s c w
set_option maxHeartbeats 2000000 in
set_option maxRecDepth 100000 in
theorem cut_sep (c : UInt8) (s sep : ByteArray) (hsep : sep = ⟨#[c]⟩) (hs : s.size ≤ 4398046511104) (w : World) :
    Calls Tryz.prog 79 #[.string s, .string sep] w fun e w' => e = .returned (.tuple #[.string (ofL (cutN c s.data.toList).1), .string (ofL (cutN c s.data.toList).2.1), .bool (cutN c s.data.toList).2.2]) ∧ ∃ n, w' = w.drewN n := by
  have hlen := dlen s
  have hz : sep.size = 1 := by rw [hsep]; rfl
  have HS := Lib.hid hsep
  clear hsep
  rcases cutN_cases c s.data.toList with ⟨h1, h2⟩ | ⟨i, h1, h2, h3⟩
  · rw [h2]
    have e1 : ofL s.data.toList = s := ofL_list s
    simp only
    rw [e1]
    go_enter Tryz.func79, Tryz.ntmps79
    go_wp2_with (go_at_call 133; refine (idx_one s c sep HS.out _).mono ?_; rintro e w' ⟨rfl, rfl⟩; rw [h1])
    go_ret3
    exact ⟨rfl, 0, rfl⟩
  · rw [h3]
    have c1 : (0 : Int) ≤ ↑i := by omega
    have c2 : (↑i : Int) ≤ ↑s.size := by omega
    have c3 : (0 : Int) ≤ ↑i + 1 := by omega
    have c4 : (↑i + 1 : Int) ≤ ↑s.size := by omega
    have c5 : IntKind.i64.wrap ((i : Int) + 1) = (i : Int) + 1 := by rw [IntKind.wrap_i64]; omega
    have mixed : Tryz.prog.follows Departure.mixedOrders = true := by kernel_rfl
    have e1 : ofL (s.data.toList.take i) = s.extract 0 i := by
      have h := ofL_extract s.data.toList 0 i
      rw [ofL_list] at h
      rw [h]
      simp
    have e2 : ofL (s.data.toList.drop (i + 1)) = s.extract (i + 1) s.size := by
      have h := ofL_extract s.data.toList (i + 1) s.size
      rw [ofL_list] at h
      rw [h, List.take_of_length_le]
      rw [List.length_drop]
      omega
    simp only
    rw [e1, e2]
    go_enter Tryz.func79, Tryz.ntmps79
    go_wp2_with (go_at_call 133; refine (idx_one s c sep HS.out _).mono ?_; rintro e w' ⟨rfl, rfl⟩; rw [h1])
    go_region_o
    go_wp2
    go_ret3
    exact ⟨rfl, 1, rfl⟩
theorem cut_in (c : UInt8) (s : ByteArray) (hs : s.size ≤ 4398046511104) (w : World) :
    Calls Tryz.prog 79 #[.string s, .string ⟨#[c]⟩] w fun e w' => e = .returned (.tuple #[.string (ofL (cutN c s.data.toList).1), .string (ofL (cutN c s.data.toList).2.1), .bool (cutN c s.data.toList).2.2]) ∧ ∃ n, w' = w.drewN n := cut_sep c s _ rfl hs w
set_option maxHeartbeats 1000000 in
theorem cut_quiet (c : UInt8) (s : ByteArray) (hs : s.size ≤ 4398046511104) (w : World) :
    Calls Tryz.prog 44 #[.string s, .string ⟨#[c]⟩] w fun e w' => e = .returned (.tuple #[.string (ofL (cutN c s.data.toList).1), .string (ofL (cutN c s.data.toList).2.1), .bool (cutN c s.data.toList).2.2]) ∧ ∃ n, w' = w.drewN n := by
  go_enter Tryz.func44, Tryz.ntmps44
  go_wp2_with (go_at_call 79; refine (cut_in c s hs _).mono ?_; rintro e w' ⟨rfl, n, rfl⟩)
  go_ret3
  exact ⟨rfl, n, rfl⟩
end Go.Proofs.YtnblabfkkcohgaaGreatDoor.Wire
end
section
/- strings.Cut as the printed texts want it. -/
namespace Go.Proofs.YtnblabfkkcohgaaGreatDoor.CutG
open Go Go.Shelf Go.RowKit Go.Proofs.YtnblabfkkcohgaaGreatDoorW.PrintWords Go.Proofs.YtnblabfkkcohgaaGreatDoor.Wire
/-- strings.Cut at one byte. -/
def given_Cut.f (a0 a1 : ByteArray) : Option (ByteArray × ByteArray × Bool) :=
  if a0.size ≤ 4398046511104 then (match a1.data.toList with
    | [c] => some (ofL (cutN c a0.data.toList).1, ofL (cutN c a0.data.toList).2.1, (cutN c a0.data.toList).2.2)
    | _ => none) else none
theorem given_Cut.calls (a0 a1 : ByteArray) (r1 r2 : ByteArray) (r3 : Bool) (w : World) (h : given_Cut.f a0 a1 = some (r1, r2, r3)) :
    Calls Tryz.prog 44 #[.string a0, .string a1] w fun e w' => e = .returned (.tuple #[.string r1, .string r2, .bool r3]) ∧ Drawn0 w w' := by
  unfold given_Cut.f at h
  split at h
  · rename_i hs
    split at h
    · rename_i c hc
      obtain ⟨rfl, rfl, rfl⟩ := (by simpa using h : _ ∧ _ ∧ _)
      have e1 : a1 = ⟨#[c]⟩ := by
        apply ByteArray.ext
        exact Array.toList_inj.1 hc
      rw [e1]
      exact (cut_quiet c a0 hs w).mono fun e w' h => ⟨h.1, ⟨h.2⟩⟩
    · cases h
  · cases h
end Go.Proofs.YtnblabfkkcohgaaGreatDoor.CutG
end
section
-- Printed by a program of this session (wip/fork) out of the translation. Lean checks it.
namespace Go.Proofs.YtnblabfkkcohgaaGreatDoor.PKof
open Go.Proofs.YtnblabfkkcohgaaGreatDoor.CutG
open Go.RowKit Go.Proofs.YtnblabfkkcohgaaGreatDoorW.PrintWords Go.Proofs.YtnblabfkkcohgaaGreatDoorW.PrintLast Go.Proofs.YtnblabfkkcohgaaGreatDoorW.PrintMore
attribute [local go_sem] max2_int min2_int max_two min_two max_three min_three max_four min_four   -- for this text's walks alone
set_option linter.unusedVariables false
set_option linter.unusedSimpArgs false

def errW : Option Int → Value
  | none => .nilIface
  | some c => .iface 0 (.int .i64 c)
theorem errW_none : errW none = .nilIface := rfl
theorem errW_some (c : Int) : errW (some c) = .iface 0 (.int .i64 c) := rfl

-- the values' own types

end Go.Proofs.YtnblabfkkcohgaaGreatDoor.PKof
end
