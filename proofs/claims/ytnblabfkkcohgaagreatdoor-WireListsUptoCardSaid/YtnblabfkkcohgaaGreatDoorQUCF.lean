/- Texts of this claim, put together by a program of this session (prune.py): PKofx1, PKofx, DecA, DecB, DecC, LawG, PLwAx0, PLwAx1. -/
import Derived.Test.YtnblabfkkcohgaaGreatDoorQUCE
import Derived.Test.YtnblabfkkcohgaaGreatDoorQUCB
import Derived.Test.YtnblabfkkcohgaaGreatDoorProg
import Derived.Below
import Derived.Deep.Draws
import Derived.Deep.AppendLies
import Derived.Maps.AppendAt
import Derived.OwnWalk
import Derived.Laws.BytesArg
import Derived.Laws.MakeOwn
import Derived.Laws.OwnMore
import Derived.Deep.OwnRows
import Derived.Tactics
import Derived.Lib.ConvBytes
import Derived.Laws.Slices
import Derived.WalkKit
import Derived.KernelRfl
import Derived.RowKit3
import Derived.Deep.LoopGhost
import Derived.Deep.QuietTactic
import Derived.BigQuiet
import Derived.WideLaws
import Derived.Deep.DeepCutAuto
import Derived.Deep.CutBlock
import Derived.Deep.RegionHeld3
import Derived.Laws.Rows
import Derived.Lib.AppendStr
import Derived.ArgAppend
import Derived.Laws.IdiomCopy
import Derived.OrdersHeld
import Derived.Laws.BitsLemmas
import Derived.RowKit
import Derived.Test.YtnblabfkkcohgaaGreatDoorQUWWords
import Derived.Test.YtnblabfkkcohgaaGreatDoorQUWLast
import Derived.Test.YtnblabfkkcohgaaGreatDoorQUWTab
import Derived.Test.YtnblabfkkcohgaaGreatDoorQUWFour
import Derived.Test.YtnblabfkkcohgaaGreatDoorQUWQPut
import Derived.Test.YtnblabfkkcohgaaGreatDoorQUWApart
import Derived.Test.YtnblabfkkcohgaaGreatDoorQUWArr
import Derived.Test.YtnblabfkkcohgaaGreatDoorQUWZeros
import Derived.Test.YtnblabfkkcohgaaGreatDoorQUWFoot
import Derived.Test.YtnblabfkkcohgaaGreatDoorQUWKept
import Derived.Test.YtnblabfkkcohgaaGreatDoorQUWShare
import Derived.Test.YtnblabfkkcohgaaGreatDoorQUWN
import Derived.Test.YtnblabfkkcohgaaGreatDoorQUWFootNe
import Derived.Test.YtnblabfkkcohgaaGreatDoorQUWAt
import Derived.Test.YtnblabfkkcohgaaGreatDoorQUWEqStruct
import Derived.Test.YtnblabfkkcohgaaGreatDoorQUWRepsOne
import Derived.Test.YtnblabfkkcohgaaGreatDoorQUWInv
import Derived.Test.YtnblabfkkcohgaaGreatDoorQUWInvWords
import Derived.Test.YtnblabfkkcohgaaGreatDoorQUWGuard
import Derived.Test.YtnblabfkkcohgaaGreatDoorQUWNEv
import Derived.Test.YtnblabfkkcohgaaGreatDoorQUWMore
section
-- Printed by a program of this session (wip/fork) out of the translation. Lean checks it.
namespace Go.Proofs.YtnblabfkkcohgaaGreatDoor.PKof
open Go.Proofs.YtnblabfkkcohgaaGreatDoor.CutG
open Go.RowKit Go.Proofs.YtnblabfkkcohgaaGreatDoorW.PrintWords Go.Proofs.YtnblabfkkcohgaaGreatDoorW.PrintLast Go.Proofs.YtnblabfkkcohgaaGreatDoorW.PrintMore
attribute [local go_sem] max2_int min2_int max_two min_two max_three min_three max_four min_four   -- for this text's walks alone
set_option linter.unusedVariables false
set_option linter.unusedSimpArgs false

/-! ### wire_word: function 36 -/
def wire_word.f (a0 : Int) : Option (ByteArray) := if a0 = 1 then (some (⟨#[37, 98, 101, 103, 105, 110]⟩ : ByteArray)) else (if a0 = 2 then (some (⟨#[37, 101, 110, 100]⟩ : ByteArray)) else (if a0 = 3 then (some (⟨#[37, 101, 114, 114, 111, 114]⟩ : ByteArray)) else (if a0 = 5 then (some (⟨#[37, 111, 117, 116, 112, 117, 116]⟩ : ByteArray)) else (if a0 = 6 then (some (⟨#[37, 112, 97, 117, 115, 101]⟩ : ByteArray)) else (if a0 = 7 then (some (⟨#[37, 99, 111, 110, 116, 105, 110, 117, 101]⟩ : ByteArray)) else (if a0 = 8 then (some (⟨#[37, 112, 97, 110, 101, 45, 97, 100, 100]⟩ : ByteArray)) else (if a0 = 9 then (some (⟨#[37, 112, 97, 110, 101, 45, 99, 108, 111, 115, 101]⟩ : ByteArray)) else (if a0 = 10 then (some (⟨#[37, 119, 105, 110, 100, 111, 119, 45, 97, 100, 100]⟩ : ByteArray)) else (if a0 = 11 then (some (⟨#[37, 119, 105, 110, 100, 111, 119, 45, 99, 108, 111, 115, 101]⟩ : ByteArray)) else (if a0 = 12 then (some (⟨#[37, 119, 105, 110, 100, 111, 119, 45, 114, 101, 110, 97, 109, 101, 100]⟩ : ByteArray)) else (if a0 = 13 then (some (⟨#[37, 108, 97, 121, 111, 117, 116, 45, 99, 104, 97, 110, 103, 101]⟩ : ByteArray)) else (if a0 = 14 then (some (⟨#[37, 119, 105, 110, 100, 111, 119, 45, 112, 97, 110, 101, 45, 99, 104, 97, 110, 103, 101, 100]⟩ : ByteArray)) else (if a0 = 15 then (some (⟨#[37, 115, 101, 115, 115, 105, 111, 110, 45, 97, 100, 100]⟩ : ByteArray)) else (if a0 = 16 then (some (⟨#[37, 115, 101, 115, 115, 105, 111, 110, 45, 99, 108, 111, 115, 101]⟩ : ByteArray)) else (if a0 = 17 then (some (⟨#[37, 115, 101, 115, 115, 105, 111, 110, 45, 114, 101, 110, 97, 109, 101, 100]⟩ : ByteArray)) else (if a0 = 18 then (some (⟨#[37, 119, 105, 110, 100, 111, 119, 45, 108, 105, 110, 107]⟩ : ByteArray)) else (if a0 = 19 then (some (⟨#[37, 119, 105, 110, 100, 111, 119, 45, 117, 110, 108, 105, 110, 107]⟩ : ByteArray)) else (if a0 = 20 then (some (⟨#[37, 115, 101, 115, 115, 105, 111, 110, 45, 119, 105, 110, 100, 111, 119, 45, 99, 104, 97, 110, 103, 101, 100]⟩ : ByteArray)) else (if a0 = 21 then (some (⟨#[37, 115, 101, 115, 115, 105, 111, 110, 45, 99, 104, 97, 110, 103, 101, 100]⟩ : ByteArray)) else (if a0 = 22 then (some (⟨#[37, 115, 117, 98, 115, 99, 114, 105, 112, 116, 105, 111, 110, 45, 99, 104, 97, 110, 103, 101, 100]⟩ : ByteArray)) else (if a0 = 23 then (some (⟨#[37, 109, 101, 115, 115, 97, 103, 101]⟩ : ByteArray)) else (if a0 = 24 then (some (⟨#[37, 101, 120, 105, 116]⟩ : ByteArray)) else (some (⟨#[]⟩ : ByteArray))))))))))))))))))))))))
set_option maxHeartbeats 8000000 in
set_option maxRecDepth 100000 in
theorem wire_word.calls (a0 : Int) (r : ByteArray) (w : World) (h : wire_word.f a0 = some r) :
    Calls Tryz.prog 36 #[.int .i64 a0] w fun e w' => e = .returned (.string r) ∧ Drawn0 w w' := by
  have H : (if a0 = 1 then (some (⟨#[37, 98, 101, 103, 105, 110]⟩ : ByteArray)) else (if a0 = 2 then (some (⟨#[37, 101, 110, 100]⟩ : ByteArray)) else (if a0 = 3 then (some (⟨#[37, 101, 114, 114, 111, 114]⟩ : ByteArray)) else (if a0 = 5 then (some (⟨#[37, 111, 117, 116, 112, 117, 116]⟩ : ByteArray)) else (if a0 = 6 then (some (⟨#[37, 112, 97, 117, 115, 101]⟩ : ByteArray)) else (if a0 = 7 then (some (⟨#[37, 99, 111, 110, 116, 105, 110, 117, 101]⟩ : ByteArray)) else (if a0 = 8 then (some (⟨#[37, 112, 97, 110, 101, 45, 97, 100, 100]⟩ : ByteArray)) else (if a0 = 9 then (some (⟨#[37, 112, 97, 110, 101, 45, 99, 108, 111, 115, 101]⟩ : ByteArray)) else (if a0 = 10 then (some (⟨#[37, 119, 105, 110, 100, 111, 119, 45, 97, 100, 100]⟩ : ByteArray)) else (if a0 = 11 then (some (⟨#[37, 119, 105, 110, 100, 111, 119, 45, 99, 108, 111, 115, 101]⟩ : ByteArray)) else (if a0 = 12 then (some (⟨#[37, 119, 105, 110, 100, 111, 119, 45, 114, 101, 110, 97, 109, 101, 100]⟩ : ByteArray)) else (if a0 = 13 then (some (⟨#[37, 108, 97, 121, 111, 117, 116, 45, 99, 104, 97, 110, 103, 101]⟩ : ByteArray)) else (if a0 = 14 then (some (⟨#[37, 119, 105, 110, 100, 111, 119, 45, 112, 97, 110, 101, 45, 99, 104, 97, 110, 103, 101, 100]⟩ : ByteArray)) else (if a0 = 15 then (some (⟨#[37, 115, 101, 115, 115, 105, 111, 110, 45, 97, 100, 100]⟩ : ByteArray)) else (if a0 = 16 then (some (⟨#[37, 115, 101, 115, 115, 105, 111, 110, 45, 99, 108, 111, 115, 101]⟩ : ByteArray)) else (if a0 = 17 then (some (⟨#[37, 115, 101, 115, 115, 105, 111, 110, 45, 114, 101, 110, 97, 109, 101, 100]⟩ : ByteArray)) else (if a0 = 18 then (some (⟨#[37, 119, 105, 110, 100, 111, 119, 45, 108, 105, 110, 107]⟩ : ByteArray)) else (if a0 = 19 then (some (⟨#[37, 119, 105, 110, 100, 111, 119, 45, 117, 110, 108, 105, 110, 107]⟩ : ByteArray)) else (if a0 = 20 then (some (⟨#[37, 115, 101, 115, 115, 105, 111, 110, 45, 119, 105, 110, 100, 111, 119, 45, 99, 104, 97, 110, 103, 101, 100]⟩ : ByteArray)) else (if a0 = 21 then (some (⟨#[37, 115, 101, 115, 115, 105, 111, 110, 45, 99, 104, 97, 110, 103, 101, 100]⟩ : ByteArray)) else (if a0 = 22 then (some (⟨#[37, 115, 117, 98, 115, 99, 114, 105, 112, 116, 105, 111, 110, 45, 99, 104, 97, 110, 103, 101, 100]⟩ : ByteArray)) else (if a0 = 23 then (some (⟨#[37, 109, 101, 115, 115, 97, 103, 101]⟩ : ByteArray)) else (if a0 = 24 then (some (⟨#[37, 101, 120, 105, 116]⟩ : ByteArray)) else (some (⟨#[]⟩ : ByteArray))))))))))))))))))))))))) = some r := h
  clear h
  by_cases c2 : a0 = 1
  · rw [if_pos c2] at H
    have c2b0 : (a0 == 1) = true := beq_iff_eq.mpr c2
    have c2b1 : (a0 != 1) = false := bne_eq_false_iff_eq.mpr c2
    clear c2
    obtain rfl := Option.some.inj H
    go_enter Tryz.func36, Tryz.ntmps36
    go_wp2
    go_ret
    exact ⟨by first | rfl | (simp; done) | (simp [*]; done), by repeat (first | exact Drawn0.refl _ | apply Drawn0.step)⟩
  · rw [if_neg c2] at H
    have c2b0 : (a0 == 1) = false := beq_eq_false_iff_ne.mpr c2
    have c2b1 : (a0 != 1) = true := bne_iff_ne.mpr c2
    by_cases c3 : a0 = 2
    · rw [if_pos c3] at H
      have c3b0 : (a0 == 2) = true := beq_iff_eq.mpr c3
      have c3b1 : (a0 != 2) = false := bne_eq_false_iff_eq.mpr c3
      clear c3
      obtain rfl := Option.some.inj H
      go_enter Tryz.func36, Tryz.ntmps36
      go_wp2
      go_ret
      exact ⟨by first | rfl | (simp; done) | (simp [*]; done), by repeat (first | exact Drawn0.refl _ | apply Drawn0.step)⟩
    · rw [if_neg c3] at H
      have c3b0 : (a0 == 2) = false := beq_eq_false_iff_ne.mpr c3
      have c3b1 : (a0 != 2) = true := bne_iff_ne.mpr c3
      by_cases c4 : a0 = 3
      · rw [if_pos c4] at H
        have c4b0 : (a0 == 3) = true := beq_iff_eq.mpr c4
        have c4b1 : (a0 != 3) = false := bne_eq_false_iff_eq.mpr c4
        clear c4
        obtain rfl := Option.some.inj H
        go_enter Tryz.func36, Tryz.ntmps36
        go_wp2
        go_ret
        exact ⟨by first | rfl | (simp; done) | (simp [*]; done), by repeat (first | exact Drawn0.refl _ | apply Drawn0.step)⟩
      · rw [if_neg c4] at H
        have c4b0 : (a0 == 3) = false := beq_eq_false_iff_ne.mpr c4
        have c4b1 : (a0 != 3) = true := bne_iff_ne.mpr c4
        by_cases c5 : a0 = 5
        · rw [if_pos c5] at H
          have c5b0 : (a0 == 5) = true := beq_iff_eq.mpr c5
          have c5b1 : (a0 != 5) = false := bne_eq_false_iff_eq.mpr c5
          clear c5
          obtain rfl := Option.some.inj H
          go_enter Tryz.func36, Tryz.ntmps36
          go_wp2
          go_ret
          exact ⟨by first | rfl | (simp; done) | (simp [*]; done), by repeat (first | exact Drawn0.refl _ | apply Drawn0.step)⟩
        · rw [if_neg c5] at H
          have c5b0 : (a0 == 5) = false := beq_eq_false_iff_ne.mpr c5
          have c5b1 : (a0 != 5) = true := bne_iff_ne.mpr c5
          by_cases c6 : a0 = 6
          · rw [if_pos c6] at H
            have c6b0 : (a0 == 6) = true := beq_iff_eq.mpr c6
            have c6b1 : (a0 != 6) = false := bne_eq_false_iff_eq.mpr c6
            clear c6
            obtain rfl := Option.some.inj H
            go_enter Tryz.func36, Tryz.ntmps36
            go_wp2
            go_ret
            exact ⟨by first | rfl | (simp; done) | (simp [*]; done), by repeat (first | exact Drawn0.refl _ | apply Drawn0.step)⟩
          · rw [if_neg c6] at H
            have c6b0 : (a0 == 6) = false := beq_eq_false_iff_ne.mpr c6
            have c6b1 : (a0 != 6) = true := bne_iff_ne.mpr c6
            by_cases c7 : a0 = 7
            · rw [if_pos c7] at H
              have c7b0 : (a0 == 7) = true := beq_iff_eq.mpr c7
              have c7b1 : (a0 != 7) = false := bne_eq_false_iff_eq.mpr c7
              clear c7
              obtain rfl := Option.some.inj H
              go_enter Tryz.func36, Tryz.ntmps36
              go_wp2
              go_ret
              exact ⟨by first | rfl | (simp; done) | (simp [*]; done), by repeat (first | exact Drawn0.refl _ | apply Drawn0.step)⟩
            · rw [if_neg c7] at H
              have c7b0 : (a0 == 7) = false := beq_eq_false_iff_ne.mpr c7
              have c7b1 : (a0 != 7) = true := bne_iff_ne.mpr c7
              by_cases c8 : a0 = 8
              · rw [if_pos c8] at H
                have c8b0 : (a0 == 8) = true := beq_iff_eq.mpr c8
                have c8b1 : (a0 != 8) = false := bne_eq_false_iff_eq.mpr c8
                clear c8
                obtain rfl := Option.some.inj H
                go_enter Tryz.func36, Tryz.ntmps36
                go_wp2
                go_ret
                exact ⟨by first | rfl | (simp; done) | (simp [*]; done), by repeat (first | exact Drawn0.refl _ | apply Drawn0.step)⟩
              · rw [if_neg c8] at H
                have c8b0 : (a0 == 8) = false := beq_eq_false_iff_ne.mpr c8
                have c8b1 : (a0 != 8) = true := bne_iff_ne.mpr c8
                by_cases c9 : a0 = 9
                · rw [if_pos c9] at H
                  have c9b0 : (a0 == 9) = true := beq_iff_eq.mpr c9
                  have c9b1 : (a0 != 9) = false := bne_eq_false_iff_eq.mpr c9
                  clear c9
                  obtain rfl := Option.some.inj H
                  go_enter Tryz.func36, Tryz.ntmps36
                  go_wp2
                  go_ret
                  exact ⟨by first | rfl | (simp; done) | (simp [*]; done), by repeat (first | exact Drawn0.refl _ | apply Drawn0.step)⟩
                · rw [if_neg c9] at H
                  have c9b0 : (a0 == 9) = false := beq_eq_false_iff_ne.mpr c9
                  have c9b1 : (a0 != 9) = true := bne_iff_ne.mpr c9
                  by_cases c10 : a0 = 10
                  · rw [if_pos c10] at H
                    have c10b0 : (a0 == 10) = true := beq_iff_eq.mpr c10
                    have c10b1 : (a0 != 10) = false := bne_eq_false_iff_eq.mpr c10
                    clear c10
                    obtain rfl := Option.some.inj H
                    go_enter Tryz.func36, Tryz.ntmps36
                    go_wp2
                    go_ret
                    exact ⟨by first | rfl | (simp; done) | (simp [*]; done), by repeat (first | exact Drawn0.refl _ | apply Drawn0.step)⟩
                  · rw [if_neg c10] at H
                    have c10b0 : (a0 == 10) = false := beq_eq_false_iff_ne.mpr c10
                    have c10b1 : (a0 != 10) = true := bne_iff_ne.mpr c10
                    by_cases c11 : a0 = 11
                    · rw [if_pos c11] at H
                      have c11b0 : (a0 == 11) = true := beq_iff_eq.mpr c11
                      have c11b1 : (a0 != 11) = false := bne_eq_false_iff_eq.mpr c11
                      clear c11
                      obtain rfl := Option.some.inj H
                      go_enter Tryz.func36, Tryz.ntmps36
                      go_wp2
                      go_ret
                      exact ⟨by first | rfl | (simp; done) | (simp [*]; done), by repeat (first | exact Drawn0.refl _ | apply Drawn0.step)⟩
                    · rw [if_neg c11] at H
                      have c11b0 : (a0 == 11) = false := beq_eq_false_iff_ne.mpr c11
                      have c11b1 : (a0 != 11) = true := bne_iff_ne.mpr c11
                      by_cases c12 : a0 = 12
                      · rw [if_pos c12] at H
                        have c12b0 : (a0 == 12) = true := beq_iff_eq.mpr c12
                        have c12b1 : (a0 != 12) = false := bne_eq_false_iff_eq.mpr c12
                        clear c12
                        obtain rfl := Option.some.inj H
                        go_enter Tryz.func36, Tryz.ntmps36
                        go_wp2
                        go_ret
                        exact ⟨by first | rfl | (simp; done) | (simp [*]; done), by repeat (first | exact Drawn0.refl _ | apply Drawn0.step)⟩
                      · rw [if_neg c12] at H
                        have c12b0 : (a0 == 12) = false := beq_eq_false_iff_ne.mpr c12
                        have c12b1 : (a0 != 12) = true := bne_iff_ne.mpr c12
                        by_cases c13 : a0 = 13
                        · rw [if_pos c13] at H
                          have c13b0 : (a0 == 13) = true := beq_iff_eq.mpr c13
                          have c13b1 : (a0 != 13) = false := bne_eq_false_iff_eq.mpr c13
                          clear c13
                          obtain rfl := Option.some.inj H
                          go_enter Tryz.func36, Tryz.ntmps36
                          go_wp2
                          go_ret
                          exact ⟨by first | rfl | (simp; done) | (simp [*]; done), by repeat (first | exact Drawn0.refl _ | apply Drawn0.step)⟩
                        · rw [if_neg c13] at H
                          have c13b0 : (a0 == 13) = false := beq_eq_false_iff_ne.mpr c13
                          have c13b1 : (a0 != 13) = true := bne_iff_ne.mpr c13
                          by_cases c14 : a0 = 14
                          · rw [if_pos c14] at H
                            have c14b0 : (a0 == 14) = true := beq_iff_eq.mpr c14
                            have c14b1 : (a0 != 14) = false := bne_eq_false_iff_eq.mpr c14
                            clear c14
                            obtain rfl := Option.some.inj H
                            go_enter Tryz.func36, Tryz.ntmps36
                            go_wp2
                            go_ret
                            exact ⟨by first | rfl | (simp; done) | (simp [*]; done), by repeat (first | exact Drawn0.refl _ | apply Drawn0.step)⟩
                          · rw [if_neg c14] at H
                            have c14b0 : (a0 == 14) = false := beq_eq_false_iff_ne.mpr c14
                            have c14b1 : (a0 != 14) = true := bne_iff_ne.mpr c14
                            by_cases c15 : a0 = 15
                            · rw [if_pos c15] at H
                              have c15b0 : (a0 == 15) = true := beq_iff_eq.mpr c15
                              have c15b1 : (a0 != 15) = false := bne_eq_false_iff_eq.mpr c15
                              clear c15
                              obtain rfl := Option.some.inj H
                              go_enter Tryz.func36, Tryz.ntmps36
                              go_wp2
                              go_ret
                              exact ⟨by first | rfl | (simp; done) | (simp [*]; done), by repeat (first | exact Drawn0.refl _ | apply Drawn0.step)⟩
                            · rw [if_neg c15] at H
                              have c15b0 : (a0 == 15) = false := beq_eq_false_iff_ne.mpr c15
                              have c15b1 : (a0 != 15) = true := bne_iff_ne.mpr c15
                              by_cases c16 : a0 = 16
                              · rw [if_pos c16] at H
                                have c16b0 : (a0 == 16) = true := beq_iff_eq.mpr c16
                                have c16b1 : (a0 != 16) = false := bne_eq_false_iff_eq.mpr c16
                                clear c16
                                obtain rfl := Option.some.inj H
                                go_enter Tryz.func36, Tryz.ntmps36
                                go_wp2
                                go_ret
                                exact ⟨by first | rfl | (simp; done) | (simp [*]; done), by repeat (first | exact Drawn0.refl _ | apply Drawn0.step)⟩
                              · rw [if_neg c16] at H
                                have c16b0 : (a0 == 16) = false := beq_eq_false_iff_ne.mpr c16
                                have c16b1 : (a0 != 16) = true := bne_iff_ne.mpr c16
                                by_cases c17 : a0 = 17
                                · rw [if_pos c17] at H
                                  have c17b0 : (a0 == 17) = true := beq_iff_eq.mpr c17
                                  have c17b1 : (a0 != 17) = false := bne_eq_false_iff_eq.mpr c17
                                  clear c17
                                  obtain rfl := Option.some.inj H
                                  go_enter Tryz.func36, Tryz.ntmps36
                                  go_wp2
                                  go_ret
                                  exact ⟨by first | rfl | (simp; done) | (simp [*]; done), by repeat (first | exact Drawn0.refl _ | apply Drawn0.step)⟩
                                · rw [if_neg c17] at H
                                  have c17b0 : (a0 == 17) = false := beq_eq_false_iff_ne.mpr c17
                                  have c17b1 : (a0 != 17) = true := bne_iff_ne.mpr c17
                                  by_cases c18 : a0 = 18
                                  · rw [if_pos c18] at H
                                    have c18b0 : (a0 == 18) = true := beq_iff_eq.mpr c18
                                    have c18b1 : (a0 != 18) = false := bne_eq_false_iff_eq.mpr c18
                                    clear c18
                                    obtain rfl := Option.some.inj H
                                    go_enter Tryz.func36, Tryz.ntmps36
                                    go_wp2
                                    go_ret
                                    exact ⟨by first | rfl | (simp; done) | (simp [*]; done), by repeat (first | exact Drawn0.refl _ | apply Drawn0.step)⟩
                                  · rw [if_neg c18] at H
                                    have c18b0 : (a0 == 18) = false := beq_eq_false_iff_ne.mpr c18
                                    have c18b1 : (a0 != 18) = true := bne_iff_ne.mpr c18
                                    by_cases c19 : a0 = 19
                                    · rw [if_pos c19] at H
                                      have c19b0 : (a0 == 19) = true := beq_iff_eq.mpr c19
                                      have c19b1 : (a0 != 19) = false := bne_eq_false_iff_eq.mpr c19
                                      clear c19
                                      obtain rfl := Option.some.inj H
                                      go_enter Tryz.func36, Tryz.ntmps36
                                      go_wp2
                                      go_ret
                                      exact ⟨by first | rfl | (simp; done) | (simp [*]; done), by repeat (first | exact Drawn0.refl _ | apply Drawn0.step)⟩
                                    · rw [if_neg c19] at H
                                      have c19b0 : (a0 == 19) = false := beq_eq_false_iff_ne.mpr c19
                                      have c19b1 : (a0 != 19) = true := bne_iff_ne.mpr c19
                                      by_cases c20 : a0 = 20
                                      · rw [if_pos c20] at H
                                        have c20b0 : (a0 == 20) = true := beq_iff_eq.mpr c20
                                        have c20b1 : (a0 != 20) = false := bne_eq_false_iff_eq.mpr c20
                                        clear c20
                                        obtain rfl := Option.some.inj H
                                        go_enter Tryz.func36, Tryz.ntmps36
                                        go_wp2
                                        go_ret
                                        exact ⟨by first | rfl | (simp; done) | (simp [*]; done), by repeat (first | exact Drawn0.refl _ | apply Drawn0.step)⟩
                                      · rw [if_neg c20] at H
                                        have c20b0 : (a0 == 20) = false := beq_eq_false_iff_ne.mpr c20
                                        have c20b1 : (a0 != 20) = true := bne_iff_ne.mpr c20
                                        by_cases c21 : a0 = 21
                                        · rw [if_pos c21] at H
                                          have c21b0 : (a0 == 21) = true := beq_iff_eq.mpr c21
                                          have c21b1 : (a0 != 21) = false := bne_eq_false_iff_eq.mpr c21
                                          clear c21
                                          obtain rfl := Option.some.inj H
                                          go_enter Tryz.func36, Tryz.ntmps36
                                          go_wp2
                                          go_ret
                                          exact ⟨by first | rfl | (simp; done) | (simp [*]; done), by repeat (first | exact Drawn0.refl _ | apply Drawn0.step)⟩
                                        · rw [if_neg c21] at H
                                          have c21b0 : (a0 == 21) = false := beq_eq_false_iff_ne.mpr c21
                                          have c21b1 : (a0 != 21) = true := bne_iff_ne.mpr c21
                                          by_cases c22 : a0 = 22
                                          · rw [if_pos c22] at H
                                            have c22b0 : (a0 == 22) = true := beq_iff_eq.mpr c22
                                            have c22b1 : (a0 != 22) = false := bne_eq_false_iff_eq.mpr c22
                                            clear c22
                                            obtain rfl := Option.some.inj H
                                            go_enter Tryz.func36, Tryz.ntmps36
                                            go_wp2
                                            go_ret
                                            exact ⟨by first | rfl | (simp; done) | (simp [*]; done), by repeat (first | exact Drawn0.refl _ | apply Drawn0.step)⟩
                                          · rw [if_neg c22] at H
                                            have c22b0 : (a0 == 22) = false := beq_eq_false_iff_ne.mpr c22
                                            have c22b1 : (a0 != 22) = true := bne_iff_ne.mpr c22
                                            by_cases c23 : a0 = 23
                                            · rw [if_pos c23] at H
                                              have c23b0 : (a0 == 23) = true := beq_iff_eq.mpr c23
                                              have c23b1 : (a0 != 23) = false := bne_eq_false_iff_eq.mpr c23
                                              clear c23
                                              obtain rfl := Option.some.inj H
                                              go_enter Tryz.func36, Tryz.ntmps36
                                              go_wp2
                                              go_ret
                                              exact ⟨by first | rfl | (simp; done) | (simp [*]; done), by repeat (first | exact Drawn0.refl _ | apply Drawn0.step)⟩
                                            · rw [if_neg c23] at H
                                              have c23b0 : (a0 == 23) = false := beq_eq_false_iff_ne.mpr c23
                                              have c23b1 : (a0 != 23) = true := bne_iff_ne.mpr c23
                                              by_cases c24 : a0 = 24
                                              · rw [if_pos c24] at H
                                                have c24b0 : (a0 == 24) = true := beq_iff_eq.mpr c24
                                                have c24b1 : (a0 != 24) = false := bne_eq_false_iff_eq.mpr c24
                                                clear c24
                                                obtain rfl := Option.some.inj H
                                                go_enter Tryz.func36, Tryz.ntmps36
                                                go_wp2
                                                go_ret
                                                exact ⟨by first | rfl | (simp; done) | (simp [*]; done), by repeat (first | exact Drawn0.refl _ | apply Drawn0.step)⟩
                                              · rw [if_neg c24] at H
                                                have c24b0 : (a0 == 24) = false := beq_eq_false_iff_ne.mpr c24
                                                have c24b1 : (a0 != 24) = true := bne_iff_ne.mpr c24
                                                obtain rfl := Option.some.inj H
                                                go_enter Tryz.func36, Tryz.ntmps36
                                                go_wp2
                                                go_ret
                                                exact ⟨by first | rfl | (simp; done) | (simp [*]; done), by repeat (first | exact Drawn0.refl _ | apply Drawn0.step)⟩

/-! ### wire_kindOf: function 42 -/
def wire_kindOf.l0 : Nat → ByteArray → Int → Option (Int)
  | 0, _, _ => none
  | k + 1, x3, x6 => if x6 ≤ 24 then ((wire_word.f x6).bind fun t104 => (if t104.toList = x3.toList then (if x3.toList = ([] : List UInt8) then (wire_kindOf.l0 k x3 (wrap64 (x6 + 1))) else (some x6)) else (wire_kindOf.l0 k x3 (wrap64 (x6 + 1))))) else (some 0)
def wire_kindOf.f (k : Nat) (a0 : ByteArray) : Option (Int) := (given_Cut.f a0 (⟨#[32]⟩ : ByteArray)).bind fun bt101 => (wire_kindOf.l0 k bt101.1 1)
theorem wire_kindOf.mono_l : ∀ k, (∀ y0 y1, LeO (wire_kindOf.l0 k y0 y1) (wire_kindOf.l0 (k + 1) y0 y1))
  | 0 => fun _ _ r h => by simp [wire_kindOf.l0] at h
  | k + 1 => by
    have ih0 := wire_kindOf.mono_l k
    · intro y0 y1
      unfold wire_kindOf.l0
      repeat' first
      | (with_reducible exact ih0 _ _)
      | (with_reducible exact LeO.refl _)
      | (with_reducible exact LeO.none _)
      | (with_reducible refine LeO.ite ?_ ?_)
      | (with_reducible refine LeO.bind ?_ (fun _ => ?_))
      | exact ih0 _ _
      | exact LeO.none _
      | refine LeO.ite ?_ ?_
      | refine LeO.bind ?_ (fun _ => ?_)
theorem wire_kindOf.mono : ∀ a0 k, LeO (wire_kindOf.f k a0) (wire_kindOf.f (k + 1) a0) := by
  intro a0 k
  have ih0 := wire_kindOf.mono_l k
  unfold wire_kindOf.f
  repeat' first
      | (with_reducible exact ih0 _ _)
      | (with_reducible exact LeO.refl _)
      | (with_reducible exact LeO.none _)
      | (with_reducible refine LeO.ite ?_ ?_)
      | (with_reducible refine LeO.bind ?_ (fun _ => ?_))
      | exact ih0 _ _
      | exact LeO.none _
      | refine LeO.ite ?_ ?_
      | refine LeO.bind ?_ (fun _ => ?_)
set_option maxHeartbeats 8000000 in
set_option maxRecDepth 100000 in
theorem wire_kindOf.calls (k : Nat) (a0 : ByteArray) (r : Int) (w : World) (h : wire_kindOf.f k a0 = some r) :
    Calls Tryz.prog 42 #[.string a0] w fun e w' => e = .returned (.int .i64 r) ∧ Drawn0 w w' := by
  have H : ((given_Cut.f a0 (⟨#[32]⟩ : ByteArray)).bind fun bt101 => (wire_kindOf.l0 k bt101.1 1)) = some r := h
  clear h
  replace H := Option.bind_eq_some_iff.mp H
  obtain ⟨⟨t101, t102, t103⟩, A20, H⟩ := H
  replace H : (wire_kindOf.l0 k t101 1) = some r := H
  have A2 := Aside0.mk A20
  clear A20
  have H' := Aside0.mk H
  clear H
  go_enter Tryz.func42, Tryz.ntmps42
  go_wp2_with (first | ((with_reducible refine gate_callee (f := 44) rfl ?_); refine goesL_ (some 9) rfl rfl Tryz.func44 (by kernel_rfl) rfl #[.string a0, .string (⟨#[32]⟩ : ByteArray)] rfl (by (try simp only [List.map_toArray, List.map_cons, List.map_nil]); first | done | rfl | (simp only [List.length_drop, List.length_take]; rfl)) ?_; (with_reducible refine (given_Cut.calls a0 (⟨#[32]⟩ : ByteArray) t101 t102 t103 _ A2.out).mono ?_); rintro e w' ⟨rfl, ⟨nd, rfl⟩⟩; refine ⟨_, rfl, ?_⟩))
  (try simp only [Act.put, List.setIfInBounds_toArray, List.set_cons_zero, List.set_cons_succ])
  go_loopg [6] k (fun kq v6 w' => ∃ (x6_1 : Int), v6 = .int .i64 x6_1 ∧ Aside0 (wire_kindOf.l0 kq t101 x6_1 = some r) ∧ Aside0 (kq ≤ k) ∧ Drawn0 w w')
  case atStart => exact ⟨(1), (by first | rfl | (simp; done) | (simp [*]; done)), H', ⟨Nat.le_refl _⟩, by repeat (first | exact Drawn0.refl _ | apply Drawn0.step)⟩
  case round =>
    clear H'
    try clear p2
    obtain ⟨x6_1, rfl, HA, HK1, ⟨m1, rfl⟩⟩ := hrel
    cases gk with
    | zero => exact absurd HA.out (by simp [wire_kindOf.l0])
    | succ k1 =>
      have H := HA.out
      clear HA
      simp only [wire_kindOf.l0] at H
      by_cases c3 : x6_1 ≤ 24
      · rw [if_pos c3] at H
        have c3b0 : decide (x6_1 ≤ 24) = true := decide_eq_true c3
        clear c3
        replace H := Option.bind_eq_some_iff.mp H
        obtain ⟨t104, A40, H⟩ := H
        replace H : (if t104.toList = t101.toList then (if t101.toList = ([] : List UInt8) then (wire_kindOf.l0 k1 t101 (wrap64 (x6_1 + 1))) else (some x6_1)) else (wire_kindOf.l0 k1 t101 (wrap64 (x6_1 + 1)))) = some r := H
        have A4 := Aside0.mk A40
        clear A40
        by_cases c5 : t104.toList = t101.toList
        · rw [if_pos c5] at H
          have c5b0 : (t104.toList == t101.toList) = true := beq_iff_eq.mpr c5
          have c5b1 : (t104.toList != t101.toList) = false := bne_eq_false_iff_eq.mpr c5
          clear c5
          by_cases c6 : t101.toList = ([] : List UInt8)
          · rw [if_pos c6] at H
            have c6b0 : (t101.toList == ([] : List UInt8)) = true := beq_iff_eq.mpr c6
            have c6b1 : (t101.toList != ([] : List UInt8)) = false := bne_eq_false_iff_eq.mpr c6
            clear c6
            have H' := Aside0.mk H
            clear H
            go_wp2_with (first | ((with_reducible refine gate_callee (f := 36) rfl ?_); refine goesL_ (some 18) rfl rfl Tryz.func36 (by kernel_rfl) rfl #[.int .i64 x6_1] rfl (by (try simp only [List.map_toArray, List.map_cons, List.map_nil]); first | done | rfl | (simp only [List.length_drop, List.length_take]; rfl)) ?_; (with_reducible refine (wire_word.calls x6_1 t104 _ A4.out).mono ?_); rintro e w' ⟨rfl, ⟨nd, rfl⟩⟩; refine ⟨_, rfl, ?_⟩))
            go_roundg k1
            case measure => have := HK1.out; omega
            case rel => exact ⟨(wrap64 (x6_1 + 1)), (by first | rfl | (simp; done) | (simp [*]; done)), H', ⟨by have := HK1.out; omega⟩, by repeat (first | exact Drawn0.refl _ | apply Drawn0.step)⟩
          · rw [if_neg c6] at H
            have c6b0 : (t101.toList == ([] : List UInt8)) = false := beq_eq_false_iff_ne.mpr c6
            have c6b1 : (t101.toList != ([] : List UInt8)) = true := bne_iff_ne.mpr c6
            obtain rfl := Option.some.inj H
            go_wp2_with (first | ((with_reducible refine gate_callee (f := 36) rfl ?_); refine goesL_ (some 18) rfl rfl Tryz.func36 (by kernel_rfl) rfl #[.int .i64 x6_1] rfl (by (try simp only [List.map_toArray, List.map_cons, List.map_nil]); first | done | rfl | (simp only [List.length_drop, List.length_take]; rfl)) ?_; (with_reducible refine (wire_word.calls x6_1 t104 _ A4.out).mono ?_); rintro e w' ⟨rfl, ⟨nd, rfl⟩⟩; refine ⟨_, rfl, ?_⟩))
            go_ret
            exact ⟨by first | rfl | (simp; done) | (simp [*]; done), by repeat (first | exact Drawn0.refl _ | apply Drawn0.step)⟩
        · rw [if_neg c5] at H
          have c5b0 : (t104.toList == t101.toList) = false := beq_eq_false_iff_ne.mpr c5
          have c5b1 : (t104.toList != t101.toList) = true := bne_iff_ne.mpr c5
          have H' := Aside0.mk H
          clear H
          go_wp2_with (first | ((with_reducible refine gate_callee (f := 36) rfl ?_); refine goesL_ (some 18) rfl rfl Tryz.func36 (by kernel_rfl) rfl #[.int .i64 x6_1] rfl (by (try simp only [List.map_toArray, List.map_cons, List.map_nil]); first | done | rfl | (simp only [List.length_drop, List.length_take]; rfl)) ?_; (with_reducible refine (wire_word.calls x6_1 t104 _ A4.out).mono ?_); rintro e w' ⟨rfl, ⟨nd, rfl⟩⟩; refine ⟨_, rfl, ?_⟩))
          go_roundg k1
          case measure => have := HK1.out; omega
          case rel => exact ⟨(wrap64 (x6_1 + 1)), (by first | rfl | (simp; done) | (simp [*]; done)), H', ⟨by have := HK1.out; omega⟩, by repeat (first | exact Drawn0.refl _ | apply Drawn0.step)⟩
      · rw [if_neg c3] at H
        have c3b0 : decide (x6_1 ≤ 24) = false := decide_eq_false c3
        clear c3
        obtain rfl := Option.some.inj H
        go_wp2
        go_ret
        exact ⟨by first | rfl | (simp; done) | (simp [*]; done), by repeat (first | exact Drawn0.refl _ | apply Drawn0.step)⟩

end Go.Proofs.YtnblabfkkcohgaaGreatDoor.PKof
end
section
-- Printed by a program of this session (wip/fork) out of the translation. Lean checks it.
namespace Go.Proofs.YtnblabfkkcohgaaGreatDoor.PKof
open Go.Proofs.YtnblabfkkcohgaaGreatDoor.CutG
open Go.RowKit Go.Proofs.YtnblabfkkcohgaaGreatDoorW.PrintWords Go.Proofs.YtnblabfkkcohgaaGreatDoorW.PrintLast Go.Proofs.YtnblabfkkcohgaaGreatDoorW.PrintMore
attribute [local go_sem] max2_int min2_int max_two min_two max_three min_three max_four min_four   -- for this text's walks alone
set_option linter.unusedVariables false
set_option linter.unusedSimpArgs false

end Go.Proofs.YtnblabfkkcohgaaGreatDoor.PKof
end
section
/- What Decode tells of a line, said plainly; the kind of a line, walked. -/
namespace Go.Proofs.YtnblabfkkcohgaaGreatDoor.Wire
set_option linter.unusedVariables false
set_option linter.unusedSimpArgs false
open Go Go.Shelf Go.RowKit Go.Proofs.YtnblabfkkcohgaaGreatDoor.Given Go.Proofs.YtnblabfkkcohgaaGreatDoorW.PrintWords Go.Proofs.YtnblabfkkcohgaaGreatDoorW.PrintLast

/-- The first kind from k on whose word is w. -/
def kindFrom : Nat → Int → List UInt8 → Int
  | 0, _, _ => 0
  | n + 1, k, w => if (kwN k).data.toList = w ∧ w ≠ [] then k else kindFrom n (k + 1) w
theorem kindFrom_succ (n : Nat) (k : Int) (w : List UInt8) : kindFrom (n + 1) k w = if (kwN k).data.toList = w ∧ w ≠ [] then k else kindFrom n (k + 1) w := rfl
/-- The kind whose word begins a line. -/
def kindN (l : List UInt8) : Int := kindFrom 24 1 (cutN 32 l).1
theorem kof_loop (x3 : ByteArray) : ∀ (n : Nat) (x6 : Int), x6 + n = 25 → 1 ≤ x6 → PKof.wire_kindOf.l0 (n + 1) x3 x6 = some (kindFrom n x6 x3.data.toList) := by
  intro n
  induction n with
  | zero =>
    intro x6 h h1
    unfold PKof.wire_kindOf.l0
    rw [if_neg (by omega)]
    rfl
  | succ n ih =>
    intro x6 h h1
    unfold PKof.wire_kindOf.l0
    rw [if_pos (by omega), show PKof.wire_word.f x6 = some (kwN x6) from kw_some x6]
    simp only [Option.bind_some]
    rw [wrap_in (by omega) (by omega), ih (x6 + 1) (by omega) (by omega)]
    rw [ByteArray.toList_eq, ByteArray.toList_eq]
    rw [kindFrom_succ]
    by_cases c1 : (kwN x6).data.toList = x3.data.toList
    · rw [if_pos c1]
      by_cases c2 : x3.data.toList = []
      · rw [if_pos c2, if_neg (fun hh => hh.2 c2)]
      · rw [if_neg c2, if_pos ⟨c1, c2⟩]
    · rw [if_neg c1, if_neg (fun hh => c1 hh.1)]
theorem kof_some (s : ByteArray) (hs : s.size ≤ 4398046511104) : PKof.wire_kindOf.f 25 s = some (kindN s.data.toList) := by
  unfold PKof.wire_kindOf.f CutG.given_Cut.f
  rw [if_pos hs]
  show Option.bind (some _) _ = _
  simp only [Option.bind_some]
  rw [kof_loop _ 24 1 (by omega) (by omega), ofL_data]
  rfl
theorem kof_calls (s : ByteArray) (hs : s.size ≤ 4398046511104) (w : World) : Calls Tryz.prog 42 #[.string s] w fun e w' => e = .returned (.int .i64 (kindN s.data.toList)) ∧ Below w.heap.size w w' :=
  (PKof.wire_kindOf.calls 25 s _ w (kof_some s hs)).mono fun e w' h => ⟨h.1, h.2.below⟩
theorem kindFrom_is {w : List UInt8} : ∀ {n : Nat} {k : Int}, kindFrom n k w ≠ 0 → k ≤ kindFrom n k w ∧ kindFrom n k w < k + n ∧ (kwN (kindFrom n k w)).data.toList = w ∧ w ≠ [] := by
  intro n
  induction n with
  | zero => intro k h; exact absurd rfl h
  | succ n ih =>
    intro k h
    unfold kindFrom at h ⊢
    split
    · rename_i hc
      exact ⟨by omega, by omega, hc.1, hc.2⟩
    · rename_i hc
      rw [if_neg hc] at h
      have := ih h
      exact ⟨by omega, by omega, this.2.2⟩
theorem cutN_found {c : UInt8} {l : List UInt8} (h : (cutN c l).2.2 = true) : l = (cutN c l).1 ++ c :: (cutN c l).2.1 := by
  induction l with
  | nil => cases h
  | cons b l ih =>
    unfold cutN at h ⊢
    by_cases hb : (b == c) = true
    · rw [if_pos hb] at h ⊢
      have : b = c := by simpa using hb
      simp [this]
    · rw [if_neg hb] at h ⊢
      simp only at h ⊢
      rw [List.cons_append, ← ih h]
theorem cutN_not {c : UInt8} {l : List UInt8} (h : (cutN c l).2.2 = false) : (cutN c l).1 = l ∧ (cutN c l).2.1 = [] := by
  induction l with
  | nil => exact ⟨rfl, rfl⟩
  | cons b l ih =>
    unfold cutN at h ⊢
    by_cases hb : (b == c) = true
    · rw [if_pos hb] at h
      cases h
    · rw [if_neg hb] at h ⊢
      have := ih h
      simp only
      exact ⟨by rw [this.1], this.2⟩
theorem cutN_none {c : UInt8} {l : List UInt8} : c ∉ (cutN c l).1 := by
  induction l with
  | nil => simp [cutN]
  | cons b l ih =>
    unfold cutN
    by_cases hb : (b == c) = true
    · rw [if_pos hb]; simp
    · rw [if_neg hb]
      simp only [List.mem_cons, not_or]
      exact ⟨fun e => hb (by simp [e]), ih⟩
/-- A line whose word is a kind's, and that is more than the word, goes on with a blank. -/
theorem kind_split {l : List UInt8} (h : kindN l ≠ 0) (hne : l ≠ (kwN (kindN l)).data.toList) : ∃ rest, l = (kwN (kindN l)).data.toList ++ 32 :: rest := by
  obtain ⟨_, _, h3, _⟩ := kindFrom_is h
  have h3 : (kwN (kindN l)).data.toList = (cutN 32 l).1 := h3
  cases hc : (cutN 32 l).2.2 with
  | true => exact ⟨_, by rw [h3]; exact cutN_found hc⟩
  | false => exact absurd ((cutN_not hc).1.symm.trans h3.symm) hne
/-- What the fields read, one behind the other. -/
def getsN : List Fd → List UInt8 → Evt → Option Evt
  | [], _, e => some e
  | [fd], l, e => if (fd.get e (ofL l)).2 = true then some (fd.get e (ofL l)).1 else none
  | fd :: fd' :: fds, l, e => if (cutN 32 l).2.2 = true then (if (fd.get e (ofL (cutN 32 l).1)).2 = true then getsN (fd' :: fds) (cutN 32 l).2.1 (fd.get e (ofL (cutN 32 l).1)).1 else none) else none
/-- What a line tells. -/
def decN (s : ByteArray) : Evt :=
  if s.data.toList.head? = some 37 then
    (if kindN s.data.toList = 0 then textEv 25 s
     else if s = kwN (kindN s.data.toList) then (if kindN s.data.toList = 24 then bareEv 24 else textEv 25 s)
     else match getsN (fdsOf (kindN s.data.toList).toNat) (s.data.toList.drop ((kwN (kindN s.data.toList)).size + 1)) (bareEv (kindN s.data.toList)) with
       | some e => e
       | none => textEv 25 s)
  else if (unescBodyR s.data.toList).2 = 0 then textEv 4 (ofL (unescBodyR s.data.toList).1) else textEv 25 s
end Go.Proofs.YtnblabfkkcohgaaGreatDoor.Wire
end
section
/- Decode, walked. -/
namespace Go.Proofs.YtnblabfkkcohgaaGreatDoor.Wire
set_option linter.unusedVariables false
set_option linter.unusedSimpArgs false
open Go Go.Shelf Go.RowKit Go.Proofs.YtnblabfkkcohgaaGreatDoor.Given Go.Proofs.YtnblabfkkcohgaaGreatDoorW.PrintWords Go.Proofs.YtnblabfkkcohgaaGreatDoorW.PrintLast

section
variable {ops : Array Oper} {rest : List Oper} {o : Oper} {a : Act} {W : World} {Q : Exit → Act → World → Prop}
theorem load28 {N : Tmp} (_hd : o.dst = some N) {x : Operand} (ho : o.op = .load 28 x) (hgd : o.guard = none) {g : Nat} {cells : Array Value} (hg : W.heap[g]? = some (.cells cells 28 (0, 0))) (hs : cells.size = 14)
    (hx : a.eval x = .pointer (some ⟨g, 0, none⟩)) (h : wpList Tryz.prog ops Q rest (a.put o.dst (.agg cells)) W) : wpList Tryz.prog ops Q (o :: rest) a W :=
  load_event _hd ho hgd hx hg Tryz.underlying28 rfl (by rw [hs]; kernel_rfl) h
end
set_option maxHeartbeats 3200000 in
theorem dec_empty_bad {w : World} (hL : LaidW w) (s : ByteArray) (hs : s.size ≤ 1099511627776) (he : s.toList.isEmpty = true) (hb : ((unescBodyR s.data.toList).2 != 0) = true) :
    Calls Tryz.prog 24 #[.string s] w fun r w' => r = .returned (.agg (evCells (textEv 25 s))) ∧ Below w.heap.size w w' := by
  have HL := Lib.hid hL
  have HS := Lib.hid hs
  clear hL hs
  go_enter Tryz.func24, Tryz.ntmps24
  go_wp2_with (first | ((with_reducible refine gate_dst (N := 2) rfl ?_); refine box_event ?hg (N := 2) ?hd (cs := #[.int .i64 0, .int .i64 0, .int .i64 0, .int .i64 0, .int .i64 0, .int .i64 0, .int .i64 0, .int .i64 0, .int .i64 0, .string (⟨#[]⟩ : ByteArray), .string (⟨#[]⟩ : ByteArray), .string (⟨#[]⟩ : ByteArray), .string (⟨#[]⟩ : ByteArray), .bool false]) (t := 28) ?hr ?_; (case hd => rfl); (case hg => rfl); (case hr => first | (go_simp; done) | (go_simp; rfl)); intro gr hgb w1 hbox hbb; have HR1 := Lib.hid (show EvAt w1 gr zeroEv from hbox); have HB1 := Lib.hid hbb; have HGr := Lib.hid (show w.heap.size ≤ gr by rw [hgb]; exact Nat.le_refl _); clear hgb hbox hbb) | ((with_reducible refine gate_dst (N := 3) rfl ?_); refine box_event ?hg (N := 3) ?hd (cs := #[.int .i64 0, .int .i64 0, .int .i64 0, .int .i64 0, .int .i64 0, .int .i64 0, .int .i64 0, .int .i64 0, .int .i64 0, .string (⟨#[]⟩ : ByteArray), .string (⟨#[]⟩ : ByteArray), .string (⟨#[]⟩ : ByteArray), .string (⟨#[]⟩ : ByteArray), .bool false]) (t := 28) ?hr ?_; (case hd => rfl); (case hg => rfl); (case hr => first | (go_simp; done) | (go_simp; rfl)); intro gd hgb w2 hbox hbb; have HX2 := Lib.hid hbox; have HB2 := Lib.hid hbb; have HGd := Lib.hid (show w1.heap.size ≤ gd by rw [hgb]; exact Nat.le_refl _); clear hgb hbox hbb) | ((with_reducible refine gate_store (t := 28) (p := 3) rfl ?_); refine store_event (ty := 28) (p := 3) rfl ?hg ?hd (cells := #[.int .i64 25, .int .i64 0, .int .i64 0, .int .i64 0, .int .i64 0, .int .i64 0, .int .i64 0, .int .i64 0, .int .i64 0, .string (⟨#[]⟩ : ByteArray), .string s, .string (⟨#[]⟩ : ByteArray), .string (⟨#[]⟩ : ByteArray), .bool false]) ?hx ?hy HX2.out ?hi ?ho ?h1 ?_; (case hd => rfl); (case hg => rfl); (case hx => first | (go_simp; done) | (go_simp; rfl)); (case hy => first | (go_simp; done) | (go_simp; rfl)); (case hi => kernel_rfl); (case ho => rfl); (case h1 => kernel_rfl); intro w3 hst hsb; have HD3 := Lib.hid (show EvAt w3 gd (textEv 25 s) from hst); have HC3 := Lib.hid (below_tr HB2.out (hsb.below HGd.out HB2.out.size)); have HR3 := Lib.hid (HR1.out.below (below_tr HB2.out (hsb.below HGd.out HB2.out.size))); have HW3 := Lib.hid (below_step HB1.out (below_tr HB2.out (hsb.below HGd.out HB2.out.size))); have HGR := Lib.hid (blk_lt HR1.out); clear hst hsb) | ((go_at_call 41); (with_reducible refine (unescBody_calls (HL.out.below HW3.out) _ HS.out).mono ?_); rintro r w4 ⟨rfl, hb⟩; have HB4 := Lib.hid (below_step HW3.out hb); have HD4 := Lib.hid (HD3.out.below hb); have HR4 := Lib.hid (HR3.out.below hb); clear hb) | ((with_reducible refine gate_dst (N := 33) rfl ?_); refine load28 (N := 33) (cells := #[.int .i64 25, .int .i64 0, .int .i64 0, .int .i64 0, .int .i64 0, .int .i64 0, .int .i64 0, .int .i64 0, .int .i64 0, .string (⟨#[]⟩ : ByteArray), .string s, .string (⟨#[]⟩ : ByteArray), .string (⟨#[]⟩ : ByteArray), .bool false]) ?hd rfl ?hg HD4.out rfl ?hx ?_; (case hd => rfl); (case hg => rfl); (case hx => first | (go_simp; done) | (go_simp; rfl))) | ((with_reducible refine gate_store (t := 28) (p := 2) rfl ?_); refine store_event (ty := 28) (p := 2) rfl ?hg ?hd (cells := #[.int .i64 25, .int .i64 0, .int .i64 0, .int .i64 0, .int .i64 0, .int .i64 0, .int .i64 0, .int .i64 0, .int .i64 0, .string (⟨#[]⟩ : ByteArray), .string s, .string (⟨#[]⟩ : ByteArray), .string (⟨#[]⟩ : ByteArray), .bool false]) ?hx ?hy HR4.out ?hi ?ho ?h1 ?_; (case hd => rfl); (case hg => rfl); (case hx => first | (go_simp; done) | (go_simp; rfl)); (case hy => first | (go_simp; done) | (go_simp; rfl)); (case hi => kernel_rfl); (case ho => rfl); (case h1 => kernel_rfl); intro w5 hst hsb; have HF := Lib.hid hst; have HFB := Lib.hid hsb; clear hst hsb))
  refine bodyPost_ret (results_cell_row rfl _ _ gr 28 #[.int .i64 25, .int .i64 0, .int .i64 0, .int .i64 0, .int .i64 0, .int .i64 0, .int .i64 0, .int .i64 0, .int .i64 0, .string (⟨#[]⟩ : ByteArray), .string s, .string (⟨#[]⟩ : ByteArray), .string (⟨#[]⟩ : ByteArray), .bool false] (0, 0) _ rfl HF.out Tryz.underlying28 rfl (by kernel_rfl)) rfl ?_
  exact ⟨rfl, below_tr HB4.out (HFB.out.below HGr.out HB4.out.size)⟩
set_option maxHeartbeats 3200000 in
theorem dec_empty_ok {w : World} (hL : LaidW w) (s : ByteArray) (hs : s.size ≤ 1099511627776) (he : s.toList.isEmpty = true) (hb : ((unescBodyR s.data.toList).2 != 0) = false) :
    Calls Tryz.prog 24 #[.string s] w fun r w' => r = .returned (.agg (evCells (textEv 4 (ofL (unescBodyR s.data.toList).1)))) ∧ Below w.heap.size w w' := by
  have HL := Lib.hid hL
  have HS := Lib.hid hs
  clear hL hs
  go_enter Tryz.func24, Tryz.ntmps24
  go_wp2_with (first | ((with_reducible refine gate_dst (N := 2) rfl ?_); refine box_event ?hg (N := 2) ?hd (cs := #[.int .i64 0, .int .i64 0, .int .i64 0, .int .i64 0, .int .i64 0, .int .i64 0, .int .i64 0, .int .i64 0, .int .i64 0, .string (⟨#[]⟩ : ByteArray), .string (⟨#[]⟩ : ByteArray), .string (⟨#[]⟩ : ByteArray), .string (⟨#[]⟩ : ByteArray), .bool false]) (t := 28) ?hr ?_; (case hd => rfl); (case hg => rfl); (case hr => first | (go_simp; done) | (go_simp; rfl)); intro gr hgb w1 hbox hbb; have HR1 := Lib.hid (show EvAt w1 gr zeroEv from hbox); have HB1 := Lib.hid hbb; have HGr := Lib.hid (show w.heap.size ≤ gr by rw [hgb]; exact Nat.le_refl _); clear hgb hbox hbb) | ((with_reducible refine gate_dst (N := 3) rfl ?_); refine box_event ?hg (N := 3) ?hd (cs := #[.int .i64 0, .int .i64 0, .int .i64 0, .int .i64 0, .int .i64 0, .int .i64 0, .int .i64 0, .int .i64 0, .int .i64 0, .string (⟨#[]⟩ : ByteArray), .string (⟨#[]⟩ : ByteArray), .string (⟨#[]⟩ : ByteArray), .string (⟨#[]⟩ : ByteArray), .bool false]) (t := 28) ?hr ?_; (case hd => rfl); (case hg => rfl); (case hr => first | (go_simp; done) | (go_simp; rfl)); intro gd hgb w2 hbox hbb; have HX2 := Lib.hid hbox; have HB2 := Lib.hid hbb; have HGd := Lib.hid (show w1.heap.size ≤ gd by rw [hgb]; exact Nat.le_refl _); clear hgb hbox hbb) | ((with_reducible refine gate_store (t := 28) (p := 3) rfl ?_); refine store_event (ty := 28) (p := 3) rfl ?hg ?hd (cells := #[.int .i64 25, .int .i64 0, .int .i64 0, .int .i64 0, .int .i64 0, .int .i64 0, .int .i64 0, .int .i64 0, .int .i64 0, .string (⟨#[]⟩ : ByteArray), .string s, .string (⟨#[]⟩ : ByteArray), .string (⟨#[]⟩ : ByteArray), .bool false]) ?hx ?hy HX2.out ?hi ?ho ?h1 ?_; (case hd => rfl); (case hg => rfl); (case hx => first | (go_simp; done) | (go_simp; rfl)); (case hy => first | (go_simp; done) | (go_simp; rfl)); (case hi => kernel_rfl); (case ho => rfl); (case h1 => kernel_rfl); intro w3 hst hsb; have HD3 := Lib.hid (show EvAt w3 gd (textEv 25 s) from hst); have HC3 := Lib.hid (below_tr HB2.out (hsb.below HGd.out HB2.out.size)); have HR3 := Lib.hid (HR1.out.below (below_tr HB2.out (hsb.below HGd.out HB2.out.size))); have HW3 := Lib.hid (below_step HB1.out (below_tr HB2.out (hsb.below HGd.out HB2.out.size))); have HGR := Lib.hid (blk_lt HR1.out); clear hst hsb) | ((go_at_call 41); (with_reducible refine (unescBody_calls (HL.out.below HW3.out) _ HS.out).mono ?_); rintro r w4 ⟨rfl, hb⟩; have HB4 := Lib.hid (below_step HW3.out hb); have HD4 := Lib.hid (HD3.out.below hb); have HR4 := Lib.hid (HR3.out.below hb); clear hb) | ((with_reducible refine gate_store (t := 28) (p := 2) rfl ?_); refine store_event (ty := 28) (p := 2) rfl ?hg ?hd (cells := #[.int .i64 4, .int .i64 0, .int .i64 0, .int .i64 0, .int .i64 0, .int .i64 0, .int .i64 0, .int .i64 0, .int .i64 0, .string (⟨#[]⟩ : ByteArray), .string (ofL (unescBodyR s.data.toList).1), .string (⟨#[]⟩ : ByteArray), .string (⟨#[]⟩ : ByteArray), .bool false]) ?hx ?hy HR4.out ?hi ?ho ?h1 ?_; (case hd => rfl); (case hg => rfl); (case hx => first | (go_simp; done) | (go_simp; rfl)); (case hy => first | (go_simp; done) | (go_simp; rfl)); (case hi => kernel_rfl); (case ho => rfl); (case h1 => kernel_rfl); intro w5 hst hsb; have HF := Lib.hid hst; have HFB := Lib.hid hsb; clear hst hsb))
  refine bodyPost_ret (results_cell_row rfl _ _ gr 28 #[.int .i64 4, .int .i64 0, .int .i64 0, .int .i64 0, .int .i64 0, .int .i64 0, .int .i64 0, .int .i64 0, .int .i64 0, .string (⟨#[]⟩ : ByteArray), .string (ofL (unescBodyR s.data.toList).1), .string (⟨#[]⟩ : ByteArray), .string (⟨#[]⟩ : ByteArray), .bool false] (0, 0) _ rfl HF.out Tryz.underlying28 rfl (by kernel_rfl)) rfl ?_
  exact ⟨rfl, below_tr HB4.out (HFB.out.below HGr.out HB4.out.size)⟩
set_option maxHeartbeats 3200000 in
theorem dec_other_bad {w : World} (hL : LaidW w) (s : ByteArray) (hs : s.size ≤ 1099511627776) (h0 : 0 < s.size) (hh : ((s[0].toNat : Int) != 37) = true) (hb : ((unescBodyR s.data.toList).2 != 0) = true) :
    Calls Tryz.prog 24 #[.string s] w fun r w' => r = .returned (.agg (evCells (textEv 25 s))) ∧ Below w.heap.size w w' := by
  have hne := notempty h0
  have h1 : (1 : Int) ≤ (s.size : Int) := by omega
  have HL := Lib.hid hL
  have HS := Lib.hid hs
  clear hL hs
  go_enter Tryz.func24, Tryz.ntmps24
  go_wp2_with (first | ((with_reducible refine gate_dst (N := 2) rfl ?_); refine box_event ?hg (N := 2) ?hd (cs := #[.int .i64 0, .int .i64 0, .int .i64 0, .int .i64 0, .int .i64 0, .int .i64 0, .int .i64 0, .int .i64 0, .int .i64 0, .string (⟨#[]⟩ : ByteArray), .string (⟨#[]⟩ : ByteArray), .string (⟨#[]⟩ : ByteArray), .string (⟨#[]⟩ : ByteArray), .bool false]) (t := 28) ?hr ?_; (case hd => rfl); (case hg => rfl); (case hr => first | (go_simp; done) | (go_simp; rfl)); intro gr hgb w1 hbox hbb; have HR1 := Lib.hid (show EvAt w1 gr zeroEv from hbox); have HB1 := Lib.hid hbb; have HGr := Lib.hid (show w.heap.size ≤ gr by rw [hgb]; exact Nat.le_refl _); clear hgb hbox hbb) | ((with_reducible refine gate_dst (N := 3) rfl ?_); refine box_event ?hg (N := 3) ?hd (cs := #[.int .i64 0, .int .i64 0, .int .i64 0, .int .i64 0, .int .i64 0, .int .i64 0, .int .i64 0, .int .i64 0, .int .i64 0, .string (⟨#[]⟩ : ByteArray), .string (⟨#[]⟩ : ByteArray), .string (⟨#[]⟩ : ByteArray), .string (⟨#[]⟩ : ByteArray), .bool false]) (t := 28) ?hr ?_; (case hd => rfl); (case hg => rfl); (case hr => first | (go_simp; done) | (go_simp; rfl)); intro gd hgb w2 hbox hbb; have HX2 := Lib.hid hbox; have HB2 := Lib.hid hbb; have HGd := Lib.hid (show w1.heap.size ≤ gd by rw [hgb]; exact Nat.le_refl _); clear hgb hbox hbb) | ((with_reducible refine gate_store (t := 28) (p := 3) rfl ?_); refine store_event (ty := 28) (p := 3) rfl ?hg ?hd (cells := #[.int .i64 25, .int .i64 0, .int .i64 0, .int .i64 0, .int .i64 0, .int .i64 0, .int .i64 0, .int .i64 0, .int .i64 0, .string (⟨#[]⟩ : ByteArray), .string s, .string (⟨#[]⟩ : ByteArray), .string (⟨#[]⟩ : ByteArray), .bool false]) ?hx ?hy HX2.out ?hi ?ho ?h1 ?_; (case hd => rfl); (case hg => rfl); (case hx => first | (go_simp; done) | (go_simp; rfl)); (case hy => first | (go_simp; done) | (go_simp; rfl)); (case hi => kernel_rfl); (case ho => rfl); (case h1 => kernel_rfl); intro w3 hst hsb; have HD3 := Lib.hid (show EvAt w3 gd (textEv 25 s) from hst); have HC3 := Lib.hid (below_tr HB2.out (hsb.below HGd.out HB2.out.size)); have HR3 := Lib.hid (HR1.out.below (below_tr HB2.out (hsb.below HGd.out HB2.out.size))); have HW3 := Lib.hid (below_step HB1.out (below_tr HB2.out (hsb.below HGd.out HB2.out.size))); have HGR := Lib.hid (blk_lt HR1.out); clear hst hsb) | ((go_at_call 41); (with_reducible refine (unescBody_calls (HL.out.below HW3.out) _ HS.out).mono ?_); rintro r w4 ⟨rfl, hb⟩; have HB4 := Lib.hid (below_step HW3.out hb); have HD4 := Lib.hid (HD3.out.below hb); have HR4 := Lib.hid (HR3.out.below hb); clear hb) | ((with_reducible refine gate_dst (N := 33) rfl ?_); refine load28 (N := 33) (cells := #[.int .i64 25, .int .i64 0, .int .i64 0, .int .i64 0, .int .i64 0, .int .i64 0, .int .i64 0, .int .i64 0, .int .i64 0, .string (⟨#[]⟩ : ByteArray), .string s, .string (⟨#[]⟩ : ByteArray), .string (⟨#[]⟩ : ByteArray), .bool false]) ?hd rfl ?hg HD4.out rfl ?hx ?_; (case hd => rfl); (case hg => rfl); (case hx => first | (go_simp; done) | (go_simp; rfl))) | ((with_reducible refine gate_store (t := 28) (p := 2) rfl ?_); refine store_event (ty := 28) (p := 2) rfl ?hg ?hd (cells := #[.int .i64 25, .int .i64 0, .int .i64 0, .int .i64 0, .int .i64 0, .int .i64 0, .int .i64 0, .int .i64 0, .int .i64 0, .string (⟨#[]⟩ : ByteArray), .string s, .string (⟨#[]⟩ : ByteArray), .string (⟨#[]⟩ : ByteArray), .bool false]) ?hx ?hy HR4.out ?hi ?ho ?h1 ?_; (case hd => rfl); (case hg => rfl); (case hx => first | (go_simp; done) | (go_simp; rfl)); (case hy => first | (go_simp; done) | (go_simp; rfl)); (case hi => kernel_rfl); (case ho => rfl); (case h1 => kernel_rfl); intro w5 hst hsb; have HF := Lib.hid hst; have HFB := Lib.hid hsb; clear hst hsb))
  refine bodyPost_ret (results_cell_row rfl _ _ gr 28 #[.int .i64 25, .int .i64 0, .int .i64 0, .int .i64 0, .int .i64 0, .int .i64 0, .int .i64 0, .int .i64 0, .int .i64 0, .string (⟨#[]⟩ : ByteArray), .string s, .string (⟨#[]⟩ : ByteArray), .string (⟨#[]⟩ : ByteArray), .bool false] (0, 0) _ rfl HF.out Tryz.underlying28 rfl (by kernel_rfl)) rfl ?_
  exact ⟨rfl, below_tr HB4.out (HFB.out.below HGr.out HB4.out.size)⟩
set_option maxHeartbeats 3200000 in
theorem dec_other_ok {w : World} (hL : LaidW w) (s : ByteArray) (hs : s.size ≤ 1099511627776) (h0 : 0 < s.size) (hh : ((s[0].toNat : Int) != 37) = true) (hb : ((unescBodyR s.data.toList).2 != 0) = false) :
    Calls Tryz.prog 24 #[.string s] w fun r w' => r = .returned (.agg (evCells (textEv 4 (ofL (unescBodyR s.data.toList).1)))) ∧ Below w.heap.size w w' := by
  have hne := notempty h0
  have h1 : (1 : Int) ≤ (s.size : Int) := by omega
  have HL := Lib.hid hL
  have HS := Lib.hid hs
  clear hL hs
  go_enter Tryz.func24, Tryz.ntmps24
  go_wp2_with (first | ((with_reducible refine gate_dst (N := 2) rfl ?_); refine box_event ?hg (N := 2) ?hd (cs := #[.int .i64 0, .int .i64 0, .int .i64 0, .int .i64 0, .int .i64 0, .int .i64 0, .int .i64 0, .int .i64 0, .int .i64 0, .string (⟨#[]⟩ : ByteArray), .string (⟨#[]⟩ : ByteArray), .string (⟨#[]⟩ : ByteArray), .string (⟨#[]⟩ : ByteArray), .bool false]) (t := 28) ?hr ?_; (case hd => rfl); (case hg => rfl); (case hr => first | (go_simp; done) | (go_simp; rfl)); intro gr hgb w1 hbox hbb; have HR1 := Lib.hid (show EvAt w1 gr zeroEv from hbox); have HB1 := Lib.hid hbb; have HGr := Lib.hid (show w.heap.size ≤ gr by rw [hgb]; exact Nat.le_refl _); clear hgb hbox hbb) | ((with_reducible refine gate_dst (N := 3) rfl ?_); refine box_event ?hg (N := 3) ?hd (cs := #[.int .i64 0, .int .i64 0, .int .i64 0, .int .i64 0, .int .i64 0, .int .i64 0, .int .i64 0, .int .i64 0, .int .i64 0, .string (⟨#[]⟩ : ByteArray), .string (⟨#[]⟩ : ByteArray), .string (⟨#[]⟩ : ByteArray), .string (⟨#[]⟩ : ByteArray), .bool false]) (t := 28) ?hr ?_; (case hd => rfl); (case hg => rfl); (case hr => first | (go_simp; done) | (go_simp; rfl)); intro gd hgb w2 hbox hbb; have HX2 := Lib.hid hbox; have HB2 := Lib.hid hbb; have HGd := Lib.hid (show w1.heap.size ≤ gd by rw [hgb]; exact Nat.le_refl _); clear hgb hbox hbb) | ((with_reducible refine gate_store (t := 28) (p := 3) rfl ?_); refine store_event (ty := 28) (p := 3) rfl ?hg ?hd (cells := #[.int .i64 25, .int .i64 0, .int .i64 0, .int .i64 0, .int .i64 0, .int .i64 0, .int .i64 0, .int .i64 0, .int .i64 0, .string (⟨#[]⟩ : ByteArray), .string s, .string (⟨#[]⟩ : ByteArray), .string (⟨#[]⟩ : ByteArray), .bool false]) ?hx ?hy HX2.out ?hi ?ho ?h1 ?_; (case hd => rfl); (case hg => rfl); (case hx => first | (go_simp; done) | (go_simp; rfl)); (case hy => first | (go_simp; done) | (go_simp; rfl)); (case hi => kernel_rfl); (case ho => rfl); (case h1 => kernel_rfl); intro w3 hst hsb; have HD3 := Lib.hid (show EvAt w3 gd (textEv 25 s) from hst); have HC3 := Lib.hid (below_tr HB2.out (hsb.below HGd.out HB2.out.size)); have HR3 := Lib.hid (HR1.out.below (below_tr HB2.out (hsb.below HGd.out HB2.out.size))); have HW3 := Lib.hid (below_step HB1.out (below_tr HB2.out (hsb.below HGd.out HB2.out.size))); have HGR := Lib.hid (blk_lt HR1.out); clear hst hsb) | ((go_at_call 41); (with_reducible refine (unescBody_calls (HL.out.below HW3.out) _ HS.out).mono ?_); rintro r w4 ⟨rfl, hb⟩; have HB4 := Lib.hid (below_step HW3.out hb); have HD4 := Lib.hid (HD3.out.below hb); have HR4 := Lib.hid (HR3.out.below hb); clear hb) | ((with_reducible refine gate_store (t := 28) (p := 2) rfl ?_); refine store_event (ty := 28) (p := 2) rfl ?hg ?hd (cells := #[.int .i64 4, .int .i64 0, .int .i64 0, .int .i64 0, .int .i64 0, .int .i64 0, .int .i64 0, .int .i64 0, .int .i64 0, .string (⟨#[]⟩ : ByteArray), .string (ofL (unescBodyR s.data.toList).1), .string (⟨#[]⟩ : ByteArray), .string (⟨#[]⟩ : ByteArray), .bool false]) ?hx ?hy HR4.out ?hi ?ho ?h1 ?_; (case hd => rfl); (case hg => rfl); (case hx => first | (go_simp; done) | (go_simp; rfl)); (case hy => first | (go_simp; done) | (go_simp; rfl)); (case hi => kernel_rfl); (case ho => rfl); (case h1 => kernel_rfl); intro w5 hst hsb; have HF := Lib.hid hst; have HFB := Lib.hid hsb; clear hst hsb))
  refine bodyPost_ret (results_cell_row rfl _ _ gr 28 #[.int .i64 4, .int .i64 0, .int .i64 0, .int .i64 0, .int .i64 0, .int .i64 0, .int .i64 0, .int .i64 0, .int .i64 0, .string (⟨#[]⟩ : ByteArray), .string (ofL (unescBodyR s.data.toList).1), .string (⟨#[]⟩ : ByteArray), .string (⟨#[]⟩ : ByteArray), .bool false] (0, 0) _ rfl HF.out Tryz.underlying28 rfl (by kernel_rfl)) rfl ?_
  exact ⟨rfl, below_tr HB4.out (HFB.out.below HGr.out HB4.out.size)⟩
set_option maxHeartbeats 3200000 in
theorem dec_none {w : World} (hL : LaidW w) (s : ByteArray) (hs : s.size ≤ 1099511627776) (h0 : 0 < s.size) (hh : ((s[0].toNat : Int) != 37) = false) (k : Int) (hk : kindN s.data.toList = k) (hz : (k == 0) = true) :
    Calls Tryz.prog 24 #[.string s] w fun r w' => r = .returned (.agg (evCells (textEv 25 s))) ∧ Below w.heap.size w w' := by
  have hne := notempty h0
  have h1 : (1 : Int) ≤ (s.size : Int) := by omega
  have HK := Lib.hid hk
  clear hk
  have HL := Lib.hid hL
  have HS := Lib.hid hs
  clear hL hs
  go_enter Tryz.func24, Tryz.ntmps24
  go_wp2_with (first | ((with_reducible refine gate_dst (N := 2) rfl ?_); refine box_event ?hg (N := 2) ?hd (cs := #[.int .i64 0, .int .i64 0, .int .i64 0, .int .i64 0, .int .i64 0, .int .i64 0, .int .i64 0, .int .i64 0, .int .i64 0, .string (⟨#[]⟩ : ByteArray), .string (⟨#[]⟩ : ByteArray), .string (⟨#[]⟩ : ByteArray), .string (⟨#[]⟩ : ByteArray), .bool false]) (t := 28) ?hr ?_; (case hd => rfl); (case hg => rfl); (case hr => first | (go_simp; done) | (go_simp; rfl)); intro gr hgb w1 hbox hbb; have HR1 := Lib.hid (show EvAt w1 gr zeroEv from hbox); have HB1 := Lib.hid hbb; have HGr := Lib.hid (show w.heap.size ≤ gr by rw [hgb]; exact Nat.le_refl _); clear hgb hbox hbb) | ((with_reducible refine gate_dst (N := 3) rfl ?_); refine box_event ?hg (N := 3) ?hd (cs := #[.int .i64 0, .int .i64 0, .int .i64 0, .int .i64 0, .int .i64 0, .int .i64 0, .int .i64 0, .int .i64 0, .int .i64 0, .string (⟨#[]⟩ : ByteArray), .string (⟨#[]⟩ : ByteArray), .string (⟨#[]⟩ : ByteArray), .string (⟨#[]⟩ : ByteArray), .bool false]) (t := 28) ?hr ?_; (case hd => rfl); (case hg => rfl); (case hr => first | (go_simp; done) | (go_simp; rfl)); intro gd hgb w2 hbox hbb; have HX2 := Lib.hid hbox; have HB2 := Lib.hid hbb; have HGd := Lib.hid (show w1.heap.size ≤ gd by rw [hgb]; exact Nat.le_refl _); clear hgb hbox hbb) | ((with_reducible refine gate_store (t := 28) (p := 3) rfl ?_); refine store_event (ty := 28) (p := 3) rfl ?hg ?hd (cells := #[.int .i64 25, .int .i64 0, .int .i64 0, .int .i64 0, .int .i64 0, .int .i64 0, .int .i64 0, .int .i64 0, .int .i64 0, .string (⟨#[]⟩ : ByteArray), .string s, .string (⟨#[]⟩ : ByteArray), .string (⟨#[]⟩ : ByteArray), .bool false]) ?hx ?hy HX2.out ?hi ?ho ?h1 ?_; (case hd => rfl); (case hg => rfl); (case hx => first | (go_simp; done) | (go_simp; rfl)); (case hy => first | (go_simp; done) | (go_simp; rfl)); (case hi => kernel_rfl); (case ho => rfl); (case h1 => kernel_rfl); intro w3 hst hsb; have HD3 := Lib.hid (show EvAt w3 gd (textEv 25 s) from hst); have HC3 := Lib.hid (below_tr HB2.out (hsb.below HGd.out HB2.out.size)); have HR3 := Lib.hid (HR1.out.below (below_tr HB2.out (hsb.below HGd.out HB2.out.size))); have HW3 := Lib.hid (below_step HB1.out (below_tr HB2.out (hsb.below HGd.out HB2.out.size))); have HGR := Lib.hid (blk_lt HR1.out); clear hst hsb) | ((go_at_call 42); (with_reducible refine (kof_calls _ (by have := HS.out; omega) _).mono ?_); rw [HK.out]; rintro r w4 ⟨rfl, hb⟩; have HB4 := Lib.hid (below_step HW3.out hb); have HD4 := Lib.hid (HD3.out.below hb); have HR4 := Lib.hid (HR3.out.below hb); clear hb) | ((with_reducible refine gate_dst (N := 40) rfl ?_); refine load28 (N := 40) (cells := #[.int .i64 25, .int .i64 0, .int .i64 0, .int .i64 0, .int .i64 0, .int .i64 0, .int .i64 0, .int .i64 0, .int .i64 0, .string (⟨#[]⟩ : ByteArray), .string s, .string (⟨#[]⟩ : ByteArray), .string (⟨#[]⟩ : ByteArray), .bool false]) ?hd rfl ?hg HD4.out rfl ?hx ?_; (case hd => rfl); (case hg => rfl); (case hx => first | (go_simp; done) | (go_simp; rfl))) | ((with_reducible refine gate_store (t := 28) (p := 2) rfl ?_); refine store_event (ty := 28) (p := 2) rfl ?hg ?hd (cells := #[.int .i64 25, .int .i64 0, .int .i64 0, .int .i64 0, .int .i64 0, .int .i64 0, .int .i64 0, .int .i64 0, .int .i64 0, .string (⟨#[]⟩ : ByteArray), .string s, .string (⟨#[]⟩ : ByteArray), .string (⟨#[]⟩ : ByteArray), .bool false]) ?hx ?hy HR4.out ?hi ?ho ?h1 ?_; (case hd => rfl); (case hg => rfl); (case hx => first | (go_simp; done) | (go_simp; rfl)); (case hy => first | (go_simp; done) | (go_simp; rfl)); (case hi => kernel_rfl); (case ho => rfl); (case h1 => kernel_rfl); intro w5 hst hsb; have HF := Lib.hid hst; have HFB := Lib.hid hsb; clear hst hsb))
  refine bodyPost_ret (results_cell_row rfl _ _ gr 28 #[.int .i64 25, .int .i64 0, .int .i64 0, .int .i64 0, .int .i64 0, .int .i64 0, .int .i64 0, .int .i64 0, .int .i64 0, .string (⟨#[]⟩ : ByteArray), .string s, .string (⟨#[]⟩ : ByteArray), .string (⟨#[]⟩ : ByteArray), .bool false] (0, 0) _ rfl HF.out Tryz.underlying28 rfl (by kernel_rfl)) rfl ?_
  exact ⟨rfl, below_tr HB4.out (HFB.out.below HGr.out HB4.out.size)⟩
set_option maxHeartbeats 3200000 in
theorem dec_word24 {w : World} (hL : LaidW w) (s : ByteArray) (hs : s.size ≤ 1099511627776) (h0 : 0 < s.size) (hh : ((s[0].toNat : Int) != 37) = false) (k : Int) (hk : kindN s.data.toList = k) (hz : (k == 0) = false) (hw : (s.toList == (kwN k).toList) = true) (h24 : (k == 24) = true) :
    Calls Tryz.prog 24 #[.string s] w fun r w' => r = .returned (.agg (evCells (bareEv k))) ∧ Below w.heap.size w w' := by
  have hne := notempty h0
  have h1 : (1 : Int) ≤ (s.size : Int) := by omega
  have HK := Lib.hid hk
  clear hk
  have HL := Lib.hid hL
  have HS := Lib.hid hs
  clear hL hs
  go_enter Tryz.func24, Tryz.ntmps24
  go_wp2_with (first | ((with_reducible refine gate_dst (N := 2) rfl ?_); refine box_event ?hg (N := 2) ?hd (cs := #[.int .i64 0, .int .i64 0, .int .i64 0, .int .i64 0, .int .i64 0, .int .i64 0, .int .i64 0, .int .i64 0, .int .i64 0, .string (⟨#[]⟩ : ByteArray), .string (⟨#[]⟩ : ByteArray), .string (⟨#[]⟩ : ByteArray), .string (⟨#[]⟩ : ByteArray), .bool false]) (t := 28) ?hr ?_; (case hd => rfl); (case hg => rfl); (case hr => first | (go_simp; done) | (go_simp; rfl)); intro gr hgb w1 hbox hbb; have HR1 := Lib.hid (show EvAt w1 gr zeroEv from hbox); have HB1 := Lib.hid hbb; have HGr := Lib.hid (show w.heap.size ≤ gr by rw [hgb]; exact Nat.le_refl _); clear hgb hbox hbb) | ((with_reducible refine gate_dst (N := 3) rfl ?_); refine box_event ?hg (N := 3) ?hd (cs := #[.int .i64 0, .int .i64 0, .int .i64 0, .int .i64 0, .int .i64 0, .int .i64 0, .int .i64 0, .int .i64 0, .int .i64 0, .string (⟨#[]⟩ : ByteArray), .string (⟨#[]⟩ : ByteArray), .string (⟨#[]⟩ : ByteArray), .string (⟨#[]⟩ : ByteArray), .bool false]) (t := 28) ?hr ?_; (case hd => rfl); (case hg => rfl); (case hr => first | (go_simp; done) | (go_simp; rfl)); intro gd hgb w2 hbox hbb; have HX2 := Lib.hid hbox; have HB2 := Lib.hid hbb; have HGd := Lib.hid (show w1.heap.size ≤ gd by rw [hgb]; exact Nat.le_refl _); clear hgb hbox hbb) | ((with_reducible refine gate_store (t := 28) (p := 3) rfl ?_); refine store_event (ty := 28) (p := 3) rfl ?hg ?hd (cells := #[.int .i64 25, .int .i64 0, .int .i64 0, .int .i64 0, .int .i64 0, .int .i64 0, .int .i64 0, .int .i64 0, .int .i64 0, .string (⟨#[]⟩ : ByteArray), .string s, .string (⟨#[]⟩ : ByteArray), .string (⟨#[]⟩ : ByteArray), .bool false]) ?hx ?hy HX2.out ?hi ?ho ?h1 ?_; (case hd => rfl); (case hg => rfl); (case hx => first | (go_simp; done) | (go_simp; rfl)); (case hy => first | (go_simp; done) | (go_simp; rfl)); (case hi => kernel_rfl); (case ho => rfl); (case h1 => kernel_rfl); intro w3 hst hsb; have HD3 := Lib.hid (show EvAt w3 gd (textEv 25 s) from hst); have HC3 := Lib.hid (below_tr HB2.out (hsb.below HGd.out HB2.out.size)); have HR3 := Lib.hid (HR1.out.below (below_tr HB2.out (hsb.below HGd.out HB2.out.size))); have HW3 := Lib.hid (below_step HB1.out (below_tr HB2.out (hsb.below HGd.out HB2.out.size))); have HGR := Lib.hid (blk_lt HR1.out); clear hst hsb) | ((go_at_call 42); (with_reducible refine (kof_calls _ (by have := HS.out; omega) _).mono ?_); rw [HK.out]; rintro r w4 ⟨rfl, hb⟩; have HB4 := Lib.hid (below_step HW3.out hb); have HD4 := Lib.hid (HD3.out.below hb); have HR4 := Lib.hid (HR3.out.below hb); clear hb) | ((with_reducible refine gate_dst (N := 7) rfl ?_); refine box_event ?hg (N := 7) ?hd (cs := #[.int .i64 0, .int .i64 0, .int .i64 0, .int .i64 0, .int .i64 0, .int .i64 0, .int .i64 0, .int .i64 0, .int .i64 0, .string (⟨#[]⟩ : ByteArray), .string (⟨#[]⟩ : ByteArray), .string (⟨#[]⟩ : ByteArray), .string (⟨#[]⟩ : ByteArray), .bool false]) (t := 28) ?hr ?_; (case hd => rfl); (case hg => rfl); (case hr => first | (go_simp; done) | (go_simp; rfl)); intro ge hgb w5 hbox hbb; have HX5 := Lib.hid hbox; have HB5 := Lib.hid hbb; have HGe := Lib.hid (show w4.heap.size ≤ ge by rw [hgb]; exact Nat.le_refl _); clear hgb hbox hbb) | ((with_reducible refine gate_store (t := 28) (p := 7) rfl ?_); refine store_event (ty := 28) (p := 7) rfl ?hg ?hd (cells := #[.int .i64 k, .int .i64 0, .int .i64 0, .int .i64 0, .int .i64 0, .int .i64 0, .int .i64 0, .int .i64 0, .int .i64 0, .string (⟨#[]⟩ : ByteArray), .string (⟨#[]⟩ : ByteArray), .string (⟨#[]⟩ : ByteArray), .string (⟨#[]⟩ : ByteArray), .bool false]) ?hx ?hy HX5.out ?hi ?ho ?h1 ?_; (case hd => rfl); (case hg => rfl); (case hx => first | (go_simp; done) | (go_simp; rfl)); (case hy => first | (go_simp; done) | (go_simp; rfl)); (case hi => kernel_rfl); (case ho => rfl); (case h1 => kernel_rfl); intro w6 hst hsb; have HE6 := Lib.hid (show EvAt w6 ge (bareEv k) from hst); have HC6 := Lib.hid (below_tr HB5.out (hsb.below HGe.out HB5.out.size)); clear hst hsb) | ((go_at_call 36); (with_reducible refine (kw_calls _ _).mono ?_); rintro r w7 ⟨rfl, hb⟩; have HC7 := Lib.hid (below_step HC6.out hb); have HE7 := Lib.hid (HE6.out.below hb); have HR7 := Lib.hid (HR4.out.below (below_step HC6.out hb)); have HD7 := Lib.hid (HD4.out.below (below_step HC6.out hb)); have HB7 := Lib.hid (below_step HB4.out (below_step HC6.out hb)); clear hb) | ((with_reducible refine gate_dst (N := 50) rfl ?_); refine load28 (N := 50) (cells := #[.int .i64 k, .int .i64 0, .int .i64 0, .int .i64 0, .int .i64 0, .int .i64 0, .int .i64 0, .int .i64 0, .int .i64 0, .string (⟨#[]⟩ : ByteArray), .string (⟨#[]⟩ : ByteArray), .string (⟨#[]⟩ : ByteArray), .string (⟨#[]⟩ : ByteArray), .bool false]) ?hd rfl ?hg HE7.out rfl ?hx ?_; (case hd => rfl); (case hg => rfl); (case hx => first | (go_simp; done) | (go_simp; rfl))) | ((with_reducible refine gate_store (t := 28) (p := 2) rfl ?_); refine store_event (ty := 28) (p := 2) rfl ?hg ?hd (cells := #[.int .i64 k, .int .i64 0, .int .i64 0, .int .i64 0, .int .i64 0, .int .i64 0, .int .i64 0, .int .i64 0, .int .i64 0, .string (⟨#[]⟩ : ByteArray), .string (⟨#[]⟩ : ByteArray), .string (⟨#[]⟩ : ByteArray), .string (⟨#[]⟩ : ByteArray), .bool false]) ?hx ?hy HR7.out ?hi ?ho ?h1 ?_; (case hd => rfl); (case hg => rfl); (case hx => first | (go_simp; done) | (go_simp; rfl)); (case hy => first | (go_simp; done) | (go_simp; rfl)); (case hi => kernel_rfl); (case ho => rfl); (case h1 => kernel_rfl); intro w8 hst hsb; have HF := Lib.hid hst; have HFB := Lib.hid hsb; clear hst hsb))
  refine bodyPost_ret (results_cell_row rfl _ _ gr 28 #[.int .i64 k, .int .i64 0, .int .i64 0, .int .i64 0, .int .i64 0, .int .i64 0, .int .i64 0, .int .i64 0, .int .i64 0, .string (⟨#[]⟩ : ByteArray), .string (⟨#[]⟩ : ByteArray), .string (⟨#[]⟩ : ByteArray), .string (⟨#[]⟩ : ByteArray), .bool false] (0, 0) _ rfl HF.out Tryz.underlying28 rfl (by kernel_rfl)) rfl ?_
  exact ⟨rfl, below_tr HB7.out (HFB.out.below HGr.out HB7.out.size)⟩
set_option maxHeartbeats 3200000 in
theorem dec_word {w : World} (hL : LaidW w) (s : ByteArray) (hs : s.size ≤ 1099511627776) (h0 : 0 < s.size) (hh : ((s[0].toNat : Int) != 37) = false) (k : Int) (hk : kindN s.data.toList = k) (hz : (k == 0) = false) (hw : (s.toList == (kwN k).toList) = true) (h24 : (k == 24) = false) :
    Calls Tryz.prog 24 #[.string s] w fun r w' => r = .returned (.agg (evCells (textEv 25 s))) ∧ Below w.heap.size w w' := by
  have hne := notempty h0
  have h1 : (1 : Int) ≤ (s.size : Int) := by omega
  have HK := Lib.hid hk
  clear hk
  have HL := Lib.hid hL
  have HS := Lib.hid hs
  clear hL hs
  go_enter Tryz.func24, Tryz.ntmps24
  go_wp2_with (first | ((with_reducible refine gate_dst (N := 2) rfl ?_); refine box_event ?hg (N := 2) ?hd (cs := #[.int .i64 0, .int .i64 0, .int .i64 0, .int .i64 0, .int .i64 0, .int .i64 0, .int .i64 0, .int .i64 0, .int .i64 0, .string (⟨#[]⟩ : ByteArray), .string (⟨#[]⟩ : ByteArray), .string (⟨#[]⟩ : ByteArray), .string (⟨#[]⟩ : ByteArray), .bool false]) (t := 28) ?hr ?_; (case hd => rfl); (case hg => rfl); (case hr => first | (go_simp; done) | (go_simp; rfl)); intro gr hgb w1 hbox hbb; have HR1 := Lib.hid (show EvAt w1 gr zeroEv from hbox); have HB1 := Lib.hid hbb; have HGr := Lib.hid (show w.heap.size ≤ gr by rw [hgb]; exact Nat.le_refl _); clear hgb hbox hbb) | ((with_reducible refine gate_dst (N := 3) rfl ?_); refine box_event ?hg (N := 3) ?hd (cs := #[.int .i64 0, .int .i64 0, .int .i64 0, .int .i64 0, .int .i64 0, .int .i64 0, .int .i64 0, .int .i64 0, .int .i64 0, .string (⟨#[]⟩ : ByteArray), .string (⟨#[]⟩ : ByteArray), .string (⟨#[]⟩ : ByteArray), .string (⟨#[]⟩ : ByteArray), .bool false]) (t := 28) ?hr ?_; (case hd => rfl); (case hg => rfl); (case hr => first | (go_simp; done) | (go_simp; rfl)); intro gd hgb w2 hbox hbb; have HX2 := Lib.hid hbox; have HB2 := Lib.hid hbb; have HGd := Lib.hid (show w1.heap.size ≤ gd by rw [hgb]; exact Nat.le_refl _); clear hgb hbox hbb) | ((with_reducible refine gate_store (t := 28) (p := 3) rfl ?_); refine store_event (ty := 28) (p := 3) rfl ?hg ?hd (cells := #[.int .i64 25, .int .i64 0, .int .i64 0, .int .i64 0, .int .i64 0, .int .i64 0, .int .i64 0, .int .i64 0, .int .i64 0, .string (⟨#[]⟩ : ByteArray), .string s, .string (⟨#[]⟩ : ByteArray), .string (⟨#[]⟩ : ByteArray), .bool false]) ?hx ?hy HX2.out ?hi ?ho ?h1 ?_; (case hd => rfl); (case hg => rfl); (case hx => first | (go_simp; done) | (go_simp; rfl)); (case hy => first | (go_simp; done) | (go_simp; rfl)); (case hi => kernel_rfl); (case ho => rfl); (case h1 => kernel_rfl); intro w3 hst hsb; have HD3 := Lib.hid (show EvAt w3 gd (textEv 25 s) from hst); have HC3 := Lib.hid (below_tr HB2.out (hsb.below HGd.out HB2.out.size)); have HR3 := Lib.hid (HR1.out.below (below_tr HB2.out (hsb.below HGd.out HB2.out.size))); have HW3 := Lib.hid (below_step HB1.out (below_tr HB2.out (hsb.below HGd.out HB2.out.size))); have HGR := Lib.hid (blk_lt HR1.out); clear hst hsb) | ((go_at_call 42); (with_reducible refine (kof_calls _ (by have := HS.out; omega) _).mono ?_); rw [HK.out]; rintro r w4 ⟨rfl, hb⟩; have HB4 := Lib.hid (below_step HW3.out hb); have HD4 := Lib.hid (HD3.out.below hb); have HR4 := Lib.hid (HR3.out.below hb); clear hb) | ((with_reducible refine gate_dst (N := 7) rfl ?_); refine box_event ?hg (N := 7) ?hd (cs := #[.int .i64 0, .int .i64 0, .int .i64 0, .int .i64 0, .int .i64 0, .int .i64 0, .int .i64 0, .int .i64 0, .int .i64 0, .string (⟨#[]⟩ : ByteArray), .string (⟨#[]⟩ : ByteArray), .string (⟨#[]⟩ : ByteArray), .string (⟨#[]⟩ : ByteArray), .bool false]) (t := 28) ?hr ?_; (case hd => rfl); (case hg => rfl); (case hr => first | (go_simp; done) | (go_simp; rfl)); intro ge hgb w5 hbox hbb; have HX5 := Lib.hid hbox; have HB5 := Lib.hid hbb; have HGe := Lib.hid (show w4.heap.size ≤ ge by rw [hgb]; exact Nat.le_refl _); clear hgb hbox hbb) | ((with_reducible refine gate_store (t := 28) (p := 7) rfl ?_); refine store_event (ty := 28) (p := 7) rfl ?hg ?hd (cells := #[.int .i64 k, .int .i64 0, .int .i64 0, .int .i64 0, .int .i64 0, .int .i64 0, .int .i64 0, .int .i64 0, .int .i64 0, .string (⟨#[]⟩ : ByteArray), .string (⟨#[]⟩ : ByteArray), .string (⟨#[]⟩ : ByteArray), .string (⟨#[]⟩ : ByteArray), .bool false]) ?hx ?hy HX5.out ?hi ?ho ?h1 ?_; (case hd => rfl); (case hg => rfl); (case hx => first | (go_simp; done) | (go_simp; rfl)); (case hy => first | (go_simp; done) | (go_simp; rfl)); (case hi => kernel_rfl); (case ho => rfl); (case h1 => kernel_rfl); intro w6 hst hsb; have HE6 := Lib.hid (show EvAt w6 ge (bareEv k) from hst); have HC6 := Lib.hid (below_tr HB5.out (hsb.below HGe.out HB5.out.size)); clear hst hsb) | ((go_at_call 36); (with_reducible refine (kw_calls _ _).mono ?_); rintro r w7 ⟨rfl, hb⟩; have HC7 := Lib.hid (below_step HC6.out hb); have HE7 := Lib.hid (HE6.out.below hb); have HR7 := Lib.hid (HR4.out.below (below_step HC6.out hb)); have HD7 := Lib.hid (HD4.out.below (below_step HC6.out hb)); have HB7 := Lib.hid (below_step HB4.out (below_step HC6.out hb)); clear hb) | ((with_reducible refine gate_dst (N := 51) rfl ?_); refine load28 (N := 51) (cells := #[.int .i64 25, .int .i64 0, .int .i64 0, .int .i64 0, .int .i64 0, .int .i64 0, .int .i64 0, .int .i64 0, .int .i64 0, .string (⟨#[]⟩ : ByteArray), .string s, .string (⟨#[]⟩ : ByteArray), .string (⟨#[]⟩ : ByteArray), .bool false]) ?hd rfl ?hg HD7.out rfl ?hx ?_; (case hd => rfl); (case hg => rfl); (case hx => first | (go_simp; done) | (go_simp; rfl))) | ((with_reducible refine gate_store (t := 28) (p := 2) rfl ?_); refine store_event (ty := 28) (p := 2) rfl ?hg ?hd (cells := #[.int .i64 25, .int .i64 0, .int .i64 0, .int .i64 0, .int .i64 0, .int .i64 0, .int .i64 0, .int .i64 0, .int .i64 0, .string (⟨#[]⟩ : ByteArray), .string s, .string (⟨#[]⟩ : ByteArray), .string (⟨#[]⟩ : ByteArray), .bool false]) ?hx ?hy HR7.out ?hi ?ho ?h1 ?_; (case hd => rfl); (case hg => rfl); (case hx => first | (go_simp; done) | (go_simp; rfl)); (case hy => first | (go_simp; done) | (go_simp; rfl)); (case hi => kernel_rfl); (case ho => rfl); (case h1 => kernel_rfl); intro w8 hst hsb; have HF := Lib.hid hst; have HFB := Lib.hid hsb; clear hst hsb))
  refine bodyPost_ret (results_cell_row rfl _ _ gr 28 #[.int .i64 25, .int .i64 0, .int .i64 0, .int .i64 0, .int .i64 0, .int .i64 0, .int .i64 0, .int .i64 0, .int .i64 0, .string (⟨#[]⟩ : ByteArray), .string s, .string (⟨#[]⟩ : ByteArray), .string (⟨#[]⟩ : ByteArray), .bool false] (0, 0) _ rfl HF.out Tryz.underlying28 rfl (by kernel_rfl)) rfl ?_
  exact ⟨rfl, below_tr HB7.out (HFB.out.below HGr.out HB7.out.size)⟩
end Go.Proofs.YtnblabfkkcohgaaGreatDoor.Wire
end
section
/- Decode's way through the fields, walked. -/
namespace Go.Proofs.YtnblabfkkcohgaaGreatDoor.Wire
set_option linter.unusedVariables false
set_option linter.unusedSimpArgs false
open Go Go.Shelf Go.RowKit Go.Proofs.YtnblabfkkcohgaaGreatDoor.Given Go.Proofs.YtnblabfkkcohgaaGreatDoorW.PrintWords Go.Proofs.YtnblabfkkcohgaaGreatDoorW.PrintLast

theorem cut_calls (c : UInt8) (l : List UInt8) (hs : l.length ≤ 4398046511104) (w : World) : Calls Tryz.prog 44 #[.string (ofL l), .string ⟨#[c]⟩] w fun e w' => e = .returned (.tuple #[.string (ofL (cutN c l).1), .string (ofL (cutN c l).2.1), .bool (cutN c l).2.2]) ∧ Below w.heap.size w w' := by
  have h := cut_quiet c (ofL l) (by rw [ofL_size]; exact hs) w
  rw [ofL_data] at h
  refine h.mono ?_
  rintro e w' ⟨rfl, n, rfl⟩
  exact ⟨rfl, pw_below_drewN (Below.refl _ _) n⟩
def finD (r : Option Evt) (s : ByteArray) : Evt := match r with
  | some e => e
  | none => textEv 25 s
theorem gets_last {fds : List Fd} {fd : Fd} {i : Nat} {t : Evt} {l : List UInt8} (h : fds.drop i = fd :: fds.drop (i + 1)) (hl : i + 1 = fds.length) : getsN (fds.drop i) l t = if (fd.get t (ofL l)).2 = true then some (fd.get t (ofL l)).1 else none := by
  rw [h, List.drop_eq_nil_of_le (by omega)]
  rfl
theorem gets_more {fds : List Fd} {fd : Fd} {i : Nat} {t : Evt} {l : List UInt8} (h : fds.drop i = fd :: fds.drop (i + 1)) (hl : i + 1 < fds.length) : getsN (fds.drop i) l t = if (cutN 32 l).2.2 = true then (if (fd.get t (ofL (cutN 32 l).1)).2 = true then getsN (fds.drop (i + 1)) (cutN 32 l).2.1 (fd.get t (ofL (cutN 32 l).1)).1 else none) else none := by
  rw [h, List.drop_eq_getElem_cons hl]
  rfl
theorem cut_len (c : UInt8) (l : List UInt8) : (cutN c l).1.length ≤ l.length ∧ (cutN c l).2.1.length ≤ l.length := by
  cases h : (cutN c l).2.2 with
  | true =>
    have e := congrArg List.length (cutN_found h)
    rw [List.length_append, List.length_cons] at e
    omega
  | false =>
    have e := cutN_not h
    rw [e.1, e.2]
    simp
theorem bg_ev {w w' : World} {g k : Nat} {e : Evt} (h : Bg w w' g) (hk : EvAt w k e) (hne : k ≠ g) : EvAt w' k e := h.blk hk hne
set_option maxHeartbeats 6400000 in
set_option maxRecDepth 100000 in
theorem dec_main {w : World} (hL : LaidW w) (s : ByteArray) (hs : s.size ≤ 1099511627776) (h0 : 0 < s.size) (hh : ((s[0].toNat : Int) != 37) = false) (k : Int) (hk : kindN s.data.toList = k) (hz : (k == 0) = false) (hw : (s.toList == (kwN k).toList) = false) (hlen : (kwN k).size + 1 ≤ s.size)
    (fds : List Fd) (hfld : ∀ w, Calls Tryz.prog 43 #[.int .i64 k] w fun e w' => ∃ A, e = .returned (.slice A fds.length fds.length) ∧ RowAt w' w.heap.size fds (.slice A fds.length fds.length) ∧ Below w.heap.size w w') (hfl : fds.length ≤ 7) (R : Evt) (hR : R = finD (getsN fds (s.data.toList.drop ((kwN k).size + 1)) (bareEv k)) s) :
    Calls Tryz.prog 24 #[.string s] w fun r w' => r = .returned (.agg (evCells (R))) ∧ Below w.heap.size w w' := by
  have hne := notempty h0
  have h1 : (1 : Int) ≤ (s.size : Int) := by omega
  have HK := Lib.hid hk
  clear hk
  have HFLD := Lib.hid hfld
  have HFL := Lib.hid hfl
  have HRR := Lib.hid hR
  have HLEN := Lib.hid hlen
  have c3 : (0 : Int) ≤ (kwN k).size + 1 := by omega
  have c4 : ((kwN k).size : Int) + 1 ≤ s.size := by omega
  have c5 : wrap64 (((kwN k).size : Int) + 1) = (kwN k).size + 1 := wrap_in (by omega) (by omega)
  clear hfld hfl hR hlen
  have HL := Lib.hid hL
  have HS := Lib.hid hs
  clear hL hs
  go_enter Tryz.func24, Tryz.ntmps24
  go_wp2_with (first | ((with_reducible refine gate_dst (N := 2) rfl ?_); refine box_event ?hg (N := 2) ?hd (cs := #[.int .i64 0, .int .i64 0, .int .i64 0, .int .i64 0, .int .i64 0, .int .i64 0, .int .i64 0, .int .i64 0, .int .i64 0, .string (⟨#[]⟩ : ByteArray), .string (⟨#[]⟩ : ByteArray), .string (⟨#[]⟩ : ByteArray), .string (⟨#[]⟩ : ByteArray), .bool false]) (t := 28) ?hr ?_; (case hd => rfl); (case hg => rfl); (case hr => first | (go_simp; done) | (go_simp; rfl)); intro gr hgb w1 hbox hbb; have HR1 := Lib.hid (show EvAt w1 gr zeroEv from hbox); have HB1 := Lib.hid hbb; have HGr := Lib.hid (show w.heap.size ≤ gr by rw [hgb]; exact Nat.le_refl _); clear hgb hbox hbb) | ((with_reducible refine gate_dst (N := 3) rfl ?_); refine box_event ?hg (N := 3) ?hd (cs := #[.int .i64 0, .int .i64 0, .int .i64 0, .int .i64 0, .int .i64 0, .int .i64 0, .int .i64 0, .int .i64 0, .int .i64 0, .string (⟨#[]⟩ : ByteArray), .string (⟨#[]⟩ : ByteArray), .string (⟨#[]⟩ : ByteArray), .string (⟨#[]⟩ : ByteArray), .bool false]) (t := 28) ?hr ?_; (case hd => rfl); (case hg => rfl); (case hr => first | (go_simp; done) | (go_simp; rfl)); intro gd hgb w2 hbox hbb; have HX2 := Lib.hid hbox; have HB2 := Lib.hid hbb; have HGd := Lib.hid (show w1.heap.size ≤ gd by rw [hgb]; exact Nat.le_refl _); clear hgb hbox hbb) | ((with_reducible refine gate_store (t := 28) (p := 3) rfl ?_); refine store_event (ty := 28) (p := 3) rfl ?hg ?hd (cells := #[.int .i64 25, .int .i64 0, .int .i64 0, .int .i64 0, .int .i64 0, .int .i64 0, .int .i64 0, .int .i64 0, .int .i64 0, .string (⟨#[]⟩ : ByteArray), .string s, .string (⟨#[]⟩ : ByteArray), .string (⟨#[]⟩ : ByteArray), .bool false]) ?hx ?hy HX2.out ?hi ?ho ?h1 ?_; (case hd => rfl); (case hg => rfl); (case hx => first | (go_simp; done) | (go_simp; rfl)); (case hy => first | (go_simp; done) | (go_simp; rfl)); (case hi => kernel_rfl); (case ho => rfl); (case h1 => kernel_rfl); intro w3 hst hsb; have HD3 := Lib.hid (show EvAt w3 gd (textEv 25 s) from hst); have HC3 := Lib.hid (below_tr HB2.out (hsb.below HGd.out HB2.out.size)); have HR3 := Lib.hid (HR1.out.below (below_tr HB2.out (hsb.below HGd.out HB2.out.size))); have HW3 := Lib.hid (below_step HB1.out (below_tr HB2.out (hsb.below HGd.out HB2.out.size))); have HGR := Lib.hid (blk_lt HR1.out); clear hst hsb) | ((go_at_call 42); (with_reducible refine (kof_calls _ (by have := HS.out; omega) _).mono ?_); rw [HK.out]; rintro r w4 ⟨rfl, hb⟩; have HB4 := Lib.hid (below_step HW3.out hb); have HD4 := Lib.hid (HD3.out.below hb); have HR4 := Lib.hid (HR3.out.below hb); clear hb) | ((with_reducible refine gate_dst (N := 7) rfl ?_); refine box_event ?hg (N := 7) ?hd (cs := #[.int .i64 0, .int .i64 0, .int .i64 0, .int .i64 0, .int .i64 0, .int .i64 0, .int .i64 0, .int .i64 0, .int .i64 0, .string (⟨#[]⟩ : ByteArray), .string (⟨#[]⟩ : ByteArray), .string (⟨#[]⟩ : ByteArray), .string (⟨#[]⟩ : ByteArray), .bool false]) (t := 28) ?hr ?_; (case hd => rfl); (case hg => rfl); (case hr => first | (go_simp; done) | (go_simp; rfl)); intro ge hgb w5 hbox hbb; have HX5 := Lib.hid hbox; have HB5 := Lib.hid hbb; have HGe := Lib.hid (show w4.heap.size ≤ ge by rw [hgb]; exact Nat.le_refl _); clear hgb hbox hbb) | ((with_reducible refine gate_store (t := 28) (p := 7) rfl ?_); refine store_event (ty := 28) (p := 7) rfl ?hg ?hd (cells := #[.int .i64 k, .int .i64 0, .int .i64 0, .int .i64 0, .int .i64 0, .int .i64 0, .int .i64 0, .int .i64 0, .int .i64 0, .string (⟨#[]⟩ : ByteArray), .string (⟨#[]⟩ : ByteArray), .string (⟨#[]⟩ : ByteArray), .string (⟨#[]⟩ : ByteArray), .bool false]) ?hx ?hy HX5.out ?hi ?ho ?h1 ?_; (case hd => rfl); (case hg => rfl); (case hx => first | (go_simp; done) | (go_simp; rfl)); (case hy => first | (go_simp; done) | (go_simp; rfl)); (case hi => kernel_rfl); (case ho => rfl); (case h1 => kernel_rfl); intro w6 hst hsb; have HE6 := Lib.hid (show EvAt w6 ge (bareEv k) from hst); have HC6 := Lib.hid (below_tr HB5.out (hsb.below HGe.out HB5.out.size)); clear hst hsb) | ((go_at_call 36); (with_reducible refine (kw_calls _ _).mono ?_); rintro r w7 ⟨rfl, hb⟩; have HC7 := Lib.hid (below_step HC6.out hb); have HE7 := Lib.hid (HE6.out.below hb); have HR7 := Lib.hid (HR4.out.below (below_step HC6.out hb)); have HD7 := Lib.hid (HD4.out.below (below_step HC6.out hb)); have HB7 := Lib.hid (below_step HB4.out (below_step HC6.out hb)); clear hb) | ((go_at_call 43); (with_reducible refine (HFLD.out _).mono ?_); rintro r w8 ⟨A, rfl, hr, hb⟩; have HR := Lib.hid hr; have HE8 := Lib.hid (HE7.out.below hb); have HR8 := Lib.hid (HR7.out.below hb); have HD8 := Lib.hid (HD7.out.below hb); have HB8 := Lib.hid (below_step HB7.out hb); have HGE := Lib.hid (blk_lt HE7.out); clear hr hb))
  have HNd := Lib.hid (show gd ≠ ge by have := blk_lt HD4.out; have := HGe.out; omega)
  have HNr := Lib.hid (show gr ≠ ge by have := blk_lt HR4.out; have := HGe.out; omega)
  have HGW := Lib.hid (show w.heap.size ≤ ge by have := HB4.out.size; have := HGe.out; omega)
  (try simp only [Act.put, List.setIfInBounds_toArray, List.set_cons_zero, List.set_cons_succ])
  go_loopg [9, 61] fds.length (fun kq v9 v61 w' => ∃ (x : Int) (l : List UInt8) (t : Evt), v9 = .string (ofL l) ∧ v61 = .int .i64 x ∧ Aside0 (0 ≤ x ∧ x.toNat + kq = fds.length) ∧ Aside0 (R = finD (getsN (fds.drop x.toNat) l t) s) ∧ Aside0 (l.length ≤ s.size) ∧ Aside0 (Bg w8 w' ge) ∧ Aside0 (EvAt w' ge t))
  case atStart =>
    refine ⟨0, s.data.toList.drop ((kwN k).size + 1), bareEv k, ?_, rfl, ⟨by omega, by simp⟩, ⟨HRR.out⟩, ⟨by rw [List.length_drop, dlen]; omega⟩, ⟨Bg.of (Below.refl _ _) _⟩, ⟨HE8.out⟩⟩
    rw [← ext_drop, ofL_list]
  case round =>
    obtain ⟨x, l, t, rfl, rfl, HI, HP, HLL, HBW, HEB⟩ := hrel
    have HWW := Lib.hid (below_tr HB8.out (HBW.out.below HGW.out HB8.out.size))
    by_cases c : x < (fds.length : Int)
    · obtain ⟨ad, fd, kp, cp, kg, cg, kk, ck, kb, cb, rfl, hd, f0, f1, f2, f3, hcode, hep, heg, hek⟩ := row_at HR.out rfl (Kp.bg HBW.out HGE.out) x HI.out.1 c
      have HK := Lib.hid hcode
      have heg2 : ∀ args w, (callFunc kg args).run Tryz.prog w = .ok (.enter kg args) w := heg
      clear hep heg hek
      have HD := Lib.hid hd
      have hx0 := eq_true HI.out.1
      have hx1 := eq_true c
      have hx2 : decide (x < (fds.length : Int)) = true := decide_eq_true c
      have HXL := Lib.hid (show x.toNat < fds.length by have := HI.out.1; omega)
      have hw1 : wrap64 ((fds.length : Int) - 1) = (fds.length : Int) - 1 := wrap_in (by omega) (by have := HFL.out; omega)
      clear hcode hd c
      by_cases hl : x.toNat + 1 < fds.length
      · have hx3 : decide (x < (fds.length : Int) - 1) = true := decide_eq_true (by have := HI.out.1; omega)
        have HG := Lib.hid (gets_more (t := t) (l := l) HD.out hl)
        have HHL := Lib.hid hl
        have HCL := Lib.hid (cut_len 32 l)
        clear hl
        by_cases hc : (cutN 32 l).2.2 = true
        · by_cases hok : (fd.get t (ofL (cutN 32 l).1)).2 = true
          · go_wp2_with (first | ((with_reducible refine gate_dst (N := 12) rfl ?_); refine box_event ?hg (N := 12) ?hd (cs := #[.nilFunc, .nilFunc, .nilFunc, .nilFunc]) (t := 71) ?hr ?_; (case hd => rfl); (case hg => rfl); (case hr => first | (go_simp; done) | (go_simp; rfl)); intro gf hgb w9 hbox hbb; have HXf := Lib.hid hbox; have HGf := Lib.hid (Nat.le_of_eq hgb.symm); have HCf := Lib.hid hbb; clear hgb hbox hbb) | ((with_reducible refine gate_store (t := 71) (p := 12) rfl ?_); refine store_event (ty := 71) (p := 12) rfl ?hg ?hd (cells := #[.func (.func kp) #[] cp, .func (.func kg) #[] cg, .func (.func kk) #[] ck, .func (.func kb) #[] cb]) ?hx ?hy HXf.out ?hi ?ho ?h1 ?_; (case hd => rfl); (case hg => rfl); (case hx => first | (go_simp; done) | (go_simp; rfl)); (case hy => first | (go_simp; done) | (go_simp; rfl)); (case hi => kernel_rfl); (case ho => rfl); (case h1 => kernel_rfl); intro w10 hst hsb; have HXg := Lib.hid hst; have HCg := Lib.hid (below_tr HCf.out (hsb.below HGf.out HCf.out.size)); have cf1 : w10.cell? ⟨gf, 1, none⟩ = some (.func (.func kg) #[] cg) := (blk_cell hst 1).trans rfl; clear hst hsb) | ((go_at_call 44); (with_reducible refine (cut_calls 32 l (by have := HLL.out; have := HS.out; omega) _).mono ?_); rintro r w11 ⟨rfl, hb⟩; have HCh := Lib.hid (below_step HCg.out hb); have cf2 : w11.cell? ⟨gf, 1, none⟩ = some (.func (.func kg) #[] cg) := (blk_cell (blk_below HXg.out hb) 1).trans rfl; clear hb) | ((with_reducible refine (HK.out.get _ (Kp.trans (Kp.bg HBW.out HGE.out) (Kp.of HCh.out)) ((HL.out.below HWW.out).below HCh.out) ge t _ (HEB.out.below HCh.out) (Or.inl HGE.out) (by have := HCL.out; have := HLL.out; have := HS.out; rw [ofL_size]; omega)).mono ?_); rintro r w12 ⟨rfl, he, hb⟩; have HEj := Lib.hid he; have HCj := Lib.hid ((Bg.of HCh.out ge).trans hb); clear he hb))
            go_roundg (fds.length - x.toNat - 1)
            case measure => have := HI.out; have := HXL.out; omega
            case rel =>
              have hx := HI.out
              have hf := HFL.out
              have hxl := HXL.out
              have hxx : (x + 1).toNat = x.toNat + 1 := by omega
              refine ⟨x + 1, (cutN 32 l).2.1, _, rfl, by first | rfl | (rw [wrap_in (by omega) (by omega)]), ⟨by omega⟩, ⟨?_⟩, ⟨by have := HCL.out; have := HLL.out; omega⟩, ⟨HBW.out.trans HCj.out⟩, ⟨HEj.out⟩⟩
              rw [HP.out, HG.out, if_pos hc, if_pos hok, hxx]
          · have hok' : (fd.get t (ofL (cutN 32 l).1)).2 = false := by simpa using hok
            go_wp2_with (first | ((with_reducible refine gate_dst (N := 12) rfl ?_); refine box_event ?hg (N := 12) ?hd (cs := #[.nilFunc, .nilFunc, .nilFunc, .nilFunc]) (t := 71) ?hr ?_; (case hd => rfl); (case hg => rfl); (case hr => first | (go_simp; done) | (go_simp; rfl)); intro gf hgb w9 hbox hbb; have HXf := Lib.hid hbox; have HGf := Lib.hid (Nat.le_of_eq hgb.symm); have HCf := Lib.hid hbb; clear hgb hbox hbb) | ((with_reducible refine gate_store (t := 71) (p := 12) rfl ?_); refine store_event (ty := 71) (p := 12) rfl ?hg ?hd (cells := #[.func (.func kp) #[] cp, .func (.func kg) #[] cg, .func (.func kk) #[] ck, .func (.func kb) #[] cb]) ?hx ?hy HXf.out ?hi ?ho ?h1 ?_; (case hd => rfl); (case hg => rfl); (case hx => first | (go_simp; done) | (go_simp; rfl)); (case hy => first | (go_simp; done) | (go_simp; rfl)); (case hi => kernel_rfl); (case ho => rfl); (case h1 => kernel_rfl); intro w10 hst hsb; have HXg := Lib.hid hst; have HCg := Lib.hid (below_tr HCf.out (hsb.below HGf.out HCf.out.size)); have cf1 : w10.cell? ⟨gf, 1, none⟩ = some (.func (.func kg) #[] cg) := (blk_cell hst 1).trans rfl; clear hst hsb) | ((go_at_call 44); (with_reducible refine (cut_calls 32 l (by have := HLL.out; have := HS.out; omega) _).mono ?_); rintro r w11 ⟨rfl, hb⟩; have HCh := Lib.hid (below_step HCg.out hb); have cf2 : w11.cell? ⟨gf, 1, none⟩ = some (.func (.func kg) #[] cg) := (blk_cell (blk_below HXg.out hb) 1).trans rfl; clear hb) | ((with_reducible refine (HK.out.get _ (Kp.trans (Kp.bg HBW.out HGE.out) (Kp.of HCh.out)) ((HL.out.below HWW.out).below HCh.out) ge t _ (HEB.out.below HCh.out) (Or.inl HGE.out) (by have := HCL.out; have := HLL.out; have := HS.out; rw [ofL_size]; omega)).mono ?_); rintro r w12 ⟨rfl, he, hb⟩; have HEj := Lib.hid he; have HCj := Lib.hid ((Bg.of HCh.out ge).trans hb); clear he hb) | ((with_reducible refine gate_dst (N := 88) rfl ?_); refine load28 (N := 88) (cells := #[.int .i64 25, .int .i64 0, .int .i64 0, .int .i64 0, .int .i64 0, .int .i64 0, .int .i64 0, .int .i64 0, .int .i64 0, .string (⟨#[]⟩ : ByteArray), .string s, .string (⟨#[]⟩ : ByteArray), .string (⟨#[]⟩ : ByteArray), .bool false]) ?hd rfl ?hg (bg_ev HCj.out (bg_ev HBW.out HD8.out HNd.out) HNd.out) rfl ?hx ?_; (case hd => rfl); (case hg => rfl); (case hx => first | (go_simp; done) | (go_simp; rfl))) | ((with_reducible refine gate_store (t := 28) (p := 2) rfl ?_); refine store_event (ty := 28) (p := 2) rfl ?hg ?hd (cells := #[.int .i64 25, .int .i64 0, .int .i64 0, .int .i64 0, .int .i64 0, .int .i64 0, .int .i64 0, .int .i64 0, .int .i64 0, .string (⟨#[]⟩ : ByteArray), .string s, .string (⟨#[]⟩ : ByteArray), .string (⟨#[]⟩ : ByteArray), .bool false]) ?hx ?hy (bg_ev HCj.out (bg_ev HBW.out HR8.out HNr.out) HNr.out) ?hi ?ho ?h1 ?_; (case hd => rfl); (case hg => rfl); (case hx => first | (go_simp; done) | (go_simp; rfl)); (case hy => first | (go_simp; done) | (go_simp; rfl)); (case hi => kernel_rfl); (case ho => rfl); (case h1 => kernel_rfl); intro w13 hst hsb; have HF := Lib.hid hst; have HFB := Lib.hid hsb; clear hst hsb))
            have hZ := below_tr HWW.out (HCj.out.below HGW.out HWW.out.size)
            refine bodyPost_ret (results_cell_row rfl _ _ gr 28 #[.int .i64 25, .int .i64 0, .int .i64 0, .int .i64 0, .int .i64 0, .int .i64 0, .int .i64 0, .int .i64 0, .int .i64 0, .string (⟨#[]⟩ : ByteArray), .string s, .string (⟨#[]⟩ : ByteArray), .string (⟨#[]⟩ : ByteArray), .bool false] (0, 0) _ rfl HF.out Tryz.underlying28 rfl (by kernel_rfl)) rfl ?_
            exact ⟨by rw [HP.out, HG.out, if_pos hc, if_neg (by rw [hok']; simp)]; rfl, below_tr hZ (HFB.out.below HGr.out hZ.size)⟩
        · have hc' : (cutN 32 l).2.2 = false := by simpa using hc
          go_wp2_with (first | ((with_reducible refine gate_dst (N := 12) rfl ?_); refine box_event ?hg (N := 12) ?hd (cs := #[.nilFunc, .nilFunc, .nilFunc, .nilFunc]) (t := 71) ?hr ?_; (case hd => rfl); (case hg => rfl); (case hr => first | (go_simp; done) | (go_simp; rfl)); intro gf hgb w9 hbox hbb; have HXf := Lib.hid hbox; have HGf := Lib.hid (Nat.le_of_eq hgb.symm); have HCf := Lib.hid hbb; clear hgb hbox hbb) | ((with_reducible refine gate_store (t := 71) (p := 12) rfl ?_); refine store_event (ty := 71) (p := 12) rfl ?hg ?hd (cells := #[.func (.func kp) #[] cp, .func (.func kg) #[] cg, .func (.func kk) #[] ck, .func (.func kb) #[] cb]) ?hx ?hy HXf.out ?hi ?ho ?h1 ?_; (case hd => rfl); (case hg => rfl); (case hx => first | (go_simp; done) | (go_simp; rfl)); (case hy => first | (go_simp; done) | (go_simp; rfl)); (case hi => kernel_rfl); (case ho => rfl); (case h1 => kernel_rfl); intro w10 hst hsb; have HXg := Lib.hid hst; have HCg := Lib.hid (below_tr HCf.out (hsb.below HGf.out HCf.out.size)); have cf1 : w10.cell? ⟨gf, 1, none⟩ = some (.func (.func kg) #[] cg) := (blk_cell hst 1).trans rfl; clear hst hsb) | ((go_at_call 44); (with_reducible refine (cut_calls 32 l (by have := HLL.out; have := HS.out; omega) _).mono ?_); rintro r w11 ⟨rfl, hb⟩; have HCh := Lib.hid (below_step HCg.out hb); have cf2 : w11.cell? ⟨gf, 1, none⟩ = some (.func (.func kg) #[] cg) := (blk_cell (blk_below HXg.out hb) 1).trans rfl; clear hb) | ((with_reducible refine gate_dst (N := 80) rfl ?_); refine load28 (N := 80) (cells := #[.int .i64 25, .int .i64 0, .int .i64 0, .int .i64 0, .int .i64 0, .int .i64 0, .int .i64 0, .int .i64 0, .int .i64 0, .string (⟨#[]⟩ : ByteArray), .string s, .string (⟨#[]⟩ : ByteArray), .string (⟨#[]⟩ : ByteArray), .bool false]) ?hd rfl ?hg ((bg_ev HBW.out HD8.out HNd.out).below HCh.out) rfl ?hx ?_; (case hd => rfl); (case hg => rfl); (case hx => first | (go_simp; done) | (go_simp; rfl))) | ((with_reducible refine gate_store (t := 28) (p := 2) rfl ?_); refine store_event (ty := 28) (p := 2) rfl ?hg ?hd (cells := #[.int .i64 25, .int .i64 0, .int .i64 0, .int .i64 0, .int .i64 0, .int .i64 0, .int .i64 0, .int .i64 0, .int .i64 0, .string (⟨#[]⟩ : ByteArray), .string s, .string (⟨#[]⟩ : ByteArray), .string (⟨#[]⟩ : ByteArray), .bool false]) ?hx ?hy ((bg_ev HBW.out HR8.out HNr.out).below HCh.out) ?hi ?ho ?h1 ?_; (case hd => rfl); (case hg => rfl); (case hx => first | (go_simp; done) | (go_simp; rfl)); (case hy => first | (go_simp; done) | (go_simp; rfl)); (case hi => kernel_rfl); (case ho => rfl); (case h1 => kernel_rfl); intro w13 hst hsb; have HF := Lib.hid hst; have HFB := Lib.hid hsb; clear hst hsb))
          have hZ := below_step HWW.out HCh.out
          refine bodyPost_ret (results_cell_row rfl _ _ gr 28 #[.int .i64 25, .int .i64 0, .int .i64 0, .int .i64 0, .int .i64 0, .int .i64 0, .int .i64 0, .int .i64 0, .int .i64 0, .string (⟨#[]⟩ : ByteArray), .string s, .string (⟨#[]⟩ : ByteArray), .string (⟨#[]⟩ : ByteArray), .bool false] (0, 0) _ rfl HF.out Tryz.underlying28 rfl (by kernel_rfl)) rfl ?_
          exact ⟨by rw [HP.out, HG.out, if_neg (by rw [hc']; simp)]; rfl, below_tr hZ (HFB.out.below HGr.out hZ.size)⟩
      · have HHL := Lib.hid (show x.toNat + 1 = fds.length by have := HXL.out; omega)
        have hx3 : decide (x < (fds.length : Int) - 1) = false := decide_eq_false (by have := HI.out.1; omega)
        have HG := Lib.hid (gets_last (t := t) (l := l) HD.out HHL.out)
        clear hl
        by_cases hok : (fd.get t (ofL l)).2 = true
        · go_wp2_with (first | ((with_reducible refine gate_dst (N := 12) rfl ?_); refine box_event ?hg (N := 12) ?hd (cs := #[.nilFunc, .nilFunc, .nilFunc, .nilFunc]) (t := 71) ?hr ?_; (case hd => rfl); (case hg => rfl); (case hr => first | (go_simp; done) | (go_simp; rfl)); intro gf hgb w9 hbox hbb; have HXf := Lib.hid hbox; have HGf := Lib.hid (Nat.le_of_eq hgb.symm); have HCf := Lib.hid hbb; clear hgb hbox hbb) | ((with_reducible refine gate_store (t := 71) (p := 12) rfl ?_); refine store_event (ty := 71) (p := 12) rfl ?hg ?hd (cells := #[.func (.func kp) #[] cp, .func (.func kg) #[] cg, .func (.func kk) #[] ck, .func (.func kb) #[] cb]) ?hx ?hy HXf.out ?hi ?ho ?h1 ?_; (case hd => rfl); (case hg => rfl); (case hx => first | (go_simp; done) | (go_simp; rfl)); (case hy => first | (go_simp; done) | (go_simp; rfl)); (case hi => kernel_rfl); (case ho => rfl); (case h1 => kernel_rfl); intro w10 hst hsb; have HXg := Lib.hid hst; have HCg := Lib.hid (below_tr HCf.out (hsb.below HGf.out HCf.out.size)); have cf1 : w10.cell? ⟨gf, 1, none⟩ = some (.func (.func kg) #[] cg) := (blk_cell hst 1).trans rfl; clear hst hsb) | ((with_reducible refine (HK.out.get _ (Kp.trans (Kp.bg HBW.out HGE.out) (Kp.of HCg.out)) ((HL.out.below HWW.out).below HCg.out) ge t _ (HEB.out.below HCg.out) (Or.inl HGE.out) (by have := HLL.out; have := HS.out; rw [ofL_size]; omega)).mono ?_); rintro r w12 ⟨rfl, he, hb⟩; have HEj := Lib.hid he; have HCj := Lib.hid ((Bg.of HCg.out ge).trans hb); clear he hb))
          go_roundg (fds.length - x.toNat - 1)
          case measure => have := HI.out; have := HXL.out; omega
          case rel =>
            have hx := HI.out
            have hf := HFL.out
            have hxl := HXL.out
            have hxx : (x + 1).toNat = x.toNat + 1 := by omega
            refine ⟨x + 1, l, _, rfl, by first | rfl | (rw [wrap_in (by omega) (by omega)]), ⟨by omega⟩, ⟨?_⟩, ⟨HLL.out⟩, ⟨HBW.out.trans HCj.out⟩, ⟨HEj.out⟩⟩
            rw [HP.out, HG.out, if_pos hok, hxx, List.drop_eq_nil_of_le (by have := HHL.out; omega)]
            rfl
        · have hok' : (fd.get t (ofL l)).2 = false := by simpa using hok
          go_wp2_with (first | ((with_reducible refine gate_dst (N := 12) rfl ?_); refine box_event ?hg (N := 12) ?hd (cs := #[.nilFunc, .nilFunc, .nilFunc, .nilFunc]) (t := 71) ?hr ?_; (case hd => rfl); (case hg => rfl); (case hr => first | (go_simp; done) | (go_simp; rfl)); intro gf hgb w9 hbox hbb; have HXf := Lib.hid hbox; have HGf := Lib.hid (Nat.le_of_eq hgb.symm); have HCf := Lib.hid hbb; clear hgb hbox hbb) | ((with_reducible refine gate_store (t := 71) (p := 12) rfl ?_); refine store_event (ty := 71) (p := 12) rfl ?hg ?hd (cells := #[.func (.func kp) #[] cp, .func (.func kg) #[] cg, .func (.func kk) #[] ck, .func (.func kb) #[] cb]) ?hx ?hy HXf.out ?hi ?ho ?h1 ?_; (case hd => rfl); (case hg => rfl); (case hx => first | (go_simp; done) | (go_simp; rfl)); (case hy => first | (go_simp; done) | (go_simp; rfl)); (case hi => kernel_rfl); (case ho => rfl); (case h1 => kernel_rfl); intro w10 hst hsb; have HXg := Lib.hid hst; have HCg := Lib.hid (below_tr HCf.out (hsb.below HGf.out HCf.out.size)); have cf1 : w10.cell? ⟨gf, 1, none⟩ = some (.func (.func kg) #[] cg) := (blk_cell hst 1).trans rfl; clear hst hsb) | ((with_reducible refine (HK.out.get _ (Kp.trans (Kp.bg HBW.out HGE.out) (Kp.of HCg.out)) ((HL.out.below HWW.out).below HCg.out) ge t _ (HEB.out.below HCg.out) (Or.inl HGE.out) (by have := HLL.out; have := HS.out; rw [ofL_size]; omega)).mono ?_); rintro r w12 ⟨rfl, he, hb⟩; have HEj := Lib.hid he; have HCj := Lib.hid ((Bg.of HCg.out ge).trans hb); clear he hb) | ((with_reducible refine gate_dst (N := 88) rfl ?_); refine load28 (N := 88) (cells := #[.int .i64 25, .int .i64 0, .int .i64 0, .int .i64 0, .int .i64 0, .int .i64 0, .int .i64 0, .int .i64 0, .int .i64 0, .string (⟨#[]⟩ : ByteArray), .string s, .string (⟨#[]⟩ : ByteArray), .string (⟨#[]⟩ : ByteArray), .bool false]) ?hd rfl ?hg (bg_ev HCj.out (bg_ev HBW.out HD8.out HNd.out) HNd.out) rfl ?hx ?_; (case hd => rfl); (case hg => rfl); (case hx => first | (go_simp; done) | (go_simp; rfl))) | ((with_reducible refine gate_store (t := 28) (p := 2) rfl ?_); refine store_event (ty := 28) (p := 2) rfl ?hg ?hd (cells := #[.int .i64 25, .int .i64 0, .int .i64 0, .int .i64 0, .int .i64 0, .int .i64 0, .int .i64 0, .int .i64 0, .int .i64 0, .string (⟨#[]⟩ : ByteArray), .string s, .string (⟨#[]⟩ : ByteArray), .string (⟨#[]⟩ : ByteArray), .bool false]) ?hx ?hy (bg_ev HCj.out (bg_ev HBW.out HR8.out HNr.out) HNr.out) ?hi ?ho ?h1 ?_; (case hd => rfl); (case hg => rfl); (case hx => first | (go_simp; done) | (go_simp; rfl)); (case hy => first | (go_simp; done) | (go_simp; rfl)); (case hi => kernel_rfl); (case ho => rfl); (case h1 => kernel_rfl); intro w13 hst hsb; have HF := Lib.hid hst; have HFB := Lib.hid hsb; clear hst hsb))
          have hZ := below_tr HWW.out (HCj.out.below HGW.out HWW.out.size)
          refine bodyPost_ret (results_cell_row rfl _ _ gr 28 #[.int .i64 25, .int .i64 0, .int .i64 0, .int .i64 0, .int .i64 0, .int .i64 0, .int .i64 0, .int .i64 0, .int .i64 0, .string (⟨#[]⟩ : ByteArray), .string s, .string (⟨#[]⟩ : ByteArray), .string (⟨#[]⟩ : ByteArray), .bool false] (0, 0) _ rfl HF.out Tryz.underlying28 rfl (by kernel_rfl)) rfl ?_
          exact ⟨by rw [HP.out, HG.out, if_neg (by rw [hok']; simp)]; rfl, below_tr hZ (HFB.out.below HGr.out hZ.size)⟩
    · have hx2 : decide (x < (fds.length : Int)) = false := decide_eq_false c
      have HE0 := Lib.hid (show R = t by
        have h1 := HP.out
        have h2 := HI.out
        rw [List.drop_eq_nil_of_le (by omega)] at h1
        exact h1)
      go_wp2_with (first | ((with_reducible refine gate_dst (N := 90) rfl ?_); refine load28 (N := 90) (cells := #[.int .i64 t.kind, .int .i64 t.session, .int .i64 t.window, .int .i64 t.pane, .int .i64 t.index, .int .i64 t.offset, .int .i64 t.tick, .int .i64 t.number, .int .i64 t.flag, .string t.name, .string t.text, .string t.layout, .string t.visible, .bool t.zoom]) ?hd rfl ?hg HEB.out rfl ?hx ?_; (case hd => rfl); (case hg => rfl); (case hx => first | (go_simp; done) | (go_simp; rfl))) | ((with_reducible refine gate_store (t := 28) (p := 2) rfl ?_); refine store_event (ty := 28) (p := 2) rfl ?hg ?hd (cells := #[.int .i64 t.kind, .int .i64 t.session, .int .i64 t.window, .int .i64 t.pane, .int .i64 t.index, .int .i64 t.offset, .int .i64 t.tick, .int .i64 t.number, .int .i64 t.flag, .string t.name, .string t.text, .string t.layout, .string t.visible, .bool t.zoom]) ?hx ?hy (bg_ev HBW.out HR8.out HNr.out) ?hi ?ho ?h1 ?_; (case hd => rfl); (case hg => rfl); (case hx => first | (go_simp; done) | (go_simp; rfl)); (case hy => first | (go_simp; done) | (go_simp; rfl)); (case hi => kernel_rfl); (case ho => rfl); (case h1 => kernel_rfl); intro w13 hst hsb; have HF := Lib.hid hst; have HFB := Lib.hid hsb; clear hst hsb))
      refine bodyPost_ret (results_cell_row rfl _ _ gr 28 #[.int .i64 t.kind, .int .i64 t.session, .int .i64 t.window, .int .i64 t.pane, .int .i64 t.index, .int .i64 t.offset, .int .i64 t.tick, .int .i64 t.number, .int .i64 t.flag, .string t.name, .string t.text, .string t.layout, .string t.visible, .bool t.zoom] (0, 0) _ rfl HF.out Tryz.underlying28 rfl (by kernel_rfl)) rfl ?_
      exact ⟨by rw [HE0.out]; rfl, below_tr HWW.out (HFB.out.below HGr.out HWW.out.size)⟩
theorem kw_len {k : Int} {l : List UInt8} (h : kindN l = k) (h0 : k ≠ 0) (hne : l ≠ (kwN k).data.toList) : (kwN k).size + 1 ≤ l.length := by
  subst h
  obtain ⟨rest, hr⟩ := kind_split h0 hne
  have := congrArg List.length hr
  rw [List.length_append, List.length_cons, dlen] at this
  omega
theorem data_inj {a b : ByteArray} (h : a.data.toList = b.data.toList) : a = b := by
  apply ByteArray.ext
  exact Array.toList_inj.1 h
theorem list_ne {a b : ByteArray} (h : ¬ a = b) : (a.toList == b.toList) = false := by rw [list_beq]; exact decide_eq_false h
/-- Decode: the event that a line tells. -/
theorem dec_calls {w : World} (hL : LaidW w) (s : ByteArray) (hs : s.size ≤ 1099511627776) :
    Calls Tryz.prog 24 #[.string s] w fun r w' => r = .returned (.agg (evCells (decN s))) ∧ Below w.heap.size w w' := by
  by_cases h0 : 0 < s.size
  · have hh := head_at s h0
    by_cases h37 : s[0] = 37
    · have hb : ((s[0].toNat : Int) != 37) = false := by rw [h37]; rfl
      have e0 : s.data.toList.head? = some 37 := by rw [hh, h37]
      by_cases hk : kindN s.data.toList = 0
      · have e1 : decN s = textEv 25 s := by unfold decN; rw [if_pos e0, if_pos hk]
        rw [e1]
        exact dec_none hL s hs h0 hb 0 hk rfl
      · have hkb : (kindN s.data.toList == 0) = false := by simpa using hk
        by_cases hw : s = kwN (kindN s.data.toList)
        · have hwb : (s.toList == (kwN (kindN s.data.toList)).toList) = true := by rw [list_beq]; exact decide_eq_true hw
          by_cases h24 : kindN s.data.toList = 24
          · have e1 : decN s = bareEv 24 := by unfold decN; rw [if_pos e0, if_neg hk, if_pos hw, if_pos h24]
            rw [e1]
            have := dec_word24 hL s hs h0 hb _ rfl hkb hwb (by simpa using h24)
            rw [h24] at this
            exact this
          · have e1 : decN s = textEv 25 s := by unfold decN; rw [if_pos e0, if_neg hk, if_pos hw, if_neg h24]
            rw [e1]
            exact dec_word hL s hs h0 hb _ rfl hkb hwb (by simpa using h24)
        · have hne : s.data.toList ≠ (kwN (kindN s.data.toList)).data.toList := fun e => hw (data_inj e)
          have hl := kw_len rfl hk hne
          rw [dlen] at hl
          have e1 : decN s = finD (getsN (fdsOf (kindN s.data.toList).toNat) (s.data.toList.drop ((kwN (kindN s.data.toList)).size + 1)) (bareEv (kindN s.data.toList))) s := by unfold decN finD; rw [if_pos e0, if_neg hk, if_neg hw]; try (generalize getsN _ _ _ = g; cases g <;> rfl)
          exact dec_main hL s hs h0 hb _ rfl hkb (list_ne hw) hl _ (fields_calls _) (fds_len _) _ e1
    · have hb : ((s[0].toNat : Int) != 37) = true := by
        have : s[0].toNat ≠ 37 := fun e => h37 (UInt8.toNat_inj.1 e)
        simp
        omega
      have e0 : ¬ s.data.toList.head? = some 37 := by rw [hh]; simpa using h37
      by_cases he : (unescBodyR s.data.toList).2 = 0
      · have e1 : decN s = textEv 4 (ofL (unescBodyR s.data.toList).1) := by unfold decN; rw [if_neg e0, if_pos he]
        rw [e1]
        exact dec_other_ok hL s hs h0 hb (by simp [he])
      · have e1 : decN s = textEv 25 s := by unfold decN; rw [if_neg e0, if_neg he]
        rw [e1]
        exact dec_other_bad hL s hs h0 hb (by simpa using he)
  · have es := empty_size s h0
    subst es
    have e0 : ¬ (⟨#[]⟩ : ByteArray).data.toList.head? = some 37 := by simp
    by_cases he : (unescBodyR (⟨#[]⟩ : ByteArray).data.toList).2 = 0
    · have e1 : decN ⟨#[]⟩ = textEv 4 (ofL (unescBodyR (⟨#[]⟩ : ByteArray).data.toList).1) := by unfold decN; rw [if_neg e0, if_pos he]
      rw [e1]
      exact dec_empty_ok hL _ hs (by rw [ByteArray.toList_eq]; rfl) (by simp [he])
    · have e1 : decN ⟨#[]⟩ = textEv 25 ⟨#[]⟩ := by unfold decN; rw [if_neg e0, if_neg he]
      rw [e1]
      exact dec_empty_bad hL _ hs (by rw [ByteArray.toList_eq]; rfl) (by simpa using he)
end Go.Proofs.YtnblabfkkcohgaaGreatDoor.Wire
end
section
/- Encode and Decode as the printed texts want them. -/
namespace Go.Proofs.YtnblabfkkcohgaaGreatDoor.LawG
open Go Go.Shelf Go.RowKit Go.Proofs.YtnblabfkkcohgaaGreatDoor.Given Go.Proofs.YtnblabfkkcohgaaGreatDoorW.PrintWords Go.Proofs.YtnblabfkkcohgaaGreatDoor.Wire Go.Proofs.YtnblabfkkcohgaaGreatDoor.CutG
/-- Encode, at events whose texts have at most 2^40 bytes. -/
def given_Encode.f (a0 : Int) (a1 : Int) (a2 : Int) (a3 : Int) (a4 : Int) (a5 : Int) (a6 : Int) (a7 : Int) (a8 : Int) (a9 : ByteArray) (a10 : ByteArray) (a11 : ByteArray) (a12 : ByteArray) (a13 : Bool) : Option (ByteArray × Int) :=
  if a9.size ≤ 1099511627776 ∧ a10.size ≤ 1099511627776 ∧ a11.size ≤ 1099511627776 ∧ a12.size ≤ 1099511627776 then some (encN ⟨a0, a1, a2, a3, a4, a5, a6, a7, a8, a9, a10, a11, a12, a13⟩) else none
theorem given_Encode.calls (a0 : Int) (a1 : Int) (a2 : Int) (a3 : Int) (a4 : Int) (a5 : Int) (a6 : Int) (a7 : Int) (a8 : Int) (a9 : ByteArray) (a10 : ByteArray) (a11 : ByteArray) (a12 : ByteArray) (a13 : Bool) (r1 : ByteArray) (r2 : Int) (w : World) (hL : LaidW w) (h : given_Encode.f a0 a1 a2 a3 a4 a5 a6 a7 a8 a9 a10 a11 a12 a13 = some (r1, r2)) :
    Calls Tryz.prog 21 #[.agg #[.int .i64 a0, .int .i64 a1, .int .i64 a2, .int .i64 a3, .int .i64 a4, .int .i64 a5, .int .i64 a6, .int .i64 a7, .int .i64 a8, .string a9, .string a10, .string a11, .string a12, .bool a13]] w fun e w' => e = .returned (.tuple #[.string r1, .int .i64 r2]) ∧ Below w.heap.size w w' := by
  unfold given_Encode.f at h
  split at h
  · rename_i hs
    have h1 := Option.some.inj h
    have hc := enc_calls hL (⟨a0, a1, a2, a3, a4, a5, a6, a7, a8, a9, a10, a11, a12, a13⟩ : Evt) ⟨hs.1, hs.2.1, hs.2.2.1, hs.2.2.2⟩
    rw [h1] at hc
    exact hc
  · cases h
/-- Decode, at lines of at most 2^40 bytes. -/
def given_Decode.f (a0 : ByteArray) : Option (Int × Int × Int × Int × Int × Int × Int × Int × Int × ByteArray × ByteArray × ByteArray × ByteArray × Bool) :=
  if a0.size ≤ 1099511627776 then some ((decN a0).kind, (decN a0).session, (decN a0).window, (decN a0).pane, (decN a0).index, (decN a0).offset, (decN a0).tick, (decN a0).number, (decN a0).flag, (decN a0).name, (decN a0).text, (decN a0).layout, (decN a0).visible, (decN a0).zoom) else none
theorem given_Decode.calls (a0 : ByteArray) (r1 : Int) (r2 : Int) (r3 : Int) (r4 : Int) (r5 : Int) (r6 : Int) (r7 : Int) (r8 : Int) (r9 : Int) (r10 : ByteArray) (r11 : ByteArray) (r12 : ByteArray) (r13 : ByteArray) (r14 : Bool) (w : World) (hL : LaidW w) (h : given_Decode.f a0 = some (r1, r2, r3, r4, r5, r6, r7, r8, r9, r10, r11, r12, r13, r14)) :
    Calls Tryz.prog 24 #[.string a0] w fun e w' => e = .returned (.agg #[.int .i64 r1, .int .i64 r2, .int .i64 r3, .int .i64 r4, .int .i64 r5, .int .i64 r6, .int .i64 r7, .int .i64 r8, .int .i64 r9, .string r10, .string r11, .string r12, .string r13, .bool r14]) ∧ Below w.heap.size w w' := by
  unfold given_Decode.f at h
  split at h
  · rename_i hs
    have h1 := Option.some.inj h
    simp only [Prod.mk.injEq] at h1
    obtain ⟨rfl, rfl, rfl, rfl, rfl, rfl, rfl, rfl, rfl, rfl, rfl, rfl, rfl, rfl⟩ := h1
    exact dec_calls hL a0 hs
  · cases h
/-- An event's kind, out of the event as a value. -/
theorem field28 (a0 : Int) (a1 : Int) (a2 : Int) (a3 : Int) (a4 : Int) (a5 : Int) (a6 : Int) (a7 : Int) (a8 : Int) (a9 : ByteArray) (a10 : ByteArray) (a11 : ByteArray) (a12 : ByteArray) (a13 : Bool) (w : World) : (Instr.field 28 (.agg #[.int .i64 a0, .int .i64 a1, .int .i64 a2, .int .i64 a3, .int .i64 a4, .int .i64 a5, .int .i64 a6, .int .i64 a7, .int .i64 a8, .string a9, .string a10, .string a11, .string a12, .bool a13]) 0).run Tryz.prog w = .ok (.int .i64 a0) w := by kernel_rfl
end Go.Proofs.YtnblabfkkcohgaaGreatDoor.LawG
end
section
-- Printed by a program of this session (wip/fork) out of the translation. Lean checks it.
namespace Go.Proofs.YtnblabfkkcohgaaGreatDoor.PLwA
open Go.Proofs.YtnblabfkkcohgaaGreatDoor.LawG Go.Proofs.YtnblabfkkcohgaaGreatDoor.CutG Go.Proofs.YtnblabfkkcohgaaGreatDoor.Given
open Go.RowKit Go.Proofs.YtnblabfkkcohgaaGreatDoorW.PrintWords Go.Proofs.YtnblabfkkcohgaaGreatDoorW.PrintLast Go.Proofs.YtnblabfkkcohgaaGreatDoorW.PrintMore
attribute [local go_sem] max2_int min2_int max_two min_two max_three min_three max_four min_four   -- for this text's walks alone
set_option linter.unusedVariables false
set_option linter.unusedSimpArgs false
attribute [local go_sem high] field28

def errW : Option Int → Value
  | none => .nilIface
  | some c => .iface 0 (.int .i64 c)
theorem errW_none : errW none = .nilIface := rfl
theorem errW_some (c : Int) : errW (some c) = .iface 0 (.int .i64 c) := rfl

theorem info28 : (Tryz.prog.info? 28).map (fun i => (i.zero, i.size, i.bytes)) = some (some (.agg #[(.int .i64 0), (.int .i64 0), (.int .i64 0), (.int .i64 0), (.int .i64 0), (.int .i64 0), (.int .i64 0), (.int .i64 0), (.int .i64 0), (.string ⟨#[]⟩), (.string ⟨#[]⟩), (.string ⟨#[]⟩), (.string ⟨#[]⟩), (.bool false)]), 14, 144) := by kernel_rfl
-- the values' own types
/-! #### struct type 28 -/
structure S28 where
  f0 : Int
  f1 : Int
  f2 : Int
  f3 : Int
  f4 : Int
  f5 : Int
  f6 : Int
  f7 : Int
  f8 : Int
  f9 : ByteArray
  f10 : ByteArray
  f11 : ByteArray
  f12 : ByteArray
  f13 : Bool
def z28 : S28 := ⟨(0 : Int), (0 : Int), (0 : Int), (0 : Int), (0 : Int), (0 : Int), (0 : Int), (0 : Int), (0 : Int), (⟨#[]⟩ : ByteArray), (⟨#[]⟩ : ByteArray), (⟨#[]⟩ : ByteArray), (⟨#[]⟩ : ByteArray), false⟩
def k28 : Kd S28 := Kd.iso (Kd.pair (Kd.int .i64) (Kd.pair (Kd.int .i64) (Kd.pair (Kd.int .i64) (Kd.pair (Kd.int .i64) (Kd.pair (Kd.int .i64) (Kd.pair (Kd.int .i64) (Kd.pair (Kd.int .i64) (Kd.pair (Kd.int .i64) (Kd.pair (Kd.int .i64) (Kd.pair Kd.string (Kd.pair Kd.string (Kd.pair Kd.string (Kd.pair Kd.string Kd.bool))))))))))))) (fun x : S28 => (x.f0, x.f1, x.f2, x.f3, x.f4, x.f5, x.f6, x.f7, x.f8, x.f9, x.f10, x.f11, x.f12, x.f13))
theorem k28_open {w : World} {x : S28} {cs : List Value} (h : k28.K w x cs) : cs = [.int .i64 x.f0, .int .i64 x.f1, .int .i64 x.f2, .int .i64 x.f3, .int .i64 x.f4, .int .i64 x.f5, .int .i64 x.f6, .int .i64 x.f7, .int .i64 x.f8, .string x.f9, .string x.f10, .string x.f11, .string x.f12, .bool x.f13] := by
  obtain ⟨_, _, rfl, rfl, ⟨_, _, rfl, rfl, ⟨_, _, rfl, rfl, ⟨_, _, rfl, rfl, ⟨_, _, rfl, rfl, ⟨_, _, rfl, rfl, ⟨_, _, rfl, rfl, ⟨_, _, rfl, rfl, ⟨_, _, rfl, rfl, ⟨_, _, rfl, rfl, ⟨_, _, rfl, rfl, ⟨_, _, rfl, rfl, ⟨_, _, rfl, rfl, rfl⟩⟩⟩⟩⟩⟩⟩⟩⟩⟩⟩⟩⟩ := h
  exact rfl
theorem k28_mk (w : World) (x : S28)  : k28.K w x [.int .i64 x.f0, .int .i64 x.f1, .int .i64 x.f2, .int .i64 x.f3, .int .i64 x.f4, .int .i64 x.f5, .int .i64 x.f6, .int .i64 x.f7, .int .i64 x.f8, .string x.f9, .string x.f10, .string x.f11, .string x.f12, .bool x.f13] := ⟨[.int .i64 x.f0], [.int .i64 x.f1, .int .i64 x.f2, .int .i64 x.f3, .int .i64 x.f4, .int .i64 x.f5, .int .i64 x.f6, .int .i64 x.f7, .int .i64 x.f8, .string x.f9, .string x.f10, .string x.f11, .string x.f12, .bool x.f13], rfl, rfl, ⟨[.int .i64 x.f1], [.int .i64 x.f2, .int .i64 x.f3, .int .i64 x.f4, .int .i64 x.f5, .int .i64 x.f6, .int .i64 x.f7, .int .i64 x.f8, .string x.f9, .string x.f10, .string x.f11, .string x.f12, .bool x.f13], rfl, rfl, ⟨[.int .i64 x.f2], [.int .i64 x.f3, .int .i64 x.f4, .int .i64 x.f5, .int .i64 x.f6, .int .i64 x.f7, .int .i64 x.f8, .string x.f9, .string x.f10, .string x.f11, .string x.f12, .bool x.f13], rfl, rfl, ⟨[.int .i64 x.f3], [.int .i64 x.f4, .int .i64 x.f5, .int .i64 x.f6, .int .i64 x.f7, .int .i64 x.f8, .string x.f9, .string x.f10, .string x.f11, .string x.f12, .bool x.f13], rfl, rfl, ⟨[.int .i64 x.f4], [.int .i64 x.f5, .int .i64 x.f6, .int .i64 x.f7, .int .i64 x.f8, .string x.f9, .string x.f10, .string x.f11, .string x.f12, .bool x.f13], rfl, rfl, ⟨[.int .i64 x.f5], [.int .i64 x.f6, .int .i64 x.f7, .int .i64 x.f8, .string x.f9, .string x.f10, .string x.f11, .string x.f12, .bool x.f13], rfl, rfl, ⟨[.int .i64 x.f6], [.int .i64 x.f7, .int .i64 x.f8, .string x.f9, .string x.f10, .string x.f11, .string x.f12, .bool x.f13], rfl, rfl, ⟨[.int .i64 x.f7], [.int .i64 x.f8, .string x.f9, .string x.f10, .string x.f11, .string x.f12, .bool x.f13], rfl, rfl, ⟨[.int .i64 x.f8], [.string x.f9, .string x.f10, .string x.f11, .string x.f12, .bool x.f13], rfl, rfl, ⟨[.string x.f9], [.string x.f10, .string x.f11, .string x.f12, .bool x.f13], rfl, rfl, ⟨[.string x.f10], [.string x.f11, .string x.f12, .bool x.f13], rfl, rfl, ⟨[.string x.f11], [.string x.f12, .bool x.f13], rfl, rfl, ⟨[.string x.f12], [.bool x.f13], rfl, rfl, rfl⟩⟩⟩⟩⟩⟩⟩⟩⟩⟩⟩⟩⟩
theorem k28_mkM (w : World) (base : Nat) (ok : Nat → Prop) (x : S28)  : k28.M w base ok x [.int .i64 x.f0, .int .i64 x.f1, .int .i64 x.f2, .int .i64 x.f3, .int .i64 x.f4, .int .i64 x.f5, .int .i64 x.f6, .int .i64 x.f7, .int .i64 x.f8, .string x.f9, .string x.f10, .string x.f11, .string x.f12, .bool x.f13] := ⟨[.int .i64 x.f0], [.int .i64 x.f1, .int .i64 x.f2, .int .i64 x.f3, .int .i64 x.f4, .int .i64 x.f5, .int .i64 x.f6, .int .i64 x.f7, .int .i64 x.f8, .string x.f9, .string x.f10, .string x.f11, .string x.f12, .bool x.f13], rfl, rfl, ⟨[.int .i64 x.f1], [.int .i64 x.f2, .int .i64 x.f3, .int .i64 x.f4, .int .i64 x.f5, .int .i64 x.f6, .int .i64 x.f7, .int .i64 x.f8, .string x.f9, .string x.f10, .string x.f11, .string x.f12, .bool x.f13], rfl, rfl, ⟨[.int .i64 x.f2], [.int .i64 x.f3, .int .i64 x.f4, .int .i64 x.f5, .int .i64 x.f6, .int .i64 x.f7, .int .i64 x.f8, .string x.f9, .string x.f10, .string x.f11, .string x.f12, .bool x.f13], rfl, rfl, ⟨[.int .i64 x.f3], [.int .i64 x.f4, .int .i64 x.f5, .int .i64 x.f6, .int .i64 x.f7, .int .i64 x.f8, .string x.f9, .string x.f10, .string x.f11, .string x.f12, .bool x.f13], rfl, rfl, ⟨[.int .i64 x.f4], [.int .i64 x.f5, .int .i64 x.f6, .int .i64 x.f7, .int .i64 x.f8, .string x.f9, .string x.f10, .string x.f11, .string x.f12, .bool x.f13], rfl, rfl, ⟨[.int .i64 x.f5], [.int .i64 x.f6, .int .i64 x.f7, .int .i64 x.f8, .string x.f9, .string x.f10, .string x.f11, .string x.f12, .bool x.f13], rfl, rfl, ⟨[.int .i64 x.f6], [.int .i64 x.f7, .int .i64 x.f8, .string x.f9, .string x.f10, .string x.f11, .string x.f12, .bool x.f13], rfl, rfl, ⟨[.int .i64 x.f7], [.int .i64 x.f8, .string x.f9, .string x.f10, .string x.f11, .string x.f12, .bool x.f13], rfl, rfl, ⟨[.int .i64 x.f8], [.string x.f9, .string x.f10, .string x.f11, .string x.f12, .bool x.f13], rfl, rfl, ⟨[.string x.f9], [.string x.f10, .string x.f11, .string x.f12, .bool x.f13], rfl, rfl, ⟨[.string x.f10], [.string x.f11, .string x.f12, .bool x.f13], rfl, rfl, ⟨[.string x.f11], [.string x.f12, .bool x.f13], rfl, rfl, ⟨[.string x.f12], [.bool x.f13], rfl, rfl, rfl⟩⟩⟩⟩⟩⟩⟩⟩⟩⟩⟩⟩⟩
def rd_T28 (xs : List S28) (i : Int) : S28 := xs.getD i.toNat z28
theorem at_T28 {w : World} {A : Option Addr} {n : Nat} {xs : List S28} (h : Kd.C k28 w A n xs) (i : Int) (h0 : 0 ≤ i) (h1 : i < n) : ∃ ad , A = some ad ∧ w.cell? (ad.add (i.toNat * 14)) = some (.int .i64 (rd_T28 xs i).f0) ∧ w.cell? ⟨(ad.add (i.toNat * 14)).block, (ad.add (i.toNat * 14)).off + 1, none⟩ = some (.int .i64 (rd_T28 xs i).f1) ∧ w.cell? ⟨(ad.add (i.toNat * 14)).block, (ad.add (i.toNat * 14)).off + 2, none⟩ = some (.int .i64 (rd_T28 xs i).f2) ∧ w.cell? ⟨(ad.add (i.toNat * 14)).block, (ad.add (i.toNat * 14)).off + 3, none⟩ = some (.int .i64 (rd_T28 xs i).f3) ∧ w.cell? ⟨(ad.add (i.toNat * 14)).block, (ad.add (i.toNat * 14)).off + 4, none⟩ = some (.int .i64 (rd_T28 xs i).f4) ∧ w.cell? ⟨(ad.add (i.toNat * 14)).block, (ad.add (i.toNat * 14)).off + 5, none⟩ = some (.int .i64 (rd_T28 xs i).f5) ∧ w.cell? ⟨(ad.add (i.toNat * 14)).block, (ad.add (i.toNat * 14)).off + 6, none⟩ = some (.int .i64 (rd_T28 xs i).f6) ∧ w.cell? ⟨(ad.add (i.toNat * 14)).block, (ad.add (i.toNat * 14)).off + 7, none⟩ = some (.int .i64 (rd_T28 xs i).f7) ∧ w.cell? ⟨(ad.add (i.toNat * 14)).block, (ad.add (i.toNat * 14)).off + 8, none⟩ = some (.int .i64 (rd_T28 xs i).f8) ∧ w.cell? ⟨(ad.add (i.toNat * 14)).block, (ad.add (i.toNat * 14)).off + 9, none⟩ = some (.string (rd_T28 xs i).f9) ∧ w.cell? ⟨(ad.add (i.toNat * 14)).block, (ad.add (i.toNat * 14)).off + 10, none⟩ = some (.string (rd_T28 xs i).f10) ∧ w.cell? ⟨(ad.add (i.toNat * 14)).block, (ad.add (i.toNat * 14)).off + 11, none⟩ = some (.string (rd_T28 xs i).f11) ∧ w.cell? ⟨(ad.add (i.toNat * 14)).block, (ad.add (i.toNat * 14)).off + 12, none⟩ = some (.string (rd_T28 xs i).f12) ∧ w.cell? ⟨(ad.add (i.toNat * 14)).block, (ad.add (i.toNat * 14)).off + 13, none⟩ = some (.bool (rd_T28 xs i).f13) := by
  obtain ⟨ad, c, e, _, hK, hc0⟩ := Kd.C_get h z28 i h0 h1
  have hc : ∀ j u, c[j]? = some u → w.cell? (ad.add (i.toNat * 14 + j)) = some u := hc0
  obtain rfl := k28_open hK
  exact ⟨ad, e, hc 0 _ rfl, by rw [← add_field _ _ 1 (by omega)]; exact hc 1 _ rfl, by rw [← add_field _ _ 2 (by omega)]; exact hc 2 _ rfl, by rw [← add_field _ _ 3 (by omega)]; exact hc 3 _ rfl, by rw [← add_field _ _ 4 (by omega)]; exact hc 4 _ rfl, by rw [← add_field _ _ 5 (by omega)]; exact hc 5 _ rfl, by rw [← add_field _ _ 6 (by omega)]; exact hc 6 _ rfl, by rw [← add_field _ _ 7 (by omega)]; exact hc 7 _ rfl, by rw [← add_field _ _ 8 (by omega)]; exact hc 8 _ rfl, by rw [← add_field _ _ 9 (by omega)]; exact hc 9 _ rfl, by rw [← add_field _ _ 10 (by omega)]; exact hc 10 _ rfl, by rw [← add_field _ _ 11 (by omega)]; exact hc 11 _ rfl, by rw [← add_field _ _ 12 (by omega)]; exact hc 12 _ rfl, by rw [← add_field _ _ 13 (by omega)]; exact hc 13 _ rfl⟩

end Go.Proofs.YtnblabfkkcohgaaGreatDoor.PLwA
end
section
-- Printed by a program of this session (wip/fork) out of the translation. Lean checks it.
namespace Go.Proofs.YtnblabfkkcohgaaGreatDoor.PLwA
open Go.Proofs.YtnblabfkkcohgaaGreatDoor.LawG Go.Proofs.YtnblabfkkcohgaaGreatDoor.CutG Go.Proofs.YtnblabfkkcohgaaGreatDoor.Given
open Go.RowKit Go.Proofs.YtnblabfkkcohgaaGreatDoorW.PrintWords Go.Proofs.YtnblabfkkcohgaaGreatDoorW.PrintLast Go.Proofs.YtnblabfkkcohgaaGreatDoorW.PrintMore
attribute [local go_sem] max2_int min2_int max_two min_two max_three min_three max_four min_four   -- for this text's walks alone
set_option linter.unusedVariables false
set_option linter.unusedSimpArgs false
attribute [local go_sem high] field28

theorem eqA28 (d : Nat) (w : World) (x0 y0 : Int) (x1 y1 : Int) (x2 y2 : Int) (x3 y3 : Int) (x4 y4 : Int) (x5 y5 : Int) (x6 y6 : Int) (x7 y7 : Int) (x8 y8 : Int) (x9 y9 : ByteArray) (x10 y10 : ByteArray) (x11 y11 : ByteArray) (x12 y12 : ByteArray) (x13 y13 : Bool) :
    (Op.equalIn (d + 2) 28 (.agg #[.int .i64 x0, .int .i64 x1, .int .i64 x2, .int .i64 x3, .int .i64 x4, .int .i64 x5, .int .i64 x6, .int .i64 x7, .int .i64 x8, .string x9, .string x10, .string x11, .string x12, .bool x13]) (.agg #[.int .i64 y0, .int .i64 y1, .int .i64 y2, .int .i64 y3, .int .i64 y4, .int .i64 y5, .int .i64 y6, .int .i64 y7, .int .i64 y8, .string y9, .string y10, .string y11, .string y12, .bool y13])).run Tryz.prog w = .ok (x0 == y0 && (x1 == y1 && (x2 == y2 && (x3 == y3 && (x4 == y4 && (x5 == y5 && (x6 == y6 && (x7 == y7 && (x8 == y8 && (x9.toList == y9.toList && (x10.toList == y10.toList && (x11.toList == y11.toList && (x12.toList == y12.toList && (x13 == y13)))))))))))))) w := by
  refine eqA_of Tryz.underlying28 (by kernel_rfl) ?_
  refine eqf_cons (by rfl) (by go_simp; rfl) (by go_simp; rfl) (by go_simp) ?_
  refine eqf_cons (by rfl) (by go_simp; rfl) (by go_simp; rfl) (by go_simp) ?_
  refine eqf_cons (by rfl) (by go_simp; rfl) (by go_simp; rfl) (by go_simp) ?_
  refine eqf_cons (by rfl) (by go_simp; rfl) (by go_simp; rfl) (by go_simp) ?_
  refine eqf_cons (by rfl) (by go_simp; rfl) (by go_simp; rfl) (by go_simp) ?_
  refine eqf_cons (by rfl) (by go_simp; rfl) (by go_simp; rfl) (by go_simp) ?_
  refine eqf_cons (by rfl) (by go_simp; rfl) (by go_simp; rfl) (by go_simp) ?_
  refine eqf_cons (by rfl) (by go_simp; rfl) (by go_simp; rfl) (by go_simp) ?_
  refine eqf_cons (by rfl) (by go_simp; rfl) (by go_simp; rfl) (by go_simp) ?_
  refine eqf_cons (by rfl) (by go_simp; rfl) (by go_simp; rfl) (by go_simp) ?_
  refine eqf_cons (by rfl) (by go_simp; rfl) (by go_simp; rfl) (by go_simp) ?_
  refine eqf_cons (by rfl) (by go_simp; rfl) (by go_simp; rfl) (by go_simp) ?_
  refine eqf_cons (by rfl) (by go_simp; rfl) (by go_simp; rfl) (by go_simp) ?_
  exact eqf_last (by rfl) (by go_simp; rfl) (by go_simp; rfl) (by go_simp)
end Go.Proofs.YtnblabfkkcohgaaGreatDoor.PLwA
end
