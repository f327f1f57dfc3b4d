-- Printed by a program of this session (wip/fork) out of the translation. Lean checks it.
import Derived.Test.YtednollcioekhaaDoorPExecx0
namespace Go.Proofs.YtednollcioekhaaDoor.PExec
open Go.Proofs.YtednollcioekhaaDoor.Given
open Go.RowKit Go.Proofs.YtednollcioekhaaDoorW.PrintWords Go.Proofs.YtednollcioekhaaDoorW.PrintLast Go.Proofs.YtednollcioekhaaDoorW.PrintMore
attribute [local go_sem] max2_int min2_int max_two min_two max_three min_three max_four min_four   -- for this text's walks alone
set_option linter.unusedVariables false
set_option linter.unusedSimpArgs false

/-! ### octal_PutNumber: function 9 -/
def octal_PutNumber.f (a0 : Int) : Option (ByteArray) := if a0 < 0 then (some (⟨#[]⟩ : ByteArray)) else (if a0 > 4611686018427387904 then (some (⟨#[]⟩ : ByteArray)) else ((given_Itoa.f a0).bind fun t101 => (some t101)))
set_option maxHeartbeats 8000000 in
set_option maxRecDepth 100000 in
theorem octal_PutNumber.calls (a0 : Int) (r : ByteArray) (w : World) (hL : LaidW w) (h : octal_PutNumber.f a0 = some r) :
    Calls Tryd.prog 9 #[.int .i64 a0] w fun e w' => e = .returned (.string r) ∧ Below w.heap.size w w' := by
  have HB := Aside0.mk (Below.refl w.heap.size w)
  have H : (if a0 < 0 then (some (⟨#[]⟩ : ByteArray)) else (if a0 > 4611686018427387904 then (some (⟨#[]⟩ : ByteArray)) else ((given_Itoa.f a0).bind fun t101 => (some t101)))) = some r := h
  clear h
  by_cases c2 : a0 < 0
  · rw [if_pos c2] at H
    have c2b0 : decide (a0 < 0) = true := decide_eq_true c2
    clear c2
    obtain rfl := Option.some.inj H
    go_enter Tryd.func9, Tryd.ntmps9
    go_wp2
    go_ret
    exact ⟨by first | rfl | (simp [errW_none, errW_some] <;> rfl) | (simp [*, errW_none, errW_some] <;> rfl), by repeat (first | (with_reducible first | exact HB.out | apply below_alloc | apply pw_below_drewN | apply below_drew1) | exact HB.out)⟩
  · rw [if_neg c2] at H
    have c2b0 : decide (a0 < 0) = false := decide_eq_false c2
    clear c2
    by_cases c3 : a0 > 4611686018427387904
    · rw [if_pos c3] at H
      have c3b0 : decide (4611686018427387904 < a0) = true := decide_eq_true c3
      clear c3
      obtain rfl := Option.some.inj H
      go_enter Tryd.func9, Tryd.ntmps9
      go_wp2
      go_ret
      exact ⟨by first | rfl | (simp [errW_none, errW_some] <;> rfl) | (simp [*, errW_none, errW_some] <;> rfl), by repeat (first | (with_reducible first | exact HB.out | apply below_alloc | apply pw_below_drewN | apply below_drew1) | exact HB.out)⟩
    · rw [if_neg c3] at H
      have c3b0 : decide (4611686018427387904 < a0) = false := decide_eq_false c3
      clear c3
      replace H := Option.bind_eq_some_iff.mp H
      obtain ⟨t101, A40, H⟩ := H
      replace H : (some t101) = some r := H
      have A4 := Aside0.mk A40
      clear A40
      obtain rfl := Option.some.inj H
      go_enter Tryd.func9, Tryd.ntmps9
      go_wp2_with (first | ((with_reducible refine gate_callee (f := 10) rfl ?_); refine goesL_ (some 10) rfl rfl Tryd.func10 (by kernel_rfl) rfl #[.int .i64 a0] rfl (by (try simp only [List.map_toArray, List.map_cons, List.map_nil]); first | done | rfl | (simp only [List.length_drop, List.length_take]; rfl)) ?_; (with_reducible refine (given_Itoa.calls a0 t101 _ (LaidW.below hL (by repeat (first | (with_reducible first | exact HB.out | apply below_alloc | apply pw_below_drewN | apply below_drew1) | exact HB.out))) A4.out).mono ?_); rintro e w5 ⟨rfl, hb⟩; refine ⟨_, rfl, ?_⟩; have n0_ := Aside0.mk (below_step (by repeat (first | (with_reducible first | exact HB.out | apply below_alloc | apply pw_below_drewN | apply below_drew1) | exact HB.out)) hb); clear HB; have HB := n0_; clear n0_; (try clear hb); (try clear hb2); (try clear hk); (try clear hi)))
      go_ret
      exact ⟨by first | rfl | (simp [errW_none, errW_some] <;> rfl) | (simp [*, errW_none, errW_some] <;> rfl), by repeat (first | (with_reducible first | exact HB.out | apply below_alloc | apply pw_below_drewN | apply below_drew1) | exact HB.out)⟩

/-! ### exec_words: function 6 -/
def exec_words.f (a0 : Int) : Option (ByteArray) := if a0 = 1 then (some (⟨#[98, 97, 100, 32, 97, 114, 103, 117, 109, 101, 110, 116]⟩ : ByteArray)) else (if a0 = 2 then (some (⟨#[116, 111, 111, 32, 108, 111, 110, 103]⟩ : ByteArray)) else (if a0 = 3 then (some (⟨#[110, 111, 32, 114, 111, 111, 109]⟩ : ByteArray)) else (if a0 = 40 then (some (⟨#[110, 111, 116, 32, 97, 32, 108, 97, 121, 111, 117, 116]⟩ : ByteArray)) else (if a0 = 41 then (some (⟨#[98, 97, 100, 32, 115, 105, 122, 101]⟩ : ByteArray)) else (if a0 = 42 then (some (⟨#[110, 111, 32, 115, 117, 99, 104, 32, 112, 97, 110, 101]⟩ : ByteArray)) else (if a0 = 44 then (some (⟨#[110, 111, 32, 115, 112, 97, 99, 101]⟩ : ByteArray)) else (if a0 = 45 then (some (⟨#[116, 111, 111, 32, 109, 97, 110, 121, 32, 112, 97, 110, 101, 115]⟩ : ByteArray)) else (if a0 = 46 then (some (⟨#[111, 110, 108, 121, 32, 112, 97, 110, 101]⟩ : ByteArray)) else (if a0 = 47 then (some (⟨#[110, 111, 32, 98, 111, 114, 100, 101, 114]⟩ : ByteArray)) else (if a0 = 50 then (some (⟨#[98, 97, 100, 32, 108, 97, 121, 111, 117, 116]⟩ : ByteArray)) else (if a0 = 51 then (some (⟨#[98, 97, 100, 32, 115, 117, 109]⟩ : ByteArray)) else (if a0 = 70 then (some (⟨#[110, 111, 32, 115, 117, 99, 104, 32, 115, 101, 115, 115, 105, 111, 110]⟩ : ByteArray)) else (if a0 = 71 then (some (⟨#[110, 111, 32, 115, 117, 99, 104, 32, 119, 105, 110, 100, 111, 119]⟩ : ByteArray)) else (if a0 = 72 then (some (⟨#[110, 111, 32, 115, 117, 99, 104, 32, 105, 110, 100, 101, 120]⟩ : ByteArray)) else (if a0 = 73 then (some (⟨#[98, 97, 100, 32, 110, 97, 109, 101]⟩ : ByteArray)) else (if a0 = 74 then (some (⟨#[105, 110, 32, 117, 115, 101]⟩ : ByteArray)) else (if a0 = 75 then (some (⟨#[111, 110, 108, 121, 32, 111, 110, 101]⟩ : ByteArray)) else (if a0 = 90 then (some (⟨#[111, 112, 101, 110, 32, 113, 117, 111, 116, 101]⟩ : ByteArray)) else (if a0 = 91 then (some (⟨#[116, 111, 111, 32, 109, 97, 110, 121, 32, 119, 111, 114, 100, 115]⟩ : ByteArray)) else (if a0 = 100 then (some (⟨#[98, 97, 100, 32, 102, 111, 114, 109, 97, 116]⟩ : ByteArray)) else (if a0 = 101 then (some (⟨#[116, 111, 111, 32, 100, 101, 101, 112]⟩ : ByteArray)) else (if a0 = 110 then (some (⟨#[110, 111, 116, 32, 102, 111, 117, 110, 100]⟩ : ByteArray)) else (if a0 = 111 then (some (⟨#[97, 109, 98, 105, 103, 117, 111, 117, 115]⟩ : ByteArray)) else (if a0 = 112 then (some (⟨#[110, 111, 32, 99, 117, 114, 114, 101, 110, 116, 32, 115, 101, 115, 115, 105, 111, 110]⟩ : ByteArray)) else (if a0 = 120 then (some (⟨#[117, 110, 107, 110, 111, 119, 110, 32, 99, 111, 109, 109, 97, 110, 100]⟩ : ByteArray)) else (if a0 = 121 then (some (⟨#[97, 109, 98, 105, 103, 117, 111, 117, 115, 32, 99, 111, 109, 109, 97, 110, 100]⟩ : ByteArray)) else (if a0 = 122 then (some (⟨#[117, 110, 107, 110, 111, 119, 110, 32, 102, 108, 97, 103]⟩ : ByteArray)) else (if a0 = 123 then (some (⟨#[118, 97, 108, 117, 101, 32, 110, 101, 101, 100, 101, 100]⟩ : ByteArray)) else (if a0 = 124 then (some (⟨#[119, 114, 111, 110, 103, 32, 110, 117, 109, 98, 101, 114, 32, 111, 102, 32, 119, 111, 114, 100, 115]⟩ : ByteArray)) else (if a0 = 125 then (some (⟨#[98, 97, 100, 32, 118, 97, 108, 117, 101]⟩ : ByteArray)) else ((octal_PutNumber.f a0).bind fun t102 => (if t102.toList = ([] : List UInt8) then (some (⟨#[101, 114, 114, 111, 114]⟩ : ByteArray)) else (if 6 + t102.size ≤ 9223372036854775807 then (some ((⟨#[101, 114, 114, 111, 114, 32]⟩ : ByteArray) ++ t102)) else (none))))))))))))))))))))))))))))))))))
set_option maxHeartbeats 8000000 in
set_option maxRecDepth 100000 in
theorem exec_words.calls (a0 : Int) (r : ByteArray) (w : World) (hL : LaidW w) (h : exec_words.f a0 = some r) :
    Calls Tryd.prog 6 #[.int .i64 a0] w fun e w' => e = .returned (.string r) ∧ Below w.heap.size w w' := by
  have HB := Aside0.mk (Below.refl w.heap.size w)
  have H : (if a0 = 1 then (some (⟨#[98, 97, 100, 32, 97, 114, 103, 117, 109, 101, 110, 116]⟩ : ByteArray)) else (if a0 = 2 then (some (⟨#[116, 111, 111, 32, 108, 111, 110, 103]⟩ : ByteArray)) else (if a0 = 3 then (some (⟨#[110, 111, 32, 114, 111, 111, 109]⟩ : ByteArray)) else (if a0 = 40 then (some (⟨#[110, 111, 116, 32, 97, 32, 108, 97, 121, 111, 117, 116]⟩ : ByteArray)) else (if a0 = 41 then (some (⟨#[98, 97, 100, 32, 115, 105, 122, 101]⟩ : ByteArray)) else (if a0 = 42 then (some (⟨#[110, 111, 32, 115, 117, 99, 104, 32, 112, 97, 110, 101]⟩ : ByteArray)) else (if a0 = 44 then (some (⟨#[110, 111, 32, 115, 112, 97, 99, 101]⟩ : ByteArray)) else (if a0 = 45 then (some (⟨#[116, 111, 111, 32, 109, 97, 110, 121, 32, 112, 97, 110, 101, 115]⟩ : ByteArray)) else (if a0 = 46 then (some (⟨#[111, 110, 108, 121, 32, 112, 97, 110, 101]⟩ : ByteArray)) else (if a0 = 47 then (some (⟨#[110, 111, 32, 98, 111, 114, 100, 101, 114]⟩ : ByteArray)) else (if a0 = 50 then (some (⟨#[98, 97, 100, 32, 108, 97, 121, 111, 117, 116]⟩ : ByteArray)) else (if a0 = 51 then (some (⟨#[98, 97, 100, 32, 115, 117, 109]⟩ : ByteArray)) else (if a0 = 70 then (some (⟨#[110, 111, 32, 115, 117, 99, 104, 32, 115, 101, 115, 115, 105, 111, 110]⟩ : ByteArray)) else (if a0 = 71 then (some (⟨#[110, 111, 32, 115, 117, 99, 104, 32, 119, 105, 110, 100, 111, 119]⟩ : ByteArray)) else (if a0 = 72 then (some (⟨#[110, 111, 32, 115, 117, 99, 104, 32, 105, 110, 100, 101, 120]⟩ : ByteArray)) else (if a0 = 73 then (some (⟨#[98, 97, 100, 32, 110, 97, 109, 101]⟩ : ByteArray)) else (if a0 = 74 then (some (⟨#[105, 110, 32, 117, 115, 101]⟩ : ByteArray)) else (if a0 = 75 then (some (⟨#[111, 110, 108, 121, 32, 111, 110, 101]⟩ : ByteArray)) else (if a0 = 90 then (some (⟨#[111, 112, 101, 110, 32, 113, 117, 111, 116, 101]⟩ : ByteArray)) else (if a0 = 91 then (some (⟨#[116, 111, 111, 32, 109, 97, 110, 121, 32, 119, 111, 114, 100, 115]⟩ : ByteArray)) else (if a0 = 100 then (some (⟨#[98, 97, 100, 32, 102, 111, 114, 109, 97, 116]⟩ : ByteArray)) else (if a0 = 101 then (some (⟨#[116, 111, 111, 32, 100, 101, 101, 112]⟩ : ByteArray)) else (if a0 = 110 then (some (⟨#[110, 111, 116, 32, 102, 111, 117, 110, 100]⟩ : ByteArray)) else (if a0 = 111 then (some (⟨#[97, 109, 98, 105, 103, 117, 111, 117, 115]⟩ : ByteArray)) else (if a0 = 112 then (some (⟨#[110, 111, 32, 99, 117, 114, 114, 101, 110, 116, 32, 115, 101, 115, 115, 105, 111, 110]⟩ : ByteArray)) else (if a0 = 120 then (some (⟨#[117, 110, 107, 110, 111, 119, 110, 32, 99, 111, 109, 109, 97, 110, 100]⟩ : ByteArray)) else (if a0 = 121 then (some (⟨#[97, 109, 98, 105, 103, 117, 111, 117, 115, 32, 99, 111, 109, 109, 97, 110, 100]⟩ : ByteArray)) else (if a0 = 122 then (some (⟨#[117, 110, 107, 110, 111, 119, 110, 32, 102, 108, 97, 103]⟩ : ByteArray)) else (if a0 = 123 then (some (⟨#[118, 97, 108, 117, 101, 32, 110, 101, 101, 100, 101, 100]⟩ : ByteArray)) else (if a0 = 124 then (some (⟨#[119, 114, 111, 110, 103, 32, 110, 117, 109, 98, 101, 114, 32, 111, 102, 32, 119, 111, 114, 100, 115]⟩ : ByteArray)) else (if a0 = 125 then (some (⟨#[98, 97, 100, 32, 118, 97, 108, 117, 101]⟩ : ByteArray)) else ((octal_PutNumber.f a0).bind fun t102 => (if t102.toList = ([] : List UInt8) then (some (⟨#[101, 114, 114, 111, 114]⟩ : ByteArray)) else (if 6 + t102.size ≤ 9223372036854775807 then (some ((⟨#[101, 114, 114, 111, 114, 32]⟩ : ByteArray) ++ t102)) else (none))))))))))))))))))))))))))))))))))) = some r := h
  clear h
  by_cases c2 : a0 = 1
  · rw [if_pos c2] at H
    have c2b0 : (a0 == 1) = true := beq_iff_eq.mpr c2
    have c2b1 : (a0 != 1) = false := bne_eq_false_iff_eq.mpr c2
    clear c2
    obtain rfl := Option.some.inj H
    go_enter Tryd.func6, Tryd.ntmps6
    go_wp2
    go_ret
    exact ⟨by first | rfl | (simp [errW_none, errW_some] <;> rfl) | (simp [*, errW_none, errW_some] <;> rfl), by repeat (first | (with_reducible first | exact HB.out | apply below_alloc | apply pw_below_drewN | apply below_drew1) | exact HB.out)⟩
  · rw [if_neg c2] at H
    have c2b0 : (a0 == 1) = false := beq_eq_false_iff_ne.mpr c2
    have c2b1 : (a0 != 1) = true := bne_iff_ne.mpr c2
    by_cases c3 : a0 = 2
    · rw [if_pos c3] at H
      have c3b0 : (a0 == 2) = true := beq_iff_eq.mpr c3
      have c3b1 : (a0 != 2) = false := bne_eq_false_iff_eq.mpr c3
      clear c3
      obtain rfl := Option.some.inj H
      go_enter Tryd.func6, Tryd.ntmps6
      go_wp2
      go_ret
      exact ⟨by first | rfl | (simp [errW_none, errW_some] <;> rfl) | (simp [*, errW_none, errW_some] <;> rfl), by repeat (first | (with_reducible first | exact HB.out | apply below_alloc | apply pw_below_drewN | apply below_drew1) | exact HB.out)⟩
    · rw [if_neg c3] at H
      have c3b0 : (a0 == 2) = false := beq_eq_false_iff_ne.mpr c3
      have c3b1 : (a0 != 2) = true := bne_iff_ne.mpr c3
      by_cases c4 : a0 = 3
      · rw [if_pos c4] at H
        have c4b0 : (a0 == 3) = true := beq_iff_eq.mpr c4
        have c4b1 : (a0 != 3) = false := bne_eq_false_iff_eq.mpr c4
        clear c4
        obtain rfl := Option.some.inj H
        go_enter Tryd.func6, Tryd.ntmps6
        go_wp2
        go_ret
        exact ⟨by first | rfl | (simp [errW_none, errW_some] <;> rfl) | (simp [*, errW_none, errW_some] <;> rfl), by repeat (first | (with_reducible first | exact HB.out | apply below_alloc | apply pw_below_drewN | apply below_drew1) | exact HB.out)⟩
      · rw [if_neg c4] at H
        have c4b0 : (a0 == 3) = false := beq_eq_false_iff_ne.mpr c4
        have c4b1 : (a0 != 3) = true := bne_iff_ne.mpr c4
        by_cases c5 : a0 = 40
        · rw [if_pos c5] at H
          have c5b0 : (a0 == 40) = true := beq_iff_eq.mpr c5
          have c5b1 : (a0 != 40) = false := bne_eq_false_iff_eq.mpr c5
          clear c5
          obtain rfl := Option.some.inj H
          go_enter Tryd.func6, Tryd.ntmps6
          go_wp2
          go_ret
          exact ⟨by first | rfl | (simp [errW_none, errW_some] <;> rfl) | (simp [*, errW_none, errW_some] <;> rfl), by repeat (first | (with_reducible first | exact HB.out | apply below_alloc | apply pw_below_drewN | apply below_drew1) | exact HB.out)⟩
        · rw [if_neg c5] at H
          have c5b0 : (a0 == 40) = false := beq_eq_false_iff_ne.mpr c5
          have c5b1 : (a0 != 40) = true := bne_iff_ne.mpr c5
          by_cases c6 : a0 = 41
          · rw [if_pos c6] at H
            have c6b0 : (a0 == 41) = true := beq_iff_eq.mpr c6
            have c6b1 : (a0 != 41) = false := bne_eq_false_iff_eq.mpr c6
            clear c6
            obtain rfl := Option.some.inj H
            go_enter Tryd.func6, Tryd.ntmps6
            go_wp2
            go_ret
            exact ⟨by first | rfl | (simp [errW_none, errW_some] <;> rfl) | (simp [*, errW_none, errW_some] <;> rfl), by repeat (first | (with_reducible first | exact HB.out | apply below_alloc | apply pw_below_drewN | apply below_drew1) | exact HB.out)⟩
          · rw [if_neg c6] at H
            have c6b0 : (a0 == 41) = false := beq_eq_false_iff_ne.mpr c6
            have c6b1 : (a0 != 41) = true := bne_iff_ne.mpr c6
            by_cases c7 : a0 = 42
            · rw [if_pos c7] at H
              have c7b0 : (a0 == 42) = true := beq_iff_eq.mpr c7
              have c7b1 : (a0 != 42) = false := bne_eq_false_iff_eq.mpr c7
              clear c7
              obtain rfl := Option.some.inj H
              go_enter Tryd.func6, Tryd.ntmps6
              go_wp2
              go_ret
              exact ⟨by first | rfl | (simp [errW_none, errW_some] <;> rfl) | (simp [*, errW_none, errW_some] <;> rfl), by repeat (first | (with_reducible first | exact HB.out | apply below_alloc | apply pw_below_drewN | apply below_drew1) | exact HB.out)⟩
            · rw [if_neg c7] at H
              have c7b0 : (a0 == 42) = false := beq_eq_false_iff_ne.mpr c7
              have c7b1 : (a0 != 42) = true := bne_iff_ne.mpr c7
              by_cases c8 : a0 = 44
              · rw [if_pos c8] at H
                have c8b0 : (a0 == 44) = true := beq_iff_eq.mpr c8
                have c8b1 : (a0 != 44) = false := bne_eq_false_iff_eq.mpr c8
                clear c8
                obtain rfl := Option.some.inj H
                go_enter Tryd.func6, Tryd.ntmps6
                go_wp2
                go_ret
                exact ⟨by first | rfl | (simp [errW_none, errW_some] <;> rfl) | (simp [*, errW_none, errW_some] <;> rfl), by repeat (first | (with_reducible first | exact HB.out | apply below_alloc | apply pw_below_drewN | apply below_drew1) | exact HB.out)⟩
              · rw [if_neg c8] at H
                have c8b0 : (a0 == 44) = false := beq_eq_false_iff_ne.mpr c8
                have c8b1 : (a0 != 44) = true := bne_iff_ne.mpr c8
                by_cases c9 : a0 = 45
                · rw [if_pos c9] at H
                  have c9b0 : (a0 == 45) = true := beq_iff_eq.mpr c9
                  have c9b1 : (a0 != 45) = false := bne_eq_false_iff_eq.mpr c9
                  clear c9
                  obtain rfl := Option.some.inj H
                  go_enter Tryd.func6, Tryd.ntmps6
                  go_wp2
                  go_ret
                  exact ⟨by first | rfl | (simp [errW_none, errW_some] <;> rfl) | (simp [*, errW_none, errW_some] <;> rfl), by repeat (first | (with_reducible first | exact HB.out | apply below_alloc | apply pw_below_drewN | apply below_drew1) | exact HB.out)⟩
                · rw [if_neg c9] at H
                  have c9b0 : (a0 == 45) = false := beq_eq_false_iff_ne.mpr c9
                  have c9b1 : (a0 != 45) = true := bne_iff_ne.mpr c9
                  by_cases c10 : a0 = 46
                  · rw [if_pos c10] at H
                    have c10b0 : (a0 == 46) = true := beq_iff_eq.mpr c10
                    have c10b1 : (a0 != 46) = false := bne_eq_false_iff_eq.mpr c10
                    clear c10
                    obtain rfl := Option.some.inj H
                    go_enter Tryd.func6, Tryd.ntmps6
                    go_wp2
                    go_ret
                    exact ⟨by first | rfl | (simp [errW_none, errW_some] <;> rfl) | (simp [*, errW_none, errW_some] <;> rfl), by repeat (first | (with_reducible first | exact HB.out | apply below_alloc | apply pw_below_drewN | apply below_drew1) | exact HB.out)⟩
                  · rw [if_neg c10] at H
                    have c10b0 : (a0 == 46) = false := beq_eq_false_iff_ne.mpr c10
                    have c10b1 : (a0 != 46) = true := bne_iff_ne.mpr c10
                    by_cases c11 : a0 = 47
                    · rw [if_pos c11] at H
                      have c11b0 : (a0 == 47) = true := beq_iff_eq.mpr c11
                      have c11b1 : (a0 != 47) = false := bne_eq_false_iff_eq.mpr c11
                      clear c11
                      obtain rfl := Option.some.inj H
                      go_enter Tryd.func6, Tryd.ntmps6
                      go_wp2
                      go_ret
                      exact ⟨by first | rfl | (simp [errW_none, errW_some] <;> rfl) | (simp [*, errW_none, errW_some] <;> rfl), by repeat (first | (with_reducible first | exact HB.out | apply below_alloc | apply pw_below_drewN | apply below_drew1) | exact HB.out)⟩
                    · rw [if_neg c11] at H
                      have c11b0 : (a0 == 47) = false := beq_eq_false_iff_ne.mpr c11
                      have c11b1 : (a0 != 47) = true := bne_iff_ne.mpr c11
                      by_cases c12 : a0 = 50
                      · rw [if_pos c12] at H
                        have c12b0 : (a0 == 50) = true := beq_iff_eq.mpr c12
                        have c12b1 : (a0 != 50) = false := bne_eq_false_iff_eq.mpr c12
                        clear c12
                        obtain rfl := Option.some.inj H
                        go_enter Tryd.func6, Tryd.ntmps6
                        go_wp2
                        go_ret
                        exact ⟨by first | rfl | (simp [errW_none, errW_some] <;> rfl) | (simp [*, errW_none, errW_some] <;> rfl), by repeat (first | (with_reducible first | exact HB.out | apply below_alloc | apply pw_below_drewN | apply below_drew1) | exact HB.out)⟩
                      · rw [if_neg c12] at H
                        have c12b0 : (a0 == 50) = false := beq_eq_false_iff_ne.mpr c12
                        have c12b1 : (a0 != 50) = true := bne_iff_ne.mpr c12
                        by_cases c13 : a0 = 51
                        · rw [if_pos c13] at H
                          have c13b0 : (a0 == 51) = true := beq_iff_eq.mpr c13
                          have c13b1 : (a0 != 51) = false := bne_eq_false_iff_eq.mpr c13
                          clear c13
                          obtain rfl := Option.some.inj H
                          go_enter Tryd.func6, Tryd.ntmps6
                          go_wp2
                          go_ret
                          exact ⟨by first | rfl | (simp [errW_none, errW_some] <;> rfl) | (simp [*, errW_none, errW_some] <;> rfl), by repeat (first | (with_reducible first | exact HB.out | apply below_alloc | apply pw_below_drewN | apply below_drew1) | exact HB.out)⟩
                        · rw [if_neg c13] at H
                          have c13b0 : (a0 == 51) = false := beq_eq_false_iff_ne.mpr c13
                          have c13b1 : (a0 != 51) = true := bne_iff_ne.mpr c13
                          by_cases c14 : a0 = 70
                          · rw [if_pos c14] at H
                            have c14b0 : (a0 == 70) = true := beq_iff_eq.mpr c14
                            have c14b1 : (a0 != 70) = false := bne_eq_false_iff_eq.mpr c14
                            clear c14
                            obtain rfl := Option.some.inj H
                            go_enter Tryd.func6, Tryd.ntmps6
                            go_wp2
                            go_ret
                            exact ⟨by first | rfl | (simp [errW_none, errW_some] <;> rfl) | (simp [*, errW_none, errW_some] <;> rfl), by repeat (first | (with_reducible first | exact HB.out | apply below_alloc | apply pw_below_drewN | apply below_drew1) | exact HB.out)⟩
                          · rw [if_neg c14] at H
                            have c14b0 : (a0 == 70) = false := beq_eq_false_iff_ne.mpr c14
                            have c14b1 : (a0 != 70) = true := bne_iff_ne.mpr c14
                            by_cases c15 : a0 = 71
                            · rw [if_pos c15] at H
                              have c15b0 : (a0 == 71) = true := beq_iff_eq.mpr c15
                              have c15b1 : (a0 != 71) = false := bne_eq_false_iff_eq.mpr c15
                              clear c15
                              obtain rfl := Option.some.inj H
                              go_enter Tryd.func6, Tryd.ntmps6
                              go_wp2
                              go_ret
                              exact ⟨by first | rfl | (simp [errW_none, errW_some] <;> rfl) | (simp [*, errW_none, errW_some] <;> rfl), by repeat (first | (with_reducible first | exact HB.out | apply below_alloc | apply pw_below_drewN | apply below_drew1) | exact HB.out)⟩
                            · rw [if_neg c15] at H
                              have c15b0 : (a0 == 71) = false := beq_eq_false_iff_ne.mpr c15
                              have c15b1 : (a0 != 71) = true := bne_iff_ne.mpr c15
                              by_cases c16 : a0 = 72
                              · rw [if_pos c16] at H
                                have c16b0 : (a0 == 72) = true := beq_iff_eq.mpr c16
                                have c16b1 : (a0 != 72) = false := bne_eq_false_iff_eq.mpr c16
                                clear c16
                                obtain rfl := Option.some.inj H
                                go_enter Tryd.func6, Tryd.ntmps6
                                go_wp2
                                go_ret
                                exact ⟨by first | rfl | (simp [errW_none, errW_some] <;> rfl) | (simp [*, errW_none, errW_some] <;> rfl), by repeat (first | (with_reducible first | exact HB.out | apply below_alloc | apply pw_below_drewN | apply below_drew1) | exact HB.out)⟩
                              · rw [if_neg c16] at H
                                have c16b0 : (a0 == 72) = false := beq_eq_false_iff_ne.mpr c16
                                have c16b1 : (a0 != 72) = true := bne_iff_ne.mpr c16
                                by_cases c17 : a0 = 73
                                · rw [if_pos c17] at H
                                  have c17b0 : (a0 == 73) = true := beq_iff_eq.mpr c17
                                  have c17b1 : (a0 != 73) = false := bne_eq_false_iff_eq.mpr c17
                                  clear c17
                                  obtain rfl := Option.some.inj H
                                  go_enter Tryd.func6, Tryd.ntmps6
                                  go_wp2
                                  go_ret
                                  exact ⟨by first | rfl | (simp [errW_none, errW_some] <;> rfl) | (simp [*, errW_none, errW_some] <;> rfl), by repeat (first | (with_reducible first | exact HB.out | apply below_alloc | apply pw_below_drewN | apply below_drew1) | exact HB.out)⟩
                                · rw [if_neg c17] at H
                                  have c17b0 : (a0 == 73) = false := beq_eq_false_iff_ne.mpr c17
                                  have c17b1 : (a0 != 73) = true := bne_iff_ne.mpr c17
                                  by_cases c18 : a0 = 74
                                  · rw [if_pos c18] at H
                                    have c18b0 : (a0 == 74) = true := beq_iff_eq.mpr c18
                                    have c18b1 : (a0 != 74) = false := bne_eq_false_iff_eq.mpr c18
                                    clear c18
                                    obtain rfl := Option.some.inj H
                                    go_enter Tryd.func6, Tryd.ntmps6
                                    go_wp2
                                    go_ret
                                    exact ⟨by first | rfl | (simp [errW_none, errW_some] <;> rfl) | (simp [*, errW_none, errW_some] <;> rfl), by repeat (first | (with_reducible first | exact HB.out | apply below_alloc | apply pw_below_drewN | apply below_drew1) | exact HB.out)⟩
                                  · rw [if_neg c18] at H
                                    have c18b0 : (a0 == 74) = false := beq_eq_false_iff_ne.mpr c18
                                    have c18b1 : (a0 != 74) = true := bne_iff_ne.mpr c18
                                    by_cases c19 : a0 = 75
                                    · rw [if_pos c19] at H
                                      have c19b0 : (a0 == 75) = true := beq_iff_eq.mpr c19
                                      have c19b1 : (a0 != 75) = false := bne_eq_false_iff_eq.mpr c19
                                      clear c19
                                      obtain rfl := Option.some.inj H
                                      go_enter Tryd.func6, Tryd.ntmps6
                                      go_wp2
                                      go_ret
                                      exact ⟨by first | rfl | (simp [errW_none, errW_some] <;> rfl) | (simp [*, errW_none, errW_some] <;> rfl), by repeat (first | (with_reducible first | exact HB.out | apply below_alloc | apply pw_below_drewN | apply below_drew1) | exact HB.out)⟩
                                    · rw [if_neg c19] at H
                                      have c19b0 : (a0 == 75) = false := beq_eq_false_iff_ne.mpr c19
                                      have c19b1 : (a0 != 75) = true := bne_iff_ne.mpr c19
                                      by_cases c20 : a0 = 90
                                      · rw [if_pos c20] at H
                                        have c20b0 : (a0 == 90) = true := beq_iff_eq.mpr c20
                                        have c20b1 : (a0 != 90) = false := bne_eq_false_iff_eq.mpr c20
                                        clear c20
                                        obtain rfl := Option.some.inj H
                                        go_enter Tryd.func6, Tryd.ntmps6
                                        go_wp2
                                        go_ret
                                        exact ⟨by first | rfl | (simp [errW_none, errW_some] <;> rfl) | (simp [*, errW_none, errW_some] <;> rfl), by repeat (first | (with_reducible first | exact HB.out | apply below_alloc | apply pw_below_drewN | apply below_drew1) | exact HB.out)⟩
                                      · rw [if_neg c20] at H
                                        have c20b0 : (a0 == 90) = false := beq_eq_false_iff_ne.mpr c20
                                        have c20b1 : (a0 != 90) = true := bne_iff_ne.mpr c20
                                        by_cases c21 : a0 = 91
                                        · rw [if_pos c21] at H
                                          have c21b0 : (a0 == 91) = true := beq_iff_eq.mpr c21
                                          have c21b1 : (a0 != 91) = false := bne_eq_false_iff_eq.mpr c21
                                          clear c21
                                          obtain rfl := Option.some.inj H
                                          go_enter Tryd.func6, Tryd.ntmps6
                                          go_wp2
                                          go_ret
                                          exact ⟨by first | rfl | (simp [errW_none, errW_some] <;> rfl) | (simp [*, errW_none, errW_some] <;> rfl), by repeat (first | (with_reducible first | exact HB.out | apply below_alloc | apply pw_below_drewN | apply below_drew1) | exact HB.out)⟩
                                        · rw [if_neg c21] at H
                                          have c21b0 : (a0 == 91) = false := beq_eq_false_iff_ne.mpr c21
                                          have c21b1 : (a0 != 91) = true := bne_iff_ne.mpr c21
                                          by_cases c22 : a0 = 100
                                          · rw [if_pos c22] at H
                                            have c22b0 : (a0 == 100) = true := beq_iff_eq.mpr c22
                                            have c22b1 : (a0 != 100) = false := bne_eq_false_iff_eq.mpr c22
                                            clear c22
                                            obtain rfl := Option.some.inj H
                                            go_enter Tryd.func6, Tryd.ntmps6
                                            go_wp2
                                            go_ret
                                            exact ⟨by first | rfl | (simp [errW_none, errW_some] <;> rfl) | (simp [*, errW_none, errW_some] <;> rfl), by repeat (first | (with_reducible first | exact HB.out | apply below_alloc | apply pw_below_drewN | apply below_drew1) | exact HB.out)⟩
                                          · rw [if_neg c22] at H
                                            have c22b0 : (a0 == 100) = false := beq_eq_false_iff_ne.mpr c22
                                            have c22b1 : (a0 != 100) = true := bne_iff_ne.mpr c22
                                            by_cases c23 : a0 = 101
                                            · rw [if_pos c23] at H
                                              have c23b0 : (a0 == 101) = true := beq_iff_eq.mpr c23
                                              have c23b1 : (a0 != 101) = false := bne_eq_false_iff_eq.mpr c23
                                              clear c23
                                              obtain rfl := Option.some.inj H
                                              go_enter Tryd.func6, Tryd.ntmps6
                                              go_wp2
                                              go_ret
                                              exact ⟨by first | rfl | (simp [errW_none, errW_some] <;> rfl) | (simp [*, errW_none, errW_some] <;> rfl), by repeat (first | (with_reducible first | exact HB.out | apply below_alloc | apply pw_below_drewN | apply below_drew1) | exact HB.out)⟩
                                            · rw [if_neg c23] at H
                                              have c23b0 : (a0 == 101) = false := beq_eq_false_iff_ne.mpr c23
                                              have c23b1 : (a0 != 101) = true := bne_iff_ne.mpr c23
                                              by_cases c24 : a0 = 110
                                              · rw [if_pos c24] at H
                                                have c24b0 : (a0 == 110) = true := beq_iff_eq.mpr c24
                                                have c24b1 : (a0 != 110) = false := bne_eq_false_iff_eq.mpr c24
                                                clear c24
                                                obtain rfl := Option.some.inj H
                                                go_enter Tryd.func6, Tryd.ntmps6
                                                go_wp2
                                                go_ret
                                                exact ⟨by first | rfl | (simp [errW_none, errW_some] <;> rfl) | (simp [*, errW_none, errW_some] <;> rfl), by repeat (first | (with_reducible first | exact HB.out | apply below_alloc | apply pw_below_drewN | apply below_drew1) | exact HB.out)⟩
                                              · rw [if_neg c24] at H
                                                have c24b0 : (a0 == 110) = false := beq_eq_false_iff_ne.mpr c24
                                                have c24b1 : (a0 != 110) = true := bne_iff_ne.mpr c24
                                                by_cases c25 : a0 = 111
                                                · rw [if_pos c25] at H
                                                  have c25b0 : (a0 == 111) = true := beq_iff_eq.mpr c25
                                                  have c25b1 : (a0 != 111) = false := bne_eq_false_iff_eq.mpr c25
                                                  clear c25
                                                  obtain rfl := Option.some.inj H
                                                  go_enter Tryd.func6, Tryd.ntmps6
                                                  go_wp2
                                                  go_ret
                                                  exact ⟨by first | rfl | (simp [errW_none, errW_some] <;> rfl) | (simp [*, errW_none, errW_some] <;> rfl), by repeat (first | (with_reducible first | exact HB.out | apply below_alloc | apply pw_below_drewN | apply below_drew1) | exact HB.out)⟩
                                                · rw [if_neg c25] at H
                                                  have c25b0 : (a0 == 111) = false := beq_eq_false_iff_ne.mpr c25
                                                  have c25b1 : (a0 != 111) = true := bne_iff_ne.mpr c25
                                                  by_cases c26 : a0 = 112
                                                  · rw [if_pos c26] at H
                                                    have c26b0 : (a0 == 112) = true := beq_iff_eq.mpr c26
                                                    have c26b1 : (a0 != 112) = false := bne_eq_false_iff_eq.mpr c26
                                                    clear c26
                                                    obtain rfl := Option.some.inj H
                                                    go_enter Tryd.func6, Tryd.ntmps6
                                                    go_wp2
                                                    go_ret
                                                    exact ⟨by first | rfl | (simp [errW_none, errW_some] <;> rfl) | (simp [*, errW_none, errW_some] <;> rfl), by repeat (first | (with_reducible first | exact HB.out | apply below_alloc | apply pw_below_drewN | apply below_drew1) | exact HB.out)⟩
                                                  · rw [if_neg c26] at H
                                                    have c26b0 : (a0 == 112) = false := beq_eq_false_iff_ne.mpr c26
                                                    have c26b1 : (a0 != 112) = true := bne_iff_ne.mpr c26
                                                    by_cases c27 : a0 = 120
                                                    · rw [if_pos c27] at H
                                                      have c27b0 : (a0 == 120) = true := beq_iff_eq.mpr c27
                                                      have c27b1 : (a0 != 120) = false := bne_eq_false_iff_eq.mpr c27
                                                      clear c27
                                                      obtain rfl := Option.some.inj H
                                                      go_enter Tryd.func6, Tryd.ntmps6
                                                      go_wp2
                                                      go_ret
                                                      exact ⟨by first | rfl | (simp [errW_none, errW_some] <;> rfl) | (simp [*, errW_none, errW_some] <;> rfl), by repeat (first | (with_reducible first | exact HB.out | apply below_alloc | apply pw_below_drewN | apply below_drew1) | exact HB.out)⟩
                                                    · rw [if_neg c27] at H
                                                      have c27b0 : (a0 == 120) = false := beq_eq_false_iff_ne.mpr c27
                                                      have c27b1 : (a0 != 120) = true := bne_iff_ne.mpr c27
                                                      by_cases c28 : a0 = 121
                                                      · rw [if_pos c28] at H
                                                        have c28b0 : (a0 == 121) = true := beq_iff_eq.mpr c28
                                                        have c28b1 : (a0 != 121) = false := bne_eq_false_iff_eq.mpr c28
                                                        clear c28
                                                        obtain rfl := Option.some.inj H
                                                        go_enter Tryd.func6, Tryd.ntmps6
                                                        go_wp2
                                                        go_ret
                                                        exact ⟨by first | rfl | (simp [errW_none, errW_some] <;> rfl) | (simp [*, errW_none, errW_some] <;> rfl), by repeat (first | (with_reducible first | exact HB.out | apply below_alloc | apply pw_below_drewN | apply below_drew1) | exact HB.out)⟩
                                                      · rw [if_neg c28] at H
                                                        have c28b0 : (a0 == 121) = false := beq_eq_false_iff_ne.mpr c28
                                                        have c28b1 : (a0 != 121) = true := bne_iff_ne.mpr c28
                                                        by_cases c29 : a0 = 122
                                                        · rw [if_pos c29] at H
                                                          have c29b0 : (a0 == 122) = true := beq_iff_eq.mpr c29
                                                          have c29b1 : (a0 != 122) = false := bne_eq_false_iff_eq.mpr c29
                                                          clear c29
                                                          obtain rfl := Option.some.inj H
                                                          go_enter Tryd.func6, Tryd.ntmps6
                                                          go_wp2
                                                          go_ret
                                                          exact ⟨by first | rfl | (simp [errW_none, errW_some] <;> rfl) | (simp [*, errW_none, errW_some] <;> rfl), by repeat (first | (with_reducible first | exact HB.out | apply below_alloc | apply pw_below_drewN | apply below_drew1) | exact HB.out)⟩
                                                        · rw [if_neg c29] at H
                                                          have c29b0 : (a0 == 122) = false := beq_eq_false_iff_ne.mpr c29
                                                          have c29b1 : (a0 != 122) = true := bne_iff_ne.mpr c29
                                                          by_cases c30 : a0 = 123
                                                          · rw [if_pos c30] at H
                                                            have c30b0 : (a0 == 123) = true := beq_iff_eq.mpr c30
                                                            have c30b1 : (a0 != 123) = false := bne_eq_false_iff_eq.mpr c30
                                                            clear c30
                                                            obtain rfl := Option.some.inj H
                                                            go_enter Tryd.func6, Tryd.ntmps6
                                                            go_wp2
                                                            go_ret
                                                            exact ⟨by first | rfl | (simp [errW_none, errW_some] <;> rfl) | (simp [*, errW_none, errW_some] <;> rfl), by repeat (first | (with_reducible first | exact HB.out | apply below_alloc | apply pw_below_drewN | apply below_drew1) | exact HB.out)⟩
                                                          · rw [if_neg c30] at H
                                                            have c30b0 : (a0 == 123) = false := beq_eq_false_iff_ne.mpr c30
                                                            have c30b1 : (a0 != 123) = true := bne_iff_ne.mpr c30
                                                            by_cases c31 : a0 = 124
                                                            · rw [if_pos c31] at H
                                                              have c31b0 : (a0 == 124) = true := beq_iff_eq.mpr c31
                                                              have c31b1 : (a0 != 124) = false := bne_eq_false_iff_eq.mpr c31
                                                              clear c31
                                                              obtain rfl := Option.some.inj H
                                                              go_enter Tryd.func6, Tryd.ntmps6
                                                              go_wp2
                                                              go_ret
                                                              exact ⟨by first | rfl | (simp [errW_none, errW_some] <;> rfl) | (simp [*, errW_none, errW_some] <;> rfl), by repeat (first | (with_reducible first | exact HB.out | apply below_alloc | apply pw_below_drewN | apply below_drew1) | exact HB.out)⟩
                                                            · rw [if_neg c31] at H
                                                              have c31b0 : (a0 == 124) = false := beq_eq_false_iff_ne.mpr c31
                                                              have c31b1 : (a0 != 124) = true := bne_iff_ne.mpr c31
                                                              by_cases c32 : a0 = 125
                                                              · rw [if_pos c32] at H
                                                                have c32b0 : (a0 == 125) = true := beq_iff_eq.mpr c32
                                                                have c32b1 : (a0 != 125) = false := bne_eq_false_iff_eq.mpr c32
                                                                clear c32
                                                                obtain rfl := Option.some.inj H
                                                                go_enter Tryd.func6, Tryd.ntmps6
                                                                go_wp2
                                                                go_ret
                                                                exact ⟨by first | rfl | (simp [errW_none, errW_some] <;> rfl) | (simp [*, errW_none, errW_some] <;> rfl), by repeat (first | (with_reducible first | exact HB.out | apply below_alloc | apply pw_below_drewN | apply below_drew1) | exact HB.out)⟩
                                                              · rw [if_neg c32] at H
                                                                have c32b0 : (a0 == 125) = false := beq_eq_false_iff_ne.mpr c32
                                                                have c32b1 : (a0 != 125) = true := bne_iff_ne.mpr c32
                                                                replace H := Option.bind_eq_some_iff.mp H
                                                                obtain ⟨t102, A330, H⟩ := H
                                                                replace H : (if t102.toList = ([] : List UInt8) then (some (⟨#[101, 114, 114, 111, 114]⟩ : ByteArray)) else (if 6 + t102.size ≤ 9223372036854775807 then (some ((⟨#[101, 114, 114, 111, 114, 32]⟩ : ByteArray) ++ t102)) else (none))) = some r := H
                                                                have A33 := Aside0.mk A330
                                                                clear A330
                                                                by_cases c34 : t102.toList = ([] : List UInt8)
                                                                · rw [if_pos c34] at H
                                                                  have c34b0 : (t102.toList == ([] : List UInt8)) = true := beq_iff_eq.mpr c34
                                                                  have c34b1 : (t102.toList != ([] : List UInt8)) = false := bne_eq_false_iff_eq.mpr c34
                                                                  clear c34
                                                                  obtain rfl := Option.some.inj H
                                                                  go_enter Tryd.func6, Tryd.ntmps6
                                                                  go_wp2_with (first | ((with_reducible refine gate_callee (f := 9) rfl ?_); refine goesL_ (some 68) rfl rfl Tryd.func9 (by kernel_rfl) rfl #[.int .i64 a0] rfl (by (try simp only [List.map_toArray, List.map_cons, List.map_nil]); first | done | rfl | (simp only [List.length_drop, List.length_take]; rfl)) ?_; (with_reducible refine (octal_PutNumber.calls a0 t102 _ (LaidW.below hL (by repeat (first | (with_reducible first | exact HB.out | apply below_alloc | apply pw_below_drewN | apply below_drew1) | exact HB.out))) A33.out).mono ?_); rintro e w35 ⟨rfl, hb⟩; refine ⟨_, rfl, ?_⟩; have n0_ := Aside0.mk (below_step (by repeat (first | (with_reducible first | exact HB.out | apply below_alloc | apply pw_below_drewN | apply below_drew1) | exact HB.out)) hb); clear HB; have HB := n0_; clear n0_; (try clear hb); (try clear hb2); (try clear hk); (try clear hi)))
                                                                  go_ret
                                                                  exact ⟨by first | rfl | (simp [errW_none, errW_some] <;> rfl) | (simp [*, errW_none, errW_some] <;> rfl), by repeat (first | (with_reducible first | exact HB.out | apply below_alloc | apply pw_below_drewN | apply below_drew1) | exact HB.out)⟩
                                                                · rw [if_neg c34] at H
                                                                  have c34b0 : (t102.toList == ([] : List UInt8)) = false := beq_eq_false_iff_ne.mpr c34
                                                                  have c34b1 : (t102.toList != ([] : List UInt8)) = true := bne_iff_ne.mpr c34
                                                                  by_cases c36 : 6 + t102.size ≤ 9223372036854775807
                                                                  · rw [if_pos c36] at H
                                                                    have c36b0 := eq_true c36
                                                                    have c36b1 : decide (6 + t102.size ≤ 9223372036854775807) = true := decide_eq_true c36
                                                                    try have c36b2 : (9223372036854775807 < 6 + t102.size) = False := eq_false (Nat.not_lt.2 c36)
                                                                    obtain rfl := Option.some.inj H
                                                                    go_enter Tryd.func6, Tryd.ntmps6
                                                                    go_wp2_with (first | ((with_reducible refine gate_callee (f := 9) rfl ?_); refine goesL_ (some 68) rfl rfl Tryd.func9 (by kernel_rfl) rfl #[.int .i64 a0] rfl (by (try simp only [List.map_toArray, List.map_cons, List.map_nil]); first | done | rfl | (simp only [List.length_drop, List.length_take]; rfl)) ?_; (with_reducible refine (octal_PutNumber.calls a0 t102 _ (LaidW.below hL (by repeat (first | (with_reducible first | exact HB.out | apply below_alloc | apply pw_below_drewN | apply below_drew1) | exact HB.out))) A33.out).mono ?_); rintro e w37 ⟨rfl, hb⟩; refine ⟨_, rfl, ?_⟩; have n0_ := Aside0.mk (below_step (by repeat (first | (with_reducible first | exact HB.out | apply below_alloc | apply pw_below_drewN | apply below_drew1) | exact HB.out)) hb); clear HB; have HB := n0_; clear n0_; (try clear hb); (try clear hb2); (try clear hk); (try clear hi)))
                                                                    go_ret
                                                                    exact ⟨by first | rfl | (simp [errW_none, errW_some] <;> rfl) | (simp [*, errW_none, errW_some] <;> rfl), by repeat (first | (with_reducible first | exact HB.out | apply below_alloc | apply pw_below_drewN | apply below_drew1) | exact HB.out)⟩
                                                                  · rw [if_neg c36] at H
                                                                    exact absurd H (by simp)

/-! ### exec_Message: function 4 -/
def exec_Message.f (a0 : Int) (a1 : ByteArray) : Option (ByteArray) := if a1.toList = ([] : List UInt8) then ((exec_words.f a0).bind fun t103 => (some t103)) else ((exec_words.f a0).bind fun t104 => (if t104.size + 2 ≤ 9223372036854775807 then (if (t104 ++ (⟨#[58, 32]⟩ : ByteArray)).size + a1.size ≤ 9223372036854775807 then (some ((t104 ++ (⟨#[58, 32]⟩ : ByteArray)) ++ a1)) else (none)) else (none)))
set_option maxHeartbeats 8000000 in
set_option maxRecDepth 100000 in
theorem exec_Message.calls (a0 : Int) (a1 : ByteArray) (r : ByteArray) (w : World) (hL : LaidW w) (h : exec_Message.f a0 a1 = some r) :
    Calls Tryd.prog 4 #[.int .i64 a0, .string a1] w fun e w' => e = .returned (.string r) ∧ Below w.heap.size w w' := by
  have HB := Aside0.mk (Below.refl w.heap.size w)
  have H : (if a1.toList = ([] : List UInt8) then ((exec_words.f a0).bind fun t103 => (some t103)) else ((exec_words.f a0).bind fun t104 => (if t104.size + 2 ≤ 9223372036854775807 then (if (t104 ++ (⟨#[58, 32]⟩ : ByteArray)).size + a1.size ≤ 9223372036854775807 then (some ((t104 ++ (⟨#[58, 32]⟩ : ByteArray)) ++ a1)) else (none)) else (none)))) = some r := h
  clear h
  by_cases c3 : a1.toList = ([] : List UInt8)
  · rw [if_pos c3] at H
    have c3b0 : (a1.toList == ([] : List UInt8)) = true := beq_iff_eq.mpr c3
    have c3b1 : (a1.toList != ([] : List UInt8)) = false := bne_eq_false_iff_eq.mpr c3
    clear c3
    replace H := Option.bind_eq_some_iff.mp H
    obtain ⟨t103, A40, H⟩ := H
    replace H : (some t103) = some r := H
    have A4 := Aside0.mk A40
    clear A40
    obtain rfl := Option.some.inj H
    go_enter Tryd.func4, Tryd.ntmps4
    go_wp2_with (first | ((with_reducible refine gate_callee (f := 6) rfl ?_); refine goesL_ (some 8) rfl rfl Tryd.func6 (by kernel_rfl) rfl #[.int .i64 a0] rfl (by (try simp only [List.map_toArray, List.map_cons, List.map_nil]); first | done | rfl | (simp only [List.length_drop, List.length_take]; rfl)) ?_; (with_reducible refine (exec_words.calls a0 t103 _ (LaidW.below hL (by repeat (first | (with_reducible first | exact HB.out | apply below_alloc | apply pw_below_drewN | apply below_drew1) | exact HB.out))) A4.out).mono ?_); rintro e w5 ⟨rfl, hb⟩; refine ⟨_, rfl, ?_⟩; have n0_ := Aside0.mk (below_step (by repeat (first | (with_reducible first | exact HB.out | apply below_alloc | apply pw_below_drewN | apply below_drew1) | exact HB.out)) hb); clear HB; have HB := n0_; clear n0_; (try clear hb); (try clear hb2); (try clear hk); (try clear hi)))
    go_ret
    exact ⟨by first | rfl | (simp [errW_none, errW_some] <;> rfl) | (simp [*, errW_none, errW_some] <;> rfl), by repeat (first | (with_reducible first | exact HB.out | apply below_alloc | apply pw_below_drewN | apply below_drew1) | exact HB.out)⟩
  · rw [if_neg c3] at H
    have c3b0 : (a1.toList == ([] : List UInt8)) = false := beq_eq_false_iff_ne.mpr c3
    have c3b1 : (a1.toList != ([] : List UInt8)) = true := bne_iff_ne.mpr c3
    replace H := Option.bind_eq_some_iff.mp H
    obtain ⟨t104, A60, H⟩ := H
    replace H : (if t104.size + 2 ≤ 9223372036854775807 then (if (t104 ++ (⟨#[58, 32]⟩ : ByteArray)).size + a1.size ≤ 9223372036854775807 then (some ((t104 ++ (⟨#[58, 32]⟩ : ByteArray)) ++ a1)) else (none)) else (none)) = some r := H
    have A6 := Aside0.mk A60
    clear A60
    by_cases c7 : t104.size + 2 ≤ 9223372036854775807
    · rw [if_pos c7] at H
      have c7b0 := eq_true c7
      have c7b1 : decide (t104.size + 2 ≤ 9223372036854775807) = true := decide_eq_true c7
      try have c7b2 : (9223372036854775807 < t104.size + 2) = False := eq_false (Nat.not_lt.2 c7)
      by_cases c8 : (t104 ++ (⟨#[58, 32]⟩ : ByteArray)).size + a1.size ≤ 9223372036854775807
      · rw [if_pos c8] at H
        have c8b0 := eq_true c8
        have c8b1 : decide ((t104 ++ (⟨#[58, 32]⟩ : ByteArray)).size + a1.size ≤ 9223372036854775807) = true := decide_eq_true c8
        try have c8b2 : (9223372036854775807 < (t104 ++ (⟨#[58, 32]⟩ : ByteArray)).size + a1.size) = False := eq_false (Nat.not_lt.2 c8)
        try (have c8b3 := c8; simp [size_mk] at c8b3)
        obtain rfl := Option.some.inj H
        go_enter Tryd.func4, Tryd.ntmps4
        go_wp2_with (first | ((with_reducible refine gate_callee (f := 6) rfl ?_); refine goesL_ (some 10) rfl rfl Tryd.func6 (by kernel_rfl) rfl #[.int .i64 a0] rfl (by (try simp only [List.map_toArray, List.map_cons, List.map_nil]); first | done | rfl | (simp only [List.length_drop, List.length_take]; rfl)) ?_; (with_reducible refine (exec_words.calls a0 t104 _ (LaidW.below hL (by repeat (first | (with_reducible first | exact HB.out | apply below_alloc | apply pw_below_drewN | apply below_drew1) | exact HB.out))) A6.out).mono ?_); rintro e w9 ⟨rfl, hb⟩; refine ⟨_, rfl, ?_⟩; have n0_ := Aside0.mk (below_step (by repeat (first | (with_reducible first | exact HB.out | apply below_alloc | apply pw_below_drewN | apply below_drew1) | exact HB.out)) hb); clear HB; have HB := n0_; clear n0_; (try clear hb); (try clear hb2); (try clear hk); (try clear hi)))
        go_ret
        exact ⟨by first | rfl | (simp [errW_none, errW_some] <;> rfl) | (simp [*, errW_none, errW_some] <;> rfl), by repeat (first | (with_reducible first | exact HB.out | apply below_alloc | apply pw_below_drewN | apply below_drew1) | exact HB.out)⟩
      · rw [if_neg c8] at H
        exact absurd H (by simp)
    · rw [if_neg c7] at H
      exact absurd H (by simp)

/-! ### mullionref13_phrase: function 7 -/
def mullionref13_phrase.l0 : Nat → Int → List Int → List ByteArray → Int → Option (ByteArray)
  | 0, _, _, _, _ => none
  | k + 1, x0, x3, x4, x5 => if x5 < (x3.length : Int) then (if 0 ≤ x5 then (if (rd x3 x5) = x0 then (if x5 < (x4.length : Int) then (some (rdOf ByteArray.empty x4 x5)) else (none)) else (mullionref13_phrase.l0 k x0 x3 x4 (wrap64 (x5 + 1)))) else (none)) else (some (⟨#[]⟩ : ByteArray))
def mullionref13_phrase.f (k : Nat) (a0 : Int) : Option (ByteArray) := mullionref13_phrase.l0 k a0 (([1, 2, 3, 40, 41, 42, 44, 45, 46, 47, 50, 51, 70, 71, 72, 73, 74, 75, 90, 91, 100, 101, 110, 111, 112, 120, 121, 122, 123, 124, 125] : List Int)) (([(⟨#[98, 97, 100, 32, 97, 114, 103, 117, 109, 101, 110, 116]⟩ : ByteArray), (⟨#[116, 111, 111, 32, 108, 111, 110, 103]⟩ : ByteArray), (⟨#[110, 111, 32, 114, 111, 111, 109]⟩ : ByteArray), (⟨#[110, 111, 116, 32, 97, 32, 108, 97, 121, 111, 117, 116]⟩ : ByteArray), (⟨#[98, 97, 100, 32, 115, 105, 122, 101]⟩ : ByteArray), (⟨#[110, 111, 32, 115, 117, 99, 104, 32, 112, 97, 110, 101]⟩ : ByteArray), (⟨#[110, 111, 32, 115, 112, 97, 99, 101]⟩ : ByteArray), (⟨#[116, 111, 111, 32, 109, 97, 110, 121, 32, 112, 97, 110, 101, 115]⟩ : ByteArray), (⟨#[111, 110, 108, 121, 32, 112, 97, 110, 101]⟩ : ByteArray), (⟨#[110, 111, 32, 98, 111, 114, 100, 101, 114]⟩ : ByteArray), (⟨#[98, 97, 100, 32, 108, 97, 121, 111, 117, 116]⟩ : ByteArray), (⟨#[98, 97, 100, 32, 115, 117, 109]⟩ : ByteArray), (⟨#[110, 111, 32, 115, 117, 99, 104, 32, 115, 101, 115, 115, 105, 111, 110]⟩ : ByteArray), (⟨#[110, 111, 32, 115, 117, 99, 104, 32, 119, 105, 110, 100, 111, 119]⟩ : ByteArray), (⟨#[110, 111, 32, 115, 117, 99, 104, 32, 105, 110, 100, 101, 120]⟩ : ByteArray), (⟨#[98, 97, 100, 32, 110, 97, 109, 101]⟩ : ByteArray), (⟨#[105, 110, 32, 117, 115, 101]⟩ : ByteArray), (⟨#[111, 110, 108, 121, 32, 111, 110, 101]⟩ : ByteArray), (⟨#[111, 112, 101, 110, 32, 113, 117, 111, 116, 101]⟩ : ByteArray), (⟨#[116, 111, 111, 32, 109, 97, 110, 121, 32, 119, 111, 114, 100, 115]⟩ : ByteArray), (⟨#[98, 97, 100, 32, 102, 111, 114, 109, 97, 116]⟩ : ByteArray), (⟨#[116, 111, 111, 32, 100, 101, 101, 112]⟩ : ByteArray), (⟨#[110, 111, 116, 32, 102, 111, 117, 110, 100]⟩ : ByteArray), (⟨#[97, 109, 98, 105, 103, 117, 111, 117, 115]⟩ : ByteArray), (⟨#[110, 111, 32, 99, 117, 114, 114, 101, 110, 116, 32, 115, 101, 115, 115, 105, 111, 110]⟩ : ByteArray), (⟨#[117, 110, 107, 110, 111, 119, 110, 32, 99, 111, 109, 109, 97, 110, 100]⟩ : ByteArray), (⟨#[97, 109, 98, 105, 103, 117, 111, 117, 115, 32, 99, 111, 109, 109, 97, 110, 100]⟩ : ByteArray), (⟨#[117, 110, 107, 110, 111, 119, 110, 32, 102, 108, 97, 103]⟩ : ByteArray), (⟨#[118, 97, 108, 117, 101, 32, 110, 101, 101, 100, 101, 100]⟩ : ByteArray), (⟨#[119, 114, 111, 110, 103, 32, 110, 117, 109, 98, 101, 114, 32, 111, 102, 32, 119, 111, 114, 100, 115]⟩ : ByteArray), (⟨#[98, 97, 100, 32, 118, 97, 108, 117, 101]⟩ : ByteArray)] : List ByteArray)) 0
theorem mullionref13_phrase.mono_l : ∀ k, (∀ y0 y1 y2 y3, LeO (mullionref13_phrase.l0 k y0 y1 y2 y3) (mullionref13_phrase.l0 (k + 1) y0 y1 y2 y3))
  | 0 => fun _ _ _ _ r h => by simp [mullionref13_phrase.l0] at h
  | k + 1 => by
    have ih0 := mullionref13_phrase.mono_l k
    · intro y0 y1 y2 y3
      unfold mullionref13_phrase.l0
      repeat' first
      | (with_reducible exact ih0 _ _ _ _)
      | (with_reducible exact LeO.refl _)
      | (with_reducible exact LeO.none _)
      | (with_reducible refine LeO.ite ?_ ?_)
      | (with_reducible refine LeO.bind ?_ (fun _ => ?_))
      | exact ih0 _ _ _ _
      | exact LeO.none _
      | refine LeO.ite ?_ ?_
      | refine LeO.bind ?_ (fun _ => ?_)
theorem mullionref13_phrase.mono : ∀ a0 k, LeO (mullionref13_phrase.f k a0) (mullionref13_phrase.f (k + 1) a0) := by
  intro a0 k
  have ih0 := mullionref13_phrase.mono_l k
  unfold mullionref13_phrase.f
  repeat' first
      | (with_reducible exact ih0 _ _ _ _)
      | (with_reducible exact LeO.refl _)
      | (with_reducible exact LeO.none _)
      | (with_reducible refine LeO.ite ?_ ?_)
      | (with_reducible refine LeO.bind ?_ (fun _ => ?_))
      | exact ih0 _ _ _ _
      | exact LeO.none _
      | refine LeO.ite ?_ ?_
      | refine LeO.bind ?_ (fun _ => ?_)
set_option maxHeartbeats 8000000 in
set_option maxRecDepth 100000 in
theorem mullionref13_phrase.calls (k : Nat) (a0 : Int) (r : ByteArray) (w : World) (h : mullionref13_phrase.f k a0 = some r) :
    Calls Tryd.prog 7 #[.int .i64 a0] w fun e w' => e = .returned (.string r) ∧ Below w.heap.size w w' := by
  have HB := Aside0.mk (Below.refl w.heap.size w)
  have H : (mullionref13_phrase.l0 k a0 (([1, 2, 3, 40, 41, 42, 44, 45, 46, 47, 50, 51, 70, 71, 72, 73, 74, 75, 90, 91, 100, 101, 110, 111, 112, 120, 121, 122, 123, 124, 125] : List Int)) (([(⟨#[98, 97, 100, 32, 97, 114, 103, 117, 109, 101, 110, 116]⟩ : ByteArray), (⟨#[116, 111, 111, 32, 108, 111, 110, 103]⟩ : ByteArray), (⟨#[110, 111, 32, 114, 111, 111, 109]⟩ : ByteArray), (⟨#[110, 111, 116, 32, 97, 32, 108, 97, 121, 111, 117, 116]⟩ : ByteArray), (⟨#[98, 97, 100, 32, 115, 105, 122, 101]⟩ : ByteArray), (⟨#[110, 111, 32, 115, 117, 99, 104, 32, 112, 97, 110, 101]⟩ : ByteArray), (⟨#[110, 111, 32, 115, 112, 97, 99, 101]⟩ : ByteArray), (⟨#[116, 111, 111, 32, 109, 97, 110, 121, 32, 112, 97, 110, 101, 115]⟩ : ByteArray), (⟨#[111, 110, 108, 121, 32, 112, 97, 110, 101]⟩ : ByteArray), (⟨#[110, 111, 32, 98, 111, 114, 100, 101, 114]⟩ : ByteArray), (⟨#[98, 97, 100, 32, 108, 97, 121, 111, 117, 116]⟩ : ByteArray), (⟨#[98, 97, 100, 32, 115, 117, 109]⟩ : ByteArray), (⟨#[110, 111, 32, 115, 117, 99, 104, 32, 115, 101, 115, 115, 105, 111, 110]⟩ : ByteArray), (⟨#[110, 111, 32, 115, 117, 99, 104, 32, 119, 105, 110, 100, 111, 119]⟩ : ByteArray), (⟨#[110, 111, 32, 115, 117, 99, 104, 32, 105, 110, 100, 101, 120]⟩ : ByteArray), (⟨#[98, 97, 100, 32, 110, 97, 109, 101]⟩ : ByteArray), (⟨#[105, 110, 32, 117, 115, 101]⟩ : ByteArray), (⟨#[111, 110, 108, 121, 32, 111, 110, 101]⟩ : ByteArray), (⟨#[111, 112, 101, 110, 32, 113, 117, 111, 116, 101]⟩ : ByteArray), (⟨#[116, 111, 111, 32, 109, 97, 110, 121, 32, 119, 111, 114, 100, 115]⟩ : ByteArray), (⟨#[98, 97, 100, 32, 102, 111, 114, 109, 97, 116]⟩ : ByteArray), (⟨#[116, 111, 111, 32, 100, 101, 101, 112]⟩ : ByteArray), (⟨#[110, 111, 116, 32, 102, 111, 117, 110, 100]⟩ : ByteArray), (⟨#[97, 109, 98, 105, 103, 117, 111, 117, 115]⟩ : ByteArray), (⟨#[110, 111, 32, 99, 117, 114, 114, 101, 110, 116, 32, 115, 101, 115, 115, 105, 111, 110]⟩ : ByteArray), (⟨#[117, 110, 107, 110, 111, 119, 110, 32, 99, 111, 109, 109, 97, 110, 100]⟩ : ByteArray), (⟨#[97, 109, 98, 105, 103, 117, 111, 117, 115, 32, 99, 111, 109, 109, 97, 110, 100]⟩ : ByteArray), (⟨#[117, 110, 107, 110, 111, 119, 110, 32, 102, 108, 97, 103]⟩ : ByteArray), (⟨#[118, 97, 108, 117, 101, 32, 110, 101, 101, 100, 101, 100]⟩ : ByteArray), (⟨#[119, 114, 111, 110, 103, 32, 110, 117, 109, 98, 101, 114, 32, 111, 102, 32, 119, 111, 114, 100, 115]⟩ : ByteArray), (⟨#[98, 97, 100, 32, 118, 97, 108, 117, 101]⟩ : ByteArray)] : List ByteArray)) 0) = some r := h
  clear h
  obtain ⟨y105, hy105⟩ : ∃ y_ : List Int, y_ = (([1, 2, 3, 40, 41, 42, 44, 45, 46, 47, 50, 51, 70, 71, 72, 73, 74, 75, 90, 91, 100, 101, 110, 111, 112, 120, 121, 122, 123, 124, 125] : List Int)) := ⟨_, rfl⟩
  replace H : (mullionref13_phrase.l0 k a0 y105 (([(⟨#[98, 97, 100, 32, 97, 114, 103, 117, 109, 101, 110, 116]⟩ : ByteArray), (⟨#[116, 111, 111, 32, 108, 111, 110, 103]⟩ : ByteArray), (⟨#[110, 111, 32, 114, 111, 111, 109]⟩ : ByteArray), (⟨#[110, 111, 116, 32, 97, 32, 108, 97, 121, 111, 117, 116]⟩ : ByteArray), (⟨#[98, 97, 100, 32, 115, 105, 122, 101]⟩ : ByteArray), (⟨#[110, 111, 32, 115, 117, 99, 104, 32, 112, 97, 110, 101]⟩ : ByteArray), (⟨#[110, 111, 32, 115, 112, 97, 99, 101]⟩ : ByteArray), (⟨#[116, 111, 111, 32, 109, 97, 110, 121, 32, 112, 97, 110, 101, 115]⟩ : ByteArray), (⟨#[111, 110, 108, 121, 32, 112, 97, 110, 101]⟩ : ByteArray), (⟨#[110, 111, 32, 98, 111, 114, 100, 101, 114]⟩ : ByteArray), (⟨#[98, 97, 100, 32, 108, 97, 121, 111, 117, 116]⟩ : ByteArray), (⟨#[98, 97, 100, 32, 115, 117, 109]⟩ : ByteArray), (⟨#[110, 111, 32, 115, 117, 99, 104, 32, 115, 101, 115, 115, 105, 111, 110]⟩ : ByteArray), (⟨#[110, 111, 32, 115, 117, 99, 104, 32, 119, 105, 110, 100, 111, 119]⟩ : ByteArray), (⟨#[110, 111, 32, 115, 117, 99, 104, 32, 105, 110, 100, 101, 120]⟩ : ByteArray), (⟨#[98, 97, 100, 32, 110, 97, 109, 101]⟩ : ByteArray), (⟨#[105, 110, 32, 117, 115, 101]⟩ : ByteArray), (⟨#[111, 110, 108, 121, 32, 111, 110, 101]⟩ : ByteArray), (⟨#[111, 112, 101, 110, 32, 113, 117, 111, 116, 101]⟩ : ByteArray), (⟨#[116, 111, 111, 32, 109, 97, 110, 121, 32, 119, 111, 114, 100, 115]⟩ : ByteArray), (⟨#[98, 97, 100, 32, 102, 111, 114, 109, 97, 116]⟩ : ByteArray), (⟨#[116, 111, 111, 32, 100, 101, 101, 112]⟩ : ByteArray), (⟨#[110, 111, 116, 32, 102, 111, 117, 110, 100]⟩ : ByteArray), (⟨#[97, 109, 98, 105, 103, 117, 111, 117, 115]⟩ : ByteArray), (⟨#[110, 111, 32, 99, 117, 114, 114, 101, 110, 116, 32, 115, 101, 115, 115, 105, 111, 110]⟩ : ByteArray), (⟨#[117, 110, 107, 110, 111, 119, 110, 32, 99, 111, 109, 109, 97, 110, 100]⟩ : ByteArray), (⟨#[97, 109, 98, 105, 103, 117, 111, 117, 115, 32, 99, 111, 109, 109, 97, 110, 100]⟩ : ByteArray), (⟨#[117, 110, 107, 110, 111, 119, 110, 32, 102, 108, 97, 103]⟩ : ByteArray), (⟨#[118, 97, 108, 117, 101, 32, 110, 101, 101, 100, 101, 100]⟩ : ByteArray), (⟨#[119, 114, 111, 110, 103, 32, 110, 117, 109, 98, 101, 114, 32, 111, 102, 32, 119, 111, 114, 100, 115]⟩ : ByteArray), (⟨#[98, 97, 100, 32, 118, 97, 108, 117, 101]⟩ : ByteArray)] : List ByteArray)) 0) = some r := by first | (rw [hy105]; with_reducible exact H) | (have H2_ := (Option.bind_some _ _).symm.trans H; rw [hy105]; with_reducible exact H2_) | (have H2_ := (Option.bind_some _ _).symm.trans H; with_reducible exact H2_) | with_reducible exact H | (rw [hy105]; exact H) | exact H
  have Ny105 := Aside0.mk hy105
  clear hy105
  obtain ⟨y108, hy108⟩ : ∃ y_ : List ByteArray, y_ = (([(⟨#[98, 97, 100, 32, 97, 114, 103, 117, 109, 101, 110, 116]⟩ : ByteArray), (⟨#[116, 111, 111, 32, 108, 111, 110, 103]⟩ : ByteArray), (⟨#[110, 111, 32, 114, 111, 111, 109]⟩ : ByteArray), (⟨#[110, 111, 116, 32, 97, 32, 108, 97, 121, 111, 117, 116]⟩ : ByteArray), (⟨#[98, 97, 100, 32, 115, 105, 122, 101]⟩ : ByteArray), (⟨#[110, 111, 32, 115, 117, 99, 104, 32, 112, 97, 110, 101]⟩ : ByteArray), (⟨#[110, 111, 32, 115, 112, 97, 99, 101]⟩ : ByteArray), (⟨#[116, 111, 111, 32, 109, 97, 110, 121, 32, 112, 97, 110, 101, 115]⟩ : ByteArray), (⟨#[111, 110, 108, 121, 32, 112, 97, 110, 101]⟩ : ByteArray), (⟨#[110, 111, 32, 98, 111, 114, 100, 101, 114]⟩ : ByteArray), (⟨#[98, 97, 100, 32, 108, 97, 121, 111, 117, 116]⟩ : ByteArray), (⟨#[98, 97, 100, 32, 115, 117, 109]⟩ : ByteArray), (⟨#[110, 111, 32, 115, 117, 99, 104, 32, 115, 101, 115, 115, 105, 111, 110]⟩ : ByteArray), (⟨#[110, 111, 32, 115, 117, 99, 104, 32, 119, 105, 110, 100, 111, 119]⟩ : ByteArray), (⟨#[110, 111, 32, 115, 117, 99, 104, 32, 105, 110, 100, 101, 120]⟩ : ByteArray), (⟨#[98, 97, 100, 32, 110, 97, 109, 101]⟩ : ByteArray), (⟨#[105, 110, 32, 117, 115, 101]⟩ : ByteArray), (⟨#[111, 110, 108, 121, 32, 111, 110, 101]⟩ : ByteArray), (⟨#[111, 112, 101, 110, 32, 113, 117, 111, 116, 101]⟩ : ByteArray), (⟨#[116, 111, 111, 32, 109, 97, 110, 121, 32, 119, 111, 114, 100, 115]⟩ : ByteArray), (⟨#[98, 97, 100, 32, 102, 111, 114, 109, 97, 116]⟩ : ByteArray), (⟨#[116, 111, 111, 32, 100, 101, 101, 112]⟩ : ByteArray), (⟨#[110, 111, 116, 32, 102, 111, 117, 110, 100]⟩ : ByteArray), (⟨#[97, 109, 98, 105, 103, 117, 111, 117, 115]⟩ : ByteArray), (⟨#[110, 111, 32, 99, 117, 114, 114, 101, 110, 116, 32, 115, 101, 115, 115, 105, 111, 110]⟩ : ByteArray), (⟨#[117, 110, 107, 110, 111, 119, 110, 32, 99, 111, 109, 109, 97, 110, 100]⟩ : ByteArray), (⟨#[97, 109, 98, 105, 103, 117, 111, 117, 115, 32, 99, 111, 109, 109, 97, 110, 100]⟩ : ByteArray), (⟨#[117, 110, 107, 110, 111, 119, 110, 32, 102, 108, 97, 103]⟩ : ByteArray), (⟨#[118, 97, 108, 117, 101, 32, 110, 101, 101, 100, 101, 100]⟩ : ByteArray), (⟨#[119, 114, 111, 110, 103, 32, 110, 117, 109, 98, 101, 114, 32, 111, 102, 32, 119, 111, 114, 100, 115]⟩ : ByteArray), (⟨#[98, 97, 100, 32, 118, 97, 108, 117, 101]⟩ : ByteArray)] : List ByteArray)) := ⟨_, rfl⟩
  replace H : (mullionref13_phrase.l0 k a0 y105 y108 0) = some r := by first | (rw [hy108]; with_reducible exact H) | (have H2_ := (Option.bind_some _ _).symm.trans H; rw [hy108]; with_reducible exact H2_) | (have H2_ := (Option.bind_some _ _).symm.trans H; with_reducible exact H2_) | with_reducible exact H | (rw [hy108]; exact H) | exact H
  have Ny108 := Aside0.mk hy108
  clear hy108
  have H' := Aside0.mk H
  clear H
  go_enter Tryd.func7, Tryd.ntmps7
  go_wp2_with (first | ((with_reducible refine gate_dst (N := 6) rfl ?_); refine Kd.R_lit (Kd.int .i64) _ 3 ?hg (N := 6) ?hd (xs := ([1, 2, 3, 40, 41, 42, 44, 45, 46, 47, 50, 51, 70, 71, 72, 73, 74, 75, 90, 91, 100, 101, 110, 111, 112, 120, 121, 122, 123, 124, 125] : List Int)) (inner := [.int .i64 1, .int .i64 2, .int .i64 3, .int .i64 40, .int .i64 41, .int .i64 42, .int .i64 44, .int .i64 45, .int .i64 46, .int .i64 47, .int .i64 50, .int .i64 51, .int .i64 70, .int .i64 71, .int .i64 72, .int .i64 73, .int .i64 74, .int .i64 75, .int .i64 90, .int .i64 91, .int .i64 100, .int .i64 101, .int .i64 110, .int .i64 111, .int .i64 112, .int .i64 120, .int .i64 121, .int .i64 122, .int .i64 123, .int .i64 124, .int .i64 125]) (ok := fun _ => True) (okp := fun _ => True) ?hr ?hp (fun _ hk => hk) trivial (Below.refl _ _) (Nat.le_refl _) (by simp) ?_; (case hd => rfl); (case hg => rfl); (case hr => first | (go_simp; done) | (go_simp; rfl)); (case hp => exact (Reps.one (show Kd.M (Kd.int .i64) _ _ _ 1 [.int .i64 1] from rfl) (Reps.one (show Kd.M (Kd.int .i64) _ _ _ 2 [.int .i64 2] from rfl) (Reps.one (show Kd.M (Kd.int .i64) _ _ _ 3 [.int .i64 3] from rfl) (Reps.one (show Kd.M (Kd.int .i64) _ _ _ 40 [.int .i64 40] from rfl) (Reps.one (show Kd.M (Kd.int .i64) _ _ _ 41 [.int .i64 41] from rfl) (Reps.one (show Kd.M (Kd.int .i64) _ _ _ 42 [.int .i64 42] from rfl) (Reps.one (show Kd.M (Kd.int .i64) _ _ _ 44 [.int .i64 44] from rfl) (Reps.one (show Kd.M (Kd.int .i64) _ _ _ 45 [.int .i64 45] from rfl) (Reps.one (show Kd.M (Kd.int .i64) _ _ _ 46 [.int .i64 46] from rfl) (Reps.one (show Kd.M (Kd.int .i64) _ _ _ 47 [.int .i64 47] from rfl) (Reps.one (show Kd.M (Kd.int .i64) _ _ _ 50 [.int .i64 50] from rfl) (Reps.one (show Kd.M (Kd.int .i64) _ _ _ 51 [.int .i64 51] from rfl) (Reps.one (show Kd.M (Kd.int .i64) _ _ _ 70 [.int .i64 70] from rfl) (Reps.one (show Kd.M (Kd.int .i64) _ _ _ 71 [.int .i64 71] from rfl) (Reps.one (show Kd.M (Kd.int .i64) _ _ _ 72 [.int .i64 72] from rfl) (Reps.one (show Kd.M (Kd.int .i64) _ _ _ 73 [.int .i64 73] from rfl) (Reps.one (show Kd.M (Kd.int .i64) _ _ _ 74 [.int .i64 74] from rfl) (Reps.one (show Kd.M (Kd.int .i64) _ _ _ 75 [.int .i64 75] from rfl) (Reps.one (show Kd.M (Kd.int .i64) _ _ _ 90 [.int .i64 90] from rfl) (Reps.one (show Kd.M (Kd.int .i64) _ _ _ 91 [.int .i64 91] from rfl) (Reps.one (show Kd.M (Kd.int .i64) _ _ _ 100 [.int .i64 100] from rfl) (Reps.one (show Kd.M (Kd.int .i64) _ _ _ 101 [.int .i64 101] from rfl) (Reps.one (show Kd.M (Kd.int .i64) _ _ _ 110 [.int .i64 110] from rfl) (Reps.one (show Kd.M (Kd.int .i64) _ _ _ 111 [.int .i64 111] from rfl) (Reps.one (show Kd.M (Kd.int .i64) _ _ _ 112 [.int .i64 112] from rfl) (Reps.one (show Kd.M (Kd.int .i64) _ _ _ 120 [.int .i64 120] from rfl) (Reps.one (show Kd.M (Kd.int .i64) _ _ _ 121 [.int .i64 121] from rfl) (Reps.one (show Kd.M (Kd.int .i64) _ _ _ 122 [.int .i64 122] from rfl) (Reps.one (show Kd.M (Kd.int .i64) _ _ _ 123 [.int .i64 123] from rfl) (Reps.one (show Kd.M (Kd.int .i64) _ _ _ 124 [.int .i64 124] from rfl) (Reps.one (show Kd.M (Kd.int .i64) _ _ _ 125 [.int .i64 125] from rfl) (Reps.none _ _))))))))))))))))))))))))))))))))); intro v106 w2 ho3 hb hg_ hnew_; clear hg_ hnew_; (first | rw [← Ny105.out] at ho3 | (simp only [Int.reduceToNat] at ho3; rw [← Ny105.out] at ho3)); have n0_ := Aside0.mk (Kd.R_lower ho3 (below_size (by repeat (first | (with_reducible first | exact HB.out | apply below_alloc | apply pw_below_drewN | apply below_drew1) | exact HB.out)))); have n1_ := Aside0.mk (below_step (by repeat (first | (with_reducible first | exact HB.out | apply below_alloc | apply pw_below_drewN | apply below_drew1) | exact HB.out)) hb); clear HB; have HO107 := n0_; have HB := n1_; clear n0_ n1_; clear hb ho3) | ((with_reducible refine gate_dst (N := 7) rfl ?_); refine Kd.R_lit Kd.string _ 9 ?hg (N := 7) ?hd (xs := ([(⟨#[98, 97, 100, 32, 97, 114, 103, 117, 109, 101, 110, 116]⟩ : ByteArray), (⟨#[116, 111, 111, 32, 108, 111, 110, 103]⟩ : ByteArray), (⟨#[110, 111, 32, 114, 111, 111, 109]⟩ : ByteArray), (⟨#[110, 111, 116, 32, 97, 32, 108, 97, 121, 111, 117, 116]⟩ : ByteArray), (⟨#[98, 97, 100, 32, 115, 105, 122, 101]⟩ : ByteArray), (⟨#[110, 111, 32, 115, 117, 99, 104, 32, 112, 97, 110, 101]⟩ : ByteArray), (⟨#[110, 111, 32, 115, 112, 97, 99, 101]⟩ : ByteArray), (⟨#[116, 111, 111, 32, 109, 97, 110, 121, 32, 112, 97, 110, 101, 115]⟩ : ByteArray), (⟨#[111, 110, 108, 121, 32, 112, 97, 110, 101]⟩ : ByteArray), (⟨#[110, 111, 32, 98, 111, 114, 100, 101, 114]⟩ : ByteArray), (⟨#[98, 97, 100, 32, 108, 97, 121, 111, 117, 116]⟩ : ByteArray), (⟨#[98, 97, 100, 32, 115, 117, 109]⟩ : ByteArray), (⟨#[110, 111, 32, 115, 117, 99, 104, 32, 115, 101, 115, 115, 105, 111, 110]⟩ : ByteArray), (⟨#[110, 111, 32, 115, 117, 99, 104, 32, 119, 105, 110, 100, 111, 119]⟩ : ByteArray), (⟨#[110, 111, 32, 115, 117, 99, 104, 32, 105, 110, 100, 101, 120]⟩ : ByteArray), (⟨#[98, 97, 100, 32, 110, 97, 109, 101]⟩ : ByteArray), (⟨#[105, 110, 32, 117, 115, 101]⟩ : ByteArray), (⟨#[111, 110, 108, 121, 32, 111, 110, 101]⟩ : ByteArray), (⟨#[111, 112, 101, 110, 32, 113, 117, 111, 116, 101]⟩ : ByteArray), (⟨#[116, 111, 111, 32, 109, 97, 110, 121, 32, 119, 111, 114, 100, 115]⟩ : ByteArray), (⟨#[98, 97, 100, 32, 102, 111, 114, 109, 97, 116]⟩ : ByteArray), (⟨#[116, 111, 111, 32, 100, 101, 101, 112]⟩ : ByteArray), (⟨#[110, 111, 116, 32, 102, 111, 117, 110, 100]⟩ : ByteArray), (⟨#[97, 109, 98, 105, 103, 117, 111, 117, 115]⟩ : ByteArray), (⟨#[110, 111, 32, 99, 117, 114, 114, 101, 110, 116, 32, 115, 101, 115, 115, 105, 111, 110]⟩ : ByteArray), (⟨#[117, 110, 107, 110, 111, 119, 110, 32, 99, 111, 109, 109, 97, 110, 100]⟩ : ByteArray), (⟨#[97, 109, 98, 105, 103, 117, 111, 117, 115, 32, 99, 111, 109, 109, 97, 110, 100]⟩ : ByteArray), (⟨#[117, 110, 107, 110, 111, 119, 110, 32, 102, 108, 97, 103]⟩ : ByteArray), (⟨#[118, 97, 108, 117, 101, 32, 110, 101, 101, 100, 101, 100]⟩ : ByteArray), (⟨#[119, 114, 111, 110, 103, 32, 110, 117, 109, 98, 101, 114, 32, 111, 102, 32, 119, 111, 114, 100, 115]⟩ : ByteArray), (⟨#[98, 97, 100, 32, 118, 97, 108, 117, 101]⟩ : ByteArray)] : List ByteArray)) (inner := [.string (⟨#[98, 97, 100, 32, 97, 114, 103, 117, 109, 101, 110, 116]⟩ : ByteArray), .string (⟨#[116, 111, 111, 32, 108, 111, 110, 103]⟩ : ByteArray), .string (⟨#[110, 111, 32, 114, 111, 111, 109]⟩ : ByteArray), .string (⟨#[110, 111, 116, 32, 97, 32, 108, 97, 121, 111, 117, 116]⟩ : ByteArray), .string (⟨#[98, 97, 100, 32, 115, 105, 122, 101]⟩ : ByteArray), .string (⟨#[110, 111, 32, 115, 117, 99, 104, 32, 112, 97, 110, 101]⟩ : ByteArray), .string (⟨#[110, 111, 32, 115, 112, 97, 99, 101]⟩ : ByteArray), .string (⟨#[116, 111, 111, 32, 109, 97, 110, 121, 32, 112, 97, 110, 101, 115]⟩ : ByteArray), .string (⟨#[111, 110, 108, 121, 32, 112, 97, 110, 101]⟩ : ByteArray), .string (⟨#[110, 111, 32, 98, 111, 114, 100, 101, 114]⟩ : ByteArray), .string (⟨#[98, 97, 100, 32, 108, 97, 121, 111, 117, 116]⟩ : ByteArray), .string (⟨#[98, 97, 100, 32, 115, 117, 109]⟩ : ByteArray), .string (⟨#[110, 111, 32, 115, 117, 99, 104, 32, 115, 101, 115, 115, 105, 111, 110]⟩ : ByteArray), .string (⟨#[110, 111, 32, 115, 117, 99, 104, 32, 119, 105, 110, 100, 111, 119]⟩ : ByteArray), .string (⟨#[110, 111, 32, 115, 117, 99, 104, 32, 105, 110, 100, 101, 120]⟩ : ByteArray), .string (⟨#[98, 97, 100, 32, 110, 97, 109, 101]⟩ : ByteArray), .string (⟨#[105, 110, 32, 117, 115, 101]⟩ : ByteArray), .string (⟨#[111, 110, 108, 121, 32, 111, 110, 101]⟩ : ByteArray), .string (⟨#[111, 112, 101, 110, 32, 113, 117, 111, 116, 101]⟩ : ByteArray), .string (⟨#[116, 111, 111, 32, 109, 97, 110, 121, 32, 119, 111, 114, 100, 115]⟩ : ByteArray), .string (⟨#[98, 97, 100, 32, 102, 111, 114, 109, 97, 116]⟩ : ByteArray), .string (⟨#[116, 111, 111, 32, 100, 101, 101, 112]⟩ : ByteArray), .string (⟨#[110, 111, 116, 32, 102, 111, 117, 110, 100]⟩ : ByteArray), .string (⟨#[97, 109, 98, 105, 103, 117, 111, 117, 115]⟩ : ByteArray), .string (⟨#[110, 111, 32, 99, 117, 114, 114, 101, 110, 116, 32, 115, 101, 115, 115, 105, 111, 110]⟩ : ByteArray), .string (⟨#[117, 110, 107, 110, 111, 119, 110, 32, 99, 111, 109, 109, 97, 110, 100]⟩ : ByteArray), .string (⟨#[97, 109, 98, 105, 103, 117, 111, 117, 115, 32, 99, 111, 109, 109, 97, 110, 100]⟩ : ByteArray), .string (⟨#[117, 110, 107, 110, 111, 119, 110, 32, 102, 108, 97, 103]⟩ : ByteArray), .string (⟨#[118, 97, 108, 117, 101, 32, 110, 101, 101, 100, 101, 100]⟩ : ByteArray), .string (⟨#[119, 114, 111, 110, 103, 32, 110, 117, 109, 98, 101, 114, 32, 111, 102, 32, 119, 111, 114, 100, 115]⟩ : ByteArray), .string (⟨#[98, 97, 100, 32, 118, 97, 108, 117, 101]⟩ : ByteArray)]) (ok := fun _ => True) (okp := fun _ => True) ?hr ?hp (fun _ hk => hk) trivial (Below.refl _ _) (Nat.le_refl _) (by simp) ?_; (case hd => rfl); (case hg => rfl); (case hr => first | (go_simp; done) | (go_simp; rfl)); (case hp => exact (Reps.one (show Kd.M Kd.string _ _ _ (⟨#[98, 97, 100, 32, 97, 114, 103, 117, 109, 101, 110, 116]⟩ : ByteArray) [.string (⟨#[98, 97, 100, 32, 97, 114, 103, 117, 109, 101, 110, 116]⟩ : ByteArray)] from rfl) (Reps.one (show Kd.M Kd.string _ _ _ (⟨#[116, 111, 111, 32, 108, 111, 110, 103]⟩ : ByteArray) [.string (⟨#[116, 111, 111, 32, 108, 111, 110, 103]⟩ : ByteArray)] from rfl) (Reps.one (show Kd.M Kd.string _ _ _ (⟨#[110, 111, 32, 114, 111, 111, 109]⟩ : ByteArray) [.string (⟨#[110, 111, 32, 114, 111, 111, 109]⟩ : ByteArray)] from rfl) (Reps.one (show Kd.M Kd.string _ _ _ (⟨#[110, 111, 116, 32, 97, 32, 108, 97, 121, 111, 117, 116]⟩ : ByteArray) [.string (⟨#[110, 111, 116, 32, 97, 32, 108, 97, 121, 111, 117, 116]⟩ : ByteArray)] from rfl) (Reps.one (show Kd.M Kd.string _ _ _ (⟨#[98, 97, 100, 32, 115, 105, 122, 101]⟩ : ByteArray) [.string (⟨#[98, 97, 100, 32, 115, 105, 122, 101]⟩ : ByteArray)] from rfl) (Reps.one (show Kd.M Kd.string _ _ _ (⟨#[110, 111, 32, 115, 117, 99, 104, 32, 112, 97, 110, 101]⟩ : ByteArray) [.string (⟨#[110, 111, 32, 115, 117, 99, 104, 32, 112, 97, 110, 101]⟩ : ByteArray)] from rfl) (Reps.one (show Kd.M Kd.string _ _ _ (⟨#[110, 111, 32, 115, 112, 97, 99, 101]⟩ : ByteArray) [.string (⟨#[110, 111, 32, 115, 112, 97, 99, 101]⟩ : ByteArray)] from rfl) (Reps.one (show Kd.M Kd.string _ _ _ (⟨#[116, 111, 111, 32, 109, 97, 110, 121, 32, 112, 97, 110, 101, 115]⟩ : ByteArray) [.string (⟨#[116, 111, 111, 32, 109, 97, 110, 121, 32, 112, 97, 110, 101, 115]⟩ : ByteArray)] from rfl) (Reps.one (show Kd.M Kd.string _ _ _ (⟨#[111, 110, 108, 121, 32, 112, 97, 110, 101]⟩ : ByteArray) [.string (⟨#[111, 110, 108, 121, 32, 112, 97, 110, 101]⟩ : ByteArray)] from rfl) (Reps.one (show Kd.M Kd.string _ _ _ (⟨#[110, 111, 32, 98, 111, 114, 100, 101, 114]⟩ : ByteArray) [.string (⟨#[110, 111, 32, 98, 111, 114, 100, 101, 114]⟩ : ByteArray)] from rfl) (Reps.one (show Kd.M Kd.string _ _ _ (⟨#[98, 97, 100, 32, 108, 97, 121, 111, 117, 116]⟩ : ByteArray) [.string (⟨#[98, 97, 100, 32, 108, 97, 121, 111, 117, 116]⟩ : ByteArray)] from rfl) (Reps.one (show Kd.M Kd.string _ _ _ (⟨#[98, 97, 100, 32, 115, 117, 109]⟩ : ByteArray) [.string (⟨#[98, 97, 100, 32, 115, 117, 109]⟩ : ByteArray)] from rfl) (Reps.one (show Kd.M Kd.string _ _ _ (⟨#[110, 111, 32, 115, 117, 99, 104, 32, 115, 101, 115, 115, 105, 111, 110]⟩ : ByteArray) [.string (⟨#[110, 111, 32, 115, 117, 99, 104, 32, 115, 101, 115, 115, 105, 111, 110]⟩ : ByteArray)] from rfl) (Reps.one (show Kd.M Kd.string _ _ _ (⟨#[110, 111, 32, 115, 117, 99, 104, 32, 119, 105, 110, 100, 111, 119]⟩ : ByteArray) [.string (⟨#[110, 111, 32, 115, 117, 99, 104, 32, 119, 105, 110, 100, 111, 119]⟩ : ByteArray)] from rfl) (Reps.one (show Kd.M Kd.string _ _ _ (⟨#[110, 111, 32, 115, 117, 99, 104, 32, 105, 110, 100, 101, 120]⟩ : ByteArray) [.string (⟨#[110, 111, 32, 115, 117, 99, 104, 32, 105, 110, 100, 101, 120]⟩ : ByteArray)] from rfl) (Reps.one (show Kd.M Kd.string _ _ _ (⟨#[98, 97, 100, 32, 110, 97, 109, 101]⟩ : ByteArray) [.string (⟨#[98, 97, 100, 32, 110, 97, 109, 101]⟩ : ByteArray)] from rfl) (Reps.one (show Kd.M Kd.string _ _ _ (⟨#[105, 110, 32, 117, 115, 101]⟩ : ByteArray) [.string (⟨#[105, 110, 32, 117, 115, 101]⟩ : ByteArray)] from rfl) (Reps.one (show Kd.M Kd.string _ _ _ (⟨#[111, 110, 108, 121, 32, 111, 110, 101]⟩ : ByteArray) [.string (⟨#[111, 110, 108, 121, 32, 111, 110, 101]⟩ : ByteArray)] from rfl) (Reps.one (show Kd.M Kd.string _ _ _ (⟨#[111, 112, 101, 110, 32, 113, 117, 111, 116, 101]⟩ : ByteArray) [.string (⟨#[111, 112, 101, 110, 32, 113, 117, 111, 116, 101]⟩ : ByteArray)] from rfl) (Reps.one (show Kd.M Kd.string _ _ _ (⟨#[116, 111, 111, 32, 109, 97, 110, 121, 32, 119, 111, 114, 100, 115]⟩ : ByteArray) [.string (⟨#[116, 111, 111, 32, 109, 97, 110, 121, 32, 119, 111, 114, 100, 115]⟩ : ByteArray)] from rfl) (Reps.one (show Kd.M Kd.string _ _ _ (⟨#[98, 97, 100, 32, 102, 111, 114, 109, 97, 116]⟩ : ByteArray) [.string (⟨#[98, 97, 100, 32, 102, 111, 114, 109, 97, 116]⟩ : ByteArray)] from rfl) (Reps.one (show Kd.M Kd.string _ _ _ (⟨#[116, 111, 111, 32, 100, 101, 101, 112]⟩ : ByteArray) [.string (⟨#[116, 111, 111, 32, 100, 101, 101, 112]⟩ : ByteArray)] from rfl) (Reps.one (show Kd.M Kd.string _ _ _ (⟨#[110, 111, 116, 32, 102, 111, 117, 110, 100]⟩ : ByteArray) [.string (⟨#[110, 111, 116, 32, 102, 111, 117, 110, 100]⟩ : ByteArray)] from rfl) (Reps.one (show Kd.M Kd.string _ _ _ (⟨#[97, 109, 98, 105, 103, 117, 111, 117, 115]⟩ : ByteArray) [.string (⟨#[97, 109, 98, 105, 103, 117, 111, 117, 115]⟩ : ByteArray)] from rfl) (Reps.one (show Kd.M Kd.string _ _ _ (⟨#[110, 111, 32, 99, 117, 114, 114, 101, 110, 116, 32, 115, 101, 115, 115, 105, 111, 110]⟩ : ByteArray) [.string (⟨#[110, 111, 32, 99, 117, 114, 114, 101, 110, 116, 32, 115, 101, 115, 115, 105, 111, 110]⟩ : ByteArray)] from rfl) (Reps.one (show Kd.M Kd.string _ _ _ (⟨#[117, 110, 107, 110, 111, 119, 110, 32, 99, 111, 109, 109, 97, 110, 100]⟩ : ByteArray) [.string (⟨#[117, 110, 107, 110, 111, 119, 110, 32, 99, 111, 109, 109, 97, 110, 100]⟩ : ByteArray)] from rfl) (Reps.one (show Kd.M Kd.string _ _ _ (⟨#[97, 109, 98, 105, 103, 117, 111, 117, 115, 32, 99, 111, 109, 109, 97, 110, 100]⟩ : ByteArray) [.string (⟨#[97, 109, 98, 105, 103, 117, 111, 117, 115, 32, 99, 111, 109, 109, 97, 110, 100]⟩ : ByteArray)] from rfl) (Reps.one (show Kd.M Kd.string _ _ _ (⟨#[117, 110, 107, 110, 111, 119, 110, 32, 102, 108, 97, 103]⟩ : ByteArray) [.string (⟨#[117, 110, 107, 110, 111, 119, 110, 32, 102, 108, 97, 103]⟩ : ByteArray)] from rfl) (Reps.one (show Kd.M Kd.string _ _ _ (⟨#[118, 97, 108, 117, 101, 32, 110, 101, 101, 100, 101, 100]⟩ : ByteArray) [.string (⟨#[118, 97, 108, 117, 101, 32, 110, 101, 101, 100, 101, 100]⟩ : ByteArray)] from rfl) (Reps.one (show Kd.M Kd.string _ _ _ (⟨#[119, 114, 111, 110, 103, 32, 110, 117, 109, 98, 101, 114, 32, 111, 102, 32, 119, 111, 114, 100, 115]⟩ : ByteArray) [.string (⟨#[119, 114, 111, 110, 103, 32, 110, 117, 109, 98, 101, 114, 32, 111, 102, 32, 119, 111, 114, 100, 115]⟩ : ByteArray)] from rfl) (Reps.one (show Kd.M Kd.string _ _ _ (⟨#[98, 97, 100, 32, 118, 97, 108, 117, 101]⟩ : ByteArray) [.string (⟨#[98, 97, 100, 32, 118, 97, 108, 117, 101]⟩ : ByteArray)] from rfl) (Reps.none _ _))))))))))))))))))))))))))))))))); intro v109 w4 ho5 hb hg_ hnew_; clear hg_ hnew_; (first | rw [← Ny108.out] at ho5 | (simp only [Int.reduceToNat] at ho5; rw [← Ny108.out] at ho5)); have n0_ := Aside0.mk (Kd.R_below (by (with_reducible repeat (first | apply Kd.R_alloc | apply Kd.R_drewN | apply Kd.R_drew)); exact HO107.out) hb); have n1_ := Aside0.mk (Kd.R_lower ho5 (below_size (by repeat (first | (with_reducible first | exact HB.out | apply below_alloc | apply pw_below_drewN | apply below_drew1) | exact HB.out)))); have n2_ := Aside0.mk (below_step (by repeat (first | (with_reducible first | exact HB.out | apply below_alloc | apply pw_below_drewN | apply below_drew1) | exact HB.out)) hb); clear HO107; clear HB; have HO107 := n0_; have HO110 := n1_; have HB := n2_; clear n0_ n1_ n2_; clear hb ho5))
  go_loopg [5] k (fun kq v5 w' => ∃ (x5_1 : Int), v5 = .int .i64 x5_1 ∧ Aside0 (mullionref13_phrase.l0 kq a0 y105 y108 x5_1 = some r) ∧ Aside0 (kq ≤ k) ∧ Aside0 (Kd.R (Kd.int .i64) 3 w' w.heap.size (fun _ => True) v106 y105) ∧ Aside0 (Kd.R Kd.string 9 w' w.heap.size (fun _ => True) v109 y108) ∧ Aside0 (Below w.heap.size w w'))
  case atStart => exact ⟨(0), (by first | rfl | (simp; done) | (simp [*]; done)), H', ⟨Nat.le_refl _⟩, ⟨by (with_reducible repeat (first | apply Kd.R_alloc | apply Kd.R_drewN | apply Kd.R_drew)); exact HO107.out⟩, ⟨by (with_reducible repeat (first | apply Kd.R_alloc | apply Kd.R_drewN | apply Kd.R_drew)); exact HO110.out⟩, ⟨by repeat (first | (with_reducible first | exact HB.out | apply below_alloc | apply pw_below_drewN | apply below_drew1) | exact HB.out)⟩⟩
  case round =>
    clear H'
    try clear p2
    obtain ⟨x5_1, rfl, HA, HK1, HO_3, HO_4, HB⟩ := hrel
    cases gk with
    | zero => exact absurd HA.out (by simp [mullionref13_phrase.l0])
    | succ k1 =>
      have H := HA.out
      clear HA
      simp only [mullionref13_phrase.l0] at H
      by_cases c6 : x5_1 < (y105.length : Int)
      · rw [if_pos c6] at H
        have c6b0 : decide (x5_1 < (y105.length : Int)) = true := decide_eq_true c6
        clear c6
        by_cases c7 : 0 ≤ x5_1
        · rw [if_pos c7] at H
          have c7b0 : decide (0 ≤ x5_1) = true := decide_eq_true c7
          clear c7
          by_cases c8 : (rd y105 x5_1) = a0
          · rw [if_pos c8] at H
            have c8b0 : ((rd y105 x5_1) == a0) = true := beq_iff_eq.mpr c8
            have c8b1 : ((rd y105 x5_1) != a0) = false := bne_eq_false_iff_eq.mpr c8
            clear c8
            by_cases c9 : x5_1 < (y108.length : Int)
            · rw [if_pos c9] at H
              have c9b0 : decide (x5_1 < (y108.length : Int)) = true := decide_eq_true c9
              clear c9
              obtain rfl := Option.some.inj H
              obtain ⟨Ao10, co10, eo10⟩ := Kd.R_slice HO_3.out
              subst eo10
              have p111 : 0 ≤ (x5_1 : Int) := of_decide_eq_true (by first | (with_reducible assumption) | assumption)
              have q111 : x5_1 < (y105.length : Int) := of_decide_eq_true (by first | (with_reducible assumption) | assumption)
              obtain ⟨ad111, e111, hx111_0⟩ := Kd.at_int (Kd.R_reads' HO_3.out).2.2 x5_1 p111 q111
              cases e111
              replace p111 := eq_true p111
              replace q111 := eq_true q111
              obtain ⟨Ao11, co11, eo11⟩ := Kd.R_slice HO_4.out
              subst eo11
              have p112 : 0 ≤ (x5_1 : Int) := of_decide_eq_true (by first | (with_reducible assumption) | assumption)
              have q112 : x5_1 < (y108.length : Int) := of_decide_eq_true (by first | (with_reducible assumption) | assumption)
              obtain ⟨ad112, e112, hx112_0⟩ := Kd.at_string (Kd.R_reads' HO_4.out).2.2 x5_1 p112 q112
              cases e112
              replace p112 := eq_true p112
              replace q112 := eq_true q112
              go_wp2
              go_ret
              exact ⟨by first | rfl | (simp [errW_none, errW_some] <;> rfl) | (simp [*, errW_none, errW_some] <;> rfl), by repeat (first | (with_reducible first | exact HB.out | apply below_alloc | apply pw_below_drewN | apply below_drew1) | exact HB.out)⟩
            · rw [if_neg c9] at H
              exact absurd H (by simp)
          · rw [if_neg c8] at H
            have c8b0 : ((rd y105 x5_1) == a0) = false := beq_eq_false_iff_ne.mpr c8
            have c8b1 : ((rd y105 x5_1) != a0) = true := bne_iff_ne.mpr c8
            have H' := Aside0.mk H
            clear H
            obtain ⟨Ao12, co12, eo12⟩ := Kd.R_slice HO_3.out
            subst eo12
            have p111 : 0 ≤ (x5_1 : Int) := of_decide_eq_true (by first | (with_reducible assumption) | assumption)
            have q111 : x5_1 < (y105.length : Int) := of_decide_eq_true (by first | (with_reducible assumption) | assumption)
            obtain ⟨ad111, e111, hx111_0⟩ := Kd.at_int (Kd.R_reads' HO_3.out).2.2 x5_1 p111 q111
            cases e111
            replace p111 := eq_true p111
            replace q111 := eq_true q111
            go_wp2
            go_roundg k1
            case measure => have := HK1.out; omega
            case rel => exact ⟨(wrap64 (x5_1 + 1)), (by first | rfl | (simp; done) | (simp [*]; done)), H', ⟨by have := HK1.out; omega⟩, ⟨by (with_reducible repeat (first | apply Kd.R_alloc | apply Kd.R_drewN | apply Kd.R_drew)); exact HO_3.out⟩, ⟨by (with_reducible repeat (first | apply Kd.R_alloc | apply Kd.R_drewN | apply Kd.R_drew)); exact HO_4.out⟩, ⟨by repeat (first | (with_reducible first | exact HB.out | apply below_alloc | apply pw_below_drewN | apply below_drew1) | exact HB.out)⟩⟩
        · rw [if_neg c7] at H
          exact absurd H (by simp)
      · rw [if_neg c6] at H
        have c6b0 : decide (x5_1 < (y105.length : Int)) = false := decide_eq_false c6
        clear c6
        obtain rfl := Option.some.inj H
        obtain ⟨Ao13, co13, eo13⟩ := Kd.R_slice HO_3.out
        subst eo13
        go_wp2
        go_ret
        exact ⟨by first | rfl | (simp [errW_none, errW_some] <;> rfl) | (simp [*, errW_none, errW_some] <;> rfl), by repeat (first | (with_reducible first | exact HB.out | apply below_alloc | apply pw_below_drewN | apply below_drew1) | exact HB.out)⟩

/-! ### mullionref01_PutNumber: function 8 -/
mutual
def mullionref01_PutNumber.j0 : Nat → Int → Bool → Option (ByteArray)
  | 0, _, _ => none
  | k + 1, x0, x8 => if x8 = true then (some (⟨#[]⟩ : ByteArray)) else (if x0 < 10 then (some (strOfNums (([(wrap64 (48 + x0)) % 256] : List Int)))) else ((mullionref01_PutNumber.f k (wrap64 (Int.tdiv x0 10))).bind fun t116 => ((mullionref01_PutNumber.f k (Int.tmod x0 10)).bind fun t117 => (if t116.size + t117.size ≤ 9223372036854775807 then (some (t116 ++ t117)) else (none)))))
def mullionref01_PutNumber.f : Nat → Int → Option (ByteArray)
  | 0, _ => none
  | k + 1, a0 => if a0 < 0 then (mullionref01_PutNumber.j0 k a0 true) else (mullionref01_PutNumber.j0 k a0 (decide (a0 > 4611686018427387904)))
end
theorem mullionref01_PutNumber.mono_l : ∀ k, (∀ y0, LeO (mullionref01_PutNumber.f k y0) (mullionref01_PutNumber.f (k + 1) y0)) ∧ (∀ y0 y1, LeO (mullionref01_PutNumber.j0 k y0 y1) (mullionref01_PutNumber.j0 (k + 1) y0 y1))
  | 0 => ⟨fun _ r h => by simp [mullionref01_PutNumber.f] at h, fun _ _ r h => by simp [mullionref01_PutNumber.j0] at h⟩
  | k + 1 => by
    obtain ⟨ih0, ih1⟩ := mullionref01_PutNumber.mono_l k
    refine ⟨?_, ?_⟩
    · intro y0
      unfold mullionref01_PutNumber.f
      repeat' first
      | (with_reducible exact ih0 _)
      | (with_reducible exact ih1 _ _)
      | (with_reducible exact LeO.refl _)
      | (with_reducible exact LeO.none _)
      | (with_reducible refine LeO.ite ?_ ?_)
      | (with_reducible refine LeO.bind ?_ (fun _ => ?_))
      | exact ih0 _
      | exact ih1 _ _
      | exact LeO.none _
      | refine LeO.ite ?_ ?_
      | refine LeO.bind ?_ (fun _ => ?_)
    · intro y0 y1
      unfold mullionref01_PutNumber.j0
      repeat' first
      | (with_reducible exact ih0 _)
      | (with_reducible exact ih1 _ _)
      | (with_reducible exact LeO.refl _)
      | (with_reducible exact LeO.none _)
      | (with_reducible refine LeO.ite ?_ ?_)
      | (with_reducible refine LeO.bind ?_ (fun _ => ?_))
      | exact ih0 _
      | exact ih1 _ _
      | exact LeO.none _
      | refine LeO.ite ?_ ?_
      | refine LeO.bind ?_ (fun _ => ?_)
theorem mullionref01_PutNumber.mono : ∀ a0 k, LeO (mullionref01_PutNumber.f k a0) (mullionref01_PutNumber.f (k + 1) a0) := by
  intro a0 k
  obtain ⟨ih0, ih1⟩ := mullionref01_PutNumber.mono_l k
  exact ih0 a0
set_option maxHeartbeats 8000000 in
set_option maxRecDepth 100000 in
theorem mullionref01_PutNumber.calls (k : Nat) : ∀ (a0 : Int) (r : ByteArray) (w : World) (h : mullionref01_PutNumber.f k a0 = some r),
    Calls Tryd.prog 8 #[.int .i64 a0] w fun e w' => e = .returned (.string r) ∧ Below w.heap.size w w' := by
  induction k using Nat.strongRecOn with
  | _ k ih =>
  intro a0 r w h
  cases k with
  | zero => exact absurd h (by simp [mullionref01_PutNumber.f])
  | succ k =>
  simp only [mullionref01_PutNumber.f] at h
  have HB := Aside0.mk (Below.refl w.heap.size w)
  have H : (if a0 < 0 then (mullionref01_PutNumber.j0 k a0 true) else (mullionref01_PutNumber.j0 k a0 (decide (a0 > 4611686018427387904)))) = some r := h
  clear h
  have HC2 := Aside0.mk H
  clear H
  go_enter Tryd.func8, Tryd.ntmps8
  go_upto_region 1 with (fail)
  go_cut [8] (fun v8 wc => ∃ (kq : Nat) (x8_1 : Bool), v8 = .bool x8_1 ∧ Aside0 (mullionref01_PutNumber.j0 kq a0 x8_1 = some r) ∧ Aside0 (kq ≤ k) ∧ Aside0 (Below w.heap.size w wc))
  case first =>
    have H := HC2.out
    clear HC2
    by_cases c3 : a0 < 0
    · rw [if_pos c3] at H
      have c3b0 : decide (a0 < 0) = true := decide_eq_true c3
      clear c3
      (first | rw [c3b0] | (simp only [i64_w, i32_w]; rw [c3b0]) | skip)
      have H' := Aside0.mk H
      clear H
      go_wp2
      go_meet
      case rel => exact ⟨_, (true), (by first | rfl | (simp; done) | (simp [*]; done)), H', ⟨by first | omega | exact Nat.le_refl _⟩, ⟨by repeat (first | (with_reducible first | exact HB.out | apply below_alloc | apply pw_below_drewN | apply below_drew1) | exact HB.out)⟩⟩
    · rw [if_neg c3] at H
      have c3b0 : decide (a0 < 0) = false := decide_eq_false c3
      clear c3
      (first | rw [c3b0] | (simp only [i64_w, i32_w]; rw [c3b0]) | skip)
      have H' := Aside0.mk H
      clear H
      go_wp2
      go_meet
      case rel => exact ⟨_, (decide (a0 > 4611686018427387904)), (by first | rfl | (simp; done) | (simp [*]; done)), H', ⟨by first | omega | exact Nat.le_refl _⟩, ⟨by repeat (first | (with_reducible first | exact HB.out | apply below_alloc | apply pw_below_drewN | apply below_drew1) | exact HB.out)⟩⟩
  case rest =>
    clear HC2
    try clear p2
    try clear c3
    try clear c3b0
    obtain ⟨kq, x8_1, rfl, HA, HJ1, HB⟩ := hcut
    cases kq with
    | zero => exact absurd HA.out (by simp [mullionref01_PutNumber.j0])
    | succ kj1 =>
      have H := HA.out
      clear HA
      simp only [mullionref01_PutNumber.j0] at H
      by_cases c4 : x8_1 = true
      · subst c4
        have H1 : (some (⟨#[]⟩ : ByteArray)) = some r := by rw [if_pos rfl] at H; exact H
        clear H
        have H := H1
        clear H1
        obtain rfl := Option.some.inj H
        go_wp2
        go_ret
        exact ⟨by first | rfl | (simp [errW_none, errW_some] <;> rfl) | (simp [*, errW_none, errW_some] <;> rfl), by repeat (first | (with_reducible first | exact HB.out | apply below_alloc | apply pw_below_drewN | apply below_drew1) | exact HB.out)⟩
      · replace c4 := Bool.eq_false_iff.mpr c4
        subst c4
        have H1 : (if a0 < 10 then (some (strOfNums (([(wrap64 (48 + a0)) % 256] : List Int)))) else ((mullionref01_PutNumber.f kj1 (wrap64 (Int.tdiv a0 10))).bind fun t116 => ((mullionref01_PutNumber.f kj1 (Int.tmod a0 10)).bind fun t117 => (if t116.size + t117.size ≤ 9223372036854775807 then (some (t116 ++ t117)) else (none))))) = some r := by rw [if_neg (show ¬ (false = true) by decide)] at H; exact H
        clear H
        have H := H1
        clear H1
        by_cases c5 : a0 < 10
        · rw [if_pos c5] at H
          have c5b0 : decide (a0 < 10) = true := decide_eq_true c5
          clear c5
          obtain ⟨y113, hy113⟩ : ∃ y_ : List Int, y_ = (([(wrap64 (48 + a0)) % 256] : List Int)) := ⟨_, rfl⟩
          replace H : (some (strOfNums y113)) = some r := by first | (rw [hy113]; with_reducible exact H) | (have H2_ := (Option.bind_some _ _).symm.trans H; rw [hy113]; with_reducible exact H2_) | (have H2_ := (Option.bind_some _ _).symm.trans H; with_reducible exact H2_) | with_reducible exact H | (rw [hy113]; exact H) | exact H
          have Ny113 := Aside0.mk hy113
          clear hy113
          obtain rfl := Option.some.inj H
          go_wp2_with (first | ((with_reducible refine gate_dst (N := 14) rfl ?_); refine Kd.R_lit (Kd.int .u8) _ 5 ?hg (N := 14) ?hd (xs := ([(wrap64 (48 + a0)) % 256] : List Int)) (inner := [.int .u8 ((wrap64 (48 + a0)) % 256)]) (ok := fun _ => True) (okp := fun _ => True) ?hr ?hp (fun _ hk => hk) trivial (Below.refl _ _) (Nat.le_refl _) (by simp) ?_; (case hd => rfl); (case hg => rfl); (case hr => first | (go_simp; done) | (go_simp; rfl)); (case hp => exact (Reps.one (show Kd.M (Kd.int .u8) _ _ _ ((wrap64 (48 + a0)) % 256) [.int .u8 ((wrap64 (48 + a0)) % 256)] from rfl) (Reps.none _ _))); intro v114 w6 ho7 hb hg_ hnew_; clear hg_ hnew_; (first | rw [← Ny113.out] at ho7 | (simp only [Int.reduceToNat] at ho7; rw [← Ny113.out] at ho7)); have n0_ := Aside0.mk (Kd.R_lower ho7 (below_size (by repeat (first | (with_reducible first | exact HB.out | apply below_alloc | apply pw_below_drewN | apply below_drew1) | exact HB.out)))); have n1_ := Aside0.mk (below_step (by repeat (first | (with_reducible first | exact HB.out | apply below_alloc | apply pw_below_drewN | apply below_drew1) | exact HB.out)) hb); clear HB; have HO115 := n0_; have HB := n1_; clear n0_ n1_; clear hb ho7; have hcv8 := own_string (P := Tryd.prog) Tryd.underlying30 Tryd.underlying5 Tryd.underlying9 (Kd.own_of_R HO115.out)))
          go_ret
          exact ⟨by first | rfl | (simp [errW_none, errW_some] <;> rfl) | (simp [*, errW_none, errW_some] <;> rfl), by repeat (first | (with_reducible first | exact HB.out | apply below_alloc | apply pw_below_drewN | apply below_drew1) | exact HB.out)⟩
        · rw [if_neg c5] at H
          have c5b0 : decide (a0 < 10) = false := decide_eq_false c5
          clear c5
          replace H := Option.bind_eq_some_iff.mp H
          obtain ⟨t116, A90, H⟩ := H
          replace H : ((mullionref01_PutNumber.f kj1 (Int.tmod a0 10)).bind fun t117 => (if t116.size + t117.size ≤ 9223372036854775807 then (some (t116 ++ t117)) else (none))) = some r := H
          have A9 := Aside0.mk A90
          clear A90
          replace H := Option.bind_eq_some_iff.mp H
          obtain ⟨t117, A100, H⟩ := H
          replace H : (if t116.size + t117.size ≤ 9223372036854775807 then (some (t116 ++ t117)) else (none)) = some r := H
          have A10 := Aside0.mk A100
          clear A100
          by_cases c11 : t116.size + t117.size ≤ 9223372036854775807
          · rw [if_pos c11] at H
            have c11b0 := eq_true c11
            have c11b1 : decide (t116.size + t117.size ≤ 9223372036854775807) = true := decide_eq_true c11
            try have c11b2 : (9223372036854775807 < t116.size + t117.size) = False := eq_false (Nat.not_lt.2 c11)
            obtain rfl := Option.some.inj H
            go_wp2_with (first | ((with_reducible refine gate_callee (f := 8) rfl ?_); refine goesL_ (some 18) rfl rfl Tryd.func8 (by kernel_rfl) rfl #[.int .i64 (wrap64 (Int.tdiv a0 10))] rfl (by (try simp only [List.map_toArray, List.map_cons, List.map_nil]); first | done | rfl | (simp only [List.length_drop, List.length_take]; rfl)) ?_; (with_reducible refine (ih kj1 (by have := HJ1.out; omega) (wrap64 (Int.tdiv a0 10)) t116 _ A9.out).mono ?_); rintro e w12 ⟨rfl, hb⟩; refine ⟨_, rfl, ?_⟩; have n0_ := Aside0.mk (below_step (by repeat (first | (with_reducible first | exact HB.out | apply below_alloc | apply pw_below_drewN | apply below_drew1) | exact HB.out)) hb); clear HB; have HB := n0_; clear n0_; (try clear hb); (try clear hb2); (try clear hk); (try clear hi)) | ((with_reducible refine gate_callee (f := 8) rfl ?_); refine goesL_ (some 21) rfl rfl Tryd.func8 (by kernel_rfl) rfl #[.int .i64 (Int.tmod a0 10)] rfl (by (try simp only [List.map_toArray, List.map_cons, List.map_nil]); first | done | rfl | (simp only [List.length_drop, List.length_take]; rfl)) ?_; (with_reducible refine (ih kj1 (by have := HJ1.out; omega) (Int.tmod a0 10) t117 _ A10.out).mono ?_); rintro e w13 ⟨rfl, hb⟩; refine ⟨_, rfl, ?_⟩; have n0_ := Aside0.mk (below_step (by repeat (first | (with_reducible first | exact HB.out | apply below_alloc | apply pw_below_drewN | apply below_drew1) | exact HB.out)) hb); clear HB; have HB := n0_; clear n0_; (try clear hb); (try clear hb2); (try clear hk); (try clear hi)))
            go_ret
            exact ⟨by first | rfl | (simp [errW_none, errW_some] <;> rfl) | (simp [*, errW_none, errW_some] <;> rfl), by repeat (first | (with_reducible first | exact HB.out | apply below_alloc | apply pw_below_drewN | apply below_drew1) | exact HB.out)⟩
          · rw [if_neg c11] at H
            exact absurd H (by simp)

end Go.Proofs.YtednollcioekhaaDoor.PExec
