-- Printed by a program of this session (wip/fork) out of the translation. Lean checks it.
import Derived.Test.YtednollcioekhaaDoorPExecx0
import Derived.Test.YtednollcioekhaaDoorPExecx1
namespace Go.Proofs.YtednollcioekhaaDoor.PExec
open Go.Proofs.YtednollcioekhaaDoor.Given
open Go.RowKit Go.Proofs.YtednollcioekhaaDoorW.PrintWords Go.Proofs.YtednollcioekhaaDoorW.PrintLast Go.Proofs.YtednollcioekhaaDoorW.PrintMore
attribute [local go_sem] max2_int min2_int max_two min_two max_three min_three max_four min_four   -- for this text's walks alone
set_option linter.unusedVariables false
set_option linter.unusedSimpArgs false

/-! ### mullionref13_Message: function 5 -/
def mullionref13_Message.f (k : Nat) (a0 : Int) (a1 : ByteArray) : Option (ByteArray) := (mullionref13_phrase.f k a0).bind fun t118 => (if t118.toList = ([] : List UInt8) then ((mullionref01_PutNumber.f k a0).bind fun t119 => (if t119.toList = ([] : List UInt8) then (if a1.toList = ([] : List UInt8) then (some (⟨#[101, 114, 114, 111, 114]⟩ : ByteArray)) else (if 5 + 2 ≤ 9223372036854775807 then (if ((⟨#[101, 114, 114, 111, 114]⟩ : ByteArray) ++ (⟨#[58, 32]⟩ : ByteArray)).size + a1.size ≤ 9223372036854775807 then (some (((⟨#[101, 114, 114, 111, 114]⟩ : ByteArray) ++ (⟨#[58, 32]⟩ : ByteArray)) ++ a1)) else (none)) else (none))) else (if 5 + 1 ≤ 9223372036854775807 then (if ((⟨#[101, 114, 114, 111, 114]⟩ : ByteArray) ++ (⟨#[32]⟩ : ByteArray)).size + t119.size ≤ 9223372036854775807 then (if a1.toList = ([] : List UInt8) then (some (((⟨#[101, 114, 114, 111, 114]⟩ : ByteArray) ++ (⟨#[32]⟩ : ByteArray)) ++ t119)) else (if (((⟨#[101, 114, 114, 111, 114]⟩ : ByteArray) ++ (⟨#[32]⟩ : ByteArray)) ++ t119).size + 2 ≤ 9223372036854775807 then (if ((((⟨#[101, 114, 114, 111, 114]⟩ : ByteArray) ++ (⟨#[32]⟩ : ByteArray)) ++ t119) ++ (⟨#[58, 32]⟩ : ByteArray)).size + a1.size ≤ 9223372036854775807 then (some (((((⟨#[101, 114, 114, 111, 114]⟩ : ByteArray) ++ (⟨#[32]⟩ : ByteArray)) ++ t119) ++ (⟨#[58, 32]⟩ : ByteArray)) ++ a1)) else (none)) else (none))) else (none)) else (none)))) else (if a1.toList = ([] : List UInt8) then (some t118) else (if t118.size + 2 ≤ 9223372036854775807 then (if (t118 ++ (⟨#[58, 32]⟩ : ByteArray)).size + a1.size ≤ 9223372036854775807 then (some ((t118 ++ (⟨#[58, 32]⟩ : ByteArray)) ++ a1)) else (none)) else (none))))
theorem mullionref13_Message.mono : ∀ a0 a1 k, LeO (mullionref13_Message.f k a0 a1) (mullionref13_Message.f (k + 1) a0 a1) := by
  intro a0 a1 k
  unfold mullionref13_Message.f
  repeat' first
      | (with_reducible exact mullionref01_PutNumber.mono _ _)
      | (with_reducible exact mullionref13_phrase.mono _ _)
      | (with_reducible exact LeO.refl _)
      | (with_reducible exact LeO.none _)
      | (with_reducible refine LeO.ite ?_ ?_)
      | (with_reducible refine LeO.bind ?_ (fun _ => ?_))
      | exact mullionref01_PutNumber.mono _ _
      | exact mullionref13_phrase.mono _ _
      | exact LeO.none _
      | refine LeO.ite ?_ ?_
      | refine LeO.bind ?_ (fun _ => ?_)
set_option maxHeartbeats 8000000 in
set_option maxRecDepth 100000 in
theorem mullionref13_Message.calls (k : Nat) (a0 : Int) (a1 : ByteArray) (r : ByteArray) (w : World) (h : mullionref13_Message.f k a0 a1 = some r) :
    Calls Tryd.prog 5 #[.int .i64 a0, .string a1] w fun e w' => e = .returned (.string r) ∧ Below w.heap.size w w' := by
  have HB := Aside0.mk (Below.refl w.heap.size w)
  have H : ((mullionref13_phrase.f k a0).bind fun t118 => (if t118.toList = ([] : List UInt8) then ((mullionref01_PutNumber.f k a0).bind fun t119 => (if t119.toList = ([] : List UInt8) then (if a1.toList = ([] : List UInt8) then (some (⟨#[101, 114, 114, 111, 114]⟩ : ByteArray)) else (if 5 + 2 ≤ 9223372036854775807 then (if ((⟨#[101, 114, 114, 111, 114]⟩ : ByteArray) ++ (⟨#[58, 32]⟩ : ByteArray)).size + a1.size ≤ 9223372036854775807 then (some (((⟨#[101, 114, 114, 111, 114]⟩ : ByteArray) ++ (⟨#[58, 32]⟩ : ByteArray)) ++ a1)) else (none)) else (none))) else (if 5 + 1 ≤ 9223372036854775807 then (if ((⟨#[101, 114, 114, 111, 114]⟩ : ByteArray) ++ (⟨#[32]⟩ : ByteArray)).size + t119.size ≤ 9223372036854775807 then (if a1.toList = ([] : List UInt8) then (some (((⟨#[101, 114, 114, 111, 114]⟩ : ByteArray) ++ (⟨#[32]⟩ : ByteArray)) ++ t119)) else (if (((⟨#[101, 114, 114, 111, 114]⟩ : ByteArray) ++ (⟨#[32]⟩ : ByteArray)) ++ t119).size + 2 ≤ 9223372036854775807 then (if ((((⟨#[101, 114, 114, 111, 114]⟩ : ByteArray) ++ (⟨#[32]⟩ : ByteArray)) ++ t119) ++ (⟨#[58, 32]⟩ : ByteArray)).size + a1.size ≤ 9223372036854775807 then (some (((((⟨#[101, 114, 114, 111, 114]⟩ : ByteArray) ++ (⟨#[32]⟩ : ByteArray)) ++ t119) ++ (⟨#[58, 32]⟩ : ByteArray)) ++ a1)) else (none)) else (none))) else (none)) else (none)))) else (if a1.toList = ([] : List UInt8) then (some t118) else (if t118.size + 2 ≤ 9223372036854775807 then (if (t118 ++ (⟨#[58, 32]⟩ : ByteArray)).size + a1.size ≤ 9223372036854775807 then (some ((t118 ++ (⟨#[58, 32]⟩ : ByteArray)) ++ a1)) else (none)) else (none))))) = some r := h
  clear h
  replace H := Option.bind_eq_some_iff.mp H
  obtain ⟨t118, A30, H⟩ := H
  replace H : (if t118.toList = ([] : List UInt8) then ((mullionref01_PutNumber.f k a0).bind fun t119 => (if t119.toList = ([] : List UInt8) then (if a1.toList = ([] : List UInt8) then (some (⟨#[101, 114, 114, 111, 114]⟩ : ByteArray)) else (if 5 + 2 ≤ 9223372036854775807 then (if ((⟨#[101, 114, 114, 111, 114]⟩ : ByteArray) ++ (⟨#[58, 32]⟩ : ByteArray)).size + a1.size ≤ 9223372036854775807 then (some (((⟨#[101, 114, 114, 111, 114]⟩ : ByteArray) ++ (⟨#[58, 32]⟩ : ByteArray)) ++ a1)) else (none)) else (none))) else (if 5 + 1 ≤ 9223372036854775807 then (if ((⟨#[101, 114, 114, 111, 114]⟩ : ByteArray) ++ (⟨#[32]⟩ : ByteArray)).size + t119.size ≤ 9223372036854775807 then (if a1.toList = ([] : List UInt8) then (some (((⟨#[101, 114, 114, 111, 114]⟩ : ByteArray) ++ (⟨#[32]⟩ : ByteArray)) ++ t119)) else (if (((⟨#[101, 114, 114, 111, 114]⟩ : ByteArray) ++ (⟨#[32]⟩ : ByteArray)) ++ t119).size + 2 ≤ 9223372036854775807 then (if ((((⟨#[101, 114, 114, 111, 114]⟩ : ByteArray) ++ (⟨#[32]⟩ : ByteArray)) ++ t119) ++ (⟨#[58, 32]⟩ : ByteArray)).size + a1.size ≤ 9223372036854775807 then (some (((((⟨#[101, 114, 114, 111, 114]⟩ : ByteArray) ++ (⟨#[32]⟩ : ByteArray)) ++ t119) ++ (⟨#[58, 32]⟩ : ByteArray)) ++ a1)) else (none)) else (none))) else (none)) else (none)))) else (if a1.toList = ([] : List UInt8) then (some t118) else (if t118.size + 2 ≤ 9223372036854775807 then (if (t118 ++ (⟨#[58, 32]⟩ : ByteArray)).size + a1.size ≤ 9223372036854775807 then (some ((t118 ++ (⟨#[58, 32]⟩ : ByteArray)) ++ a1)) else (none)) else (none)))) = some r := H
  have A3 := Aside0.mk A30
  clear A30
  by_cases c4 : t118.toList = ([] : List UInt8)
  · rw [if_pos c4] at H
    have c4b0 : (t118.toList == ([] : List UInt8)) = true := beq_iff_eq.mpr c4
    have c4b1 : (t118.toList != ([] : List UInt8)) = false := bne_eq_false_iff_eq.mpr c4
    clear c4
    replace H := Option.bind_eq_some_iff.mp H
    obtain ⟨t119, A50, H⟩ := H
    replace H : (if t119.toList = ([] : List UInt8) then (if a1.toList = ([] : List UInt8) then (some (⟨#[101, 114, 114, 111, 114]⟩ : ByteArray)) else (if 5 + 2 ≤ 9223372036854775807 then (if ((⟨#[101, 114, 114, 111, 114]⟩ : ByteArray) ++ (⟨#[58, 32]⟩ : ByteArray)).size + a1.size ≤ 9223372036854775807 then (some (((⟨#[101, 114, 114, 111, 114]⟩ : ByteArray) ++ (⟨#[58, 32]⟩ : ByteArray)) ++ a1)) else (none)) else (none))) else (if 5 + 1 ≤ 9223372036854775807 then (if ((⟨#[101, 114, 114, 111, 114]⟩ : ByteArray) ++ (⟨#[32]⟩ : ByteArray)).size + t119.size ≤ 9223372036854775807 then (if a1.toList = ([] : List UInt8) then (some (((⟨#[101, 114, 114, 111, 114]⟩ : ByteArray) ++ (⟨#[32]⟩ : ByteArray)) ++ t119)) else (if (((⟨#[101, 114, 114, 111, 114]⟩ : ByteArray) ++ (⟨#[32]⟩ : ByteArray)) ++ t119).size + 2 ≤ 9223372036854775807 then (if ((((⟨#[101, 114, 114, 111, 114]⟩ : ByteArray) ++ (⟨#[32]⟩ : ByteArray)) ++ t119) ++ (⟨#[58, 32]⟩ : ByteArray)).size + a1.size ≤ 9223372036854775807 then (some (((((⟨#[101, 114, 114, 111, 114]⟩ : ByteArray) ++ (⟨#[32]⟩ : ByteArray)) ++ t119) ++ (⟨#[58, 32]⟩ : ByteArray)) ++ a1)) else (none)) else (none))) else (none)) else (none))) = some r := H
    have A5 := Aside0.mk A50
    clear A50
    by_cases c6 : t119.toList = ([] : List UInt8)
    · rw [if_pos c6] at H
      have c6b0 : (t119.toList == ([] : List UInt8)) = true := beq_iff_eq.mpr c6
      have c6b1 : (t119.toList != ([] : List UInt8)) = false := bne_eq_false_iff_eq.mpr c6
      clear c6
      by_cases c7 : a1.toList = ([] : List UInt8)
      · rw [if_pos c7] at H
        have c7b0 : (a1.toList == ([] : List UInt8)) = true := beq_iff_eq.mpr c7
        have c7b1 : (a1.toList != ([] : List UInt8)) = false := bne_eq_false_iff_eq.mpr c7
        clear c7
        obtain rfl := Option.some.inj H
        go_enter Tryd.func5, Tryd.ntmps5
        go_wp2_with (first | ((with_reducible refine gate_callee (f := 7) rfl ?_); refine goesL_ (some 8) rfl rfl Tryd.func7 (by kernel_rfl) rfl #[.int .i64 a0] rfl (by (try simp only [List.map_toArray, List.map_cons, List.map_nil]); first | done | rfl | (simp only [List.length_drop, List.length_take]; rfl)) ?_; (with_reducible refine (mullionref13_phrase.calls k a0 t118 _ A3.out).mono ?_); rintro e w8 ⟨rfl, hb⟩; refine ⟨_, rfl, ?_⟩; have n0_ := Aside0.mk (below_step (by repeat (first | (with_reducible first | exact HB.out | apply below_alloc | apply pw_below_drewN | apply below_drew1) | exact HB.out)) hb); clear HB; have HB := n0_; clear n0_; (try clear hb); (try clear hb2); (try clear hk); (try clear hi)) | ((with_reducible refine gate_callee (f := 8) rfl ?_); refine goesL_ (some 12) rfl rfl Tryd.func8 (by kernel_rfl) rfl #[.int .i64 a0] rfl (by (try simp only [List.map_toArray, List.map_cons, List.map_nil]); first | done | rfl | (simp only [List.length_drop, List.length_take]; rfl)) ?_; (with_reducible refine (mullionref01_PutNumber.calls k a0 t119 _ A5.out).mono ?_); rintro e w9 ⟨rfl, hb⟩; refine ⟨_, rfl, ?_⟩; have n0_ := Aside0.mk (below_step (by repeat (first | (with_reducible first | exact HB.out | apply below_alloc | apply pw_below_drewN | apply below_drew1) | exact HB.out)) hb); clear HB; have HB := n0_; clear n0_; (try clear hb); (try clear hb2); (try clear hk); (try clear hi)))
        go_ret
        exact ⟨by first | rfl | (simp [errW_none, errW_some] <;> rfl) | (simp [*, errW_none, errW_some] <;> rfl), by repeat (first | (with_reducible first | exact HB.out | apply below_alloc | apply pw_below_drewN | apply below_drew1) | exact HB.out)⟩
      · rw [if_neg c7] at H
        have c7b0 : (a1.toList == ([] : List UInt8)) = false := beq_eq_false_iff_ne.mpr c7
        have c7b1 : (a1.toList != ([] : List UInt8)) = true := bne_iff_ne.mpr c7
        by_cases c10 : 5 + 2 ≤ 9223372036854775807
        · rw [if_pos c10] at H
          have c10b0 := eq_true c10
          have c10b1 : decide (5 + 2 ≤ 9223372036854775807) = true := decide_eq_true c10
          try have c10b2 : (9223372036854775807 < 5 + 2) = False := eq_false (Nat.not_lt.2 c10)
          by_cases c11 : ((⟨#[101, 114, 114, 111, 114]⟩ : ByteArray) ++ (⟨#[58, 32]⟩ : ByteArray)).size + a1.size ≤ 9223372036854775807
          · rw [if_pos c11] at H
            have c11b0 := eq_true c11
            have c11b1 : decide (((⟨#[101, 114, 114, 111, 114]⟩ : ByteArray) ++ (⟨#[58, 32]⟩ : ByteArray)).size + a1.size ≤ 9223372036854775807) = true := decide_eq_true c11
            try have c11b2 : (9223372036854775807 < ((⟨#[101, 114, 114, 111, 114]⟩ : ByteArray) ++ (⟨#[58, 32]⟩ : ByteArray)).size + a1.size) = False := eq_false (Nat.not_lt.2 c11)
            try (have c11b3 := c11; simp [size_mk] at c11b3)
            obtain rfl := Option.some.inj H
            go_enter Tryd.func5, Tryd.ntmps5
            go_wp2_with (first | ((with_reducible refine gate_callee (f := 7) rfl ?_); refine goesL_ (some 8) rfl rfl Tryd.func7 (by kernel_rfl) rfl #[.int .i64 a0] rfl (by (try simp only [List.map_toArray, List.map_cons, List.map_nil]); first | done | rfl | (simp only [List.length_drop, List.length_take]; rfl)) ?_; (with_reducible refine (mullionref13_phrase.calls k a0 t118 _ A3.out).mono ?_); rintro e w12 ⟨rfl, hb⟩; refine ⟨_, rfl, ?_⟩; have n0_ := Aside0.mk (below_step (by repeat (first | (with_reducible first | exact HB.out | apply below_alloc | apply pw_below_drewN | apply below_drew1) | exact HB.out)) hb); clear HB; have HB := n0_; clear n0_; (try clear hb); (try clear hb2); (try clear hk); (try clear hi)) | ((with_reducible refine gate_callee (f := 8) rfl ?_); refine goesL_ (some 12) rfl rfl Tryd.func8 (by kernel_rfl) rfl #[.int .i64 a0] rfl (by (try simp only [List.map_toArray, List.map_cons, List.map_nil]); first | done | rfl | (simp only [List.length_drop, List.length_take]; rfl)) ?_; (with_reducible refine (mullionref01_PutNumber.calls k a0 t119 _ A5.out).mono ?_); rintro e w13 ⟨rfl, hb⟩; refine ⟨_, rfl, ?_⟩; have n0_ := Aside0.mk (below_step (by repeat (first | (with_reducible first | exact HB.out | apply below_alloc | apply pw_below_drewN | apply below_drew1) | exact HB.out)) hb); clear HB; have HB := n0_; clear n0_; (try clear hb); (try clear hb2); (try clear hk); (try clear hi)))
            go_ret
            exact ⟨by first | rfl | (simp [errW_none, errW_some] <;> rfl) | (simp [*, errW_none, errW_some] <;> rfl), by repeat (first | (with_reducible first | exact HB.out | apply below_alloc | apply pw_below_drewN | apply below_drew1) | exact HB.out)⟩
          · rw [if_neg c11] at H
            exact absurd H (by simp)
        · rw [if_neg c10] at H
          exact absurd H (by simp)
    · rw [if_neg c6] at H
      have c6b0 : (t119.toList == ([] : List UInt8)) = false := beq_eq_false_iff_ne.mpr c6
      have c6b1 : (t119.toList != ([] : List UInt8)) = true := bne_iff_ne.mpr c6
      by_cases c14 : 5 + 1 ≤ 9223372036854775807
      · rw [if_pos c14] at H
        have c14b0 := eq_true c14
        have c14b1 : decide (5 + 1 ≤ 9223372036854775807) = true := decide_eq_true c14
        try have c14b2 : (9223372036854775807 < 5 + 1) = False := eq_false (Nat.not_lt.2 c14)
        by_cases c15 : ((⟨#[101, 114, 114, 111, 114]⟩ : ByteArray) ++ (⟨#[32]⟩ : ByteArray)).size + t119.size ≤ 9223372036854775807
        · rw [if_pos c15] at H
          have c15b0 := eq_true c15
          have c15b1 : decide (((⟨#[101, 114, 114, 111, 114]⟩ : ByteArray) ++ (⟨#[32]⟩ : ByteArray)).size + t119.size ≤ 9223372036854775807) = true := decide_eq_true c15
          try have c15b2 : (9223372036854775807 < ((⟨#[101, 114, 114, 111, 114]⟩ : ByteArray) ++ (⟨#[32]⟩ : ByteArray)).size + t119.size) = False := eq_false (Nat.not_lt.2 c15)
          try (have c15b3 := c15; simp [size_mk] at c15b3)
          by_cases c16 : a1.toList = ([] : List UInt8)
          · rw [if_pos c16] at H
            have c16b0 : (a1.toList == ([] : List UInt8)) = true := beq_iff_eq.mpr c16
            have c16b1 : (a1.toList != ([] : List UInt8)) = false := bne_eq_false_iff_eq.mpr c16
            clear c16
            obtain rfl := Option.some.inj H
            go_enter Tryd.func5, Tryd.ntmps5
            go_wp2_with (first | ((with_reducible refine gate_callee (f := 7) rfl ?_); refine goesL_ (some 8) rfl rfl Tryd.func7 (by kernel_rfl) rfl #[.int .i64 a0] rfl (by (try simp only [List.map_toArray, List.map_cons, List.map_nil]); first | done | rfl | (simp only [List.length_drop, List.length_take]; rfl)) ?_; (with_reducible refine (mullionref13_phrase.calls k a0 t118 _ A3.out).mono ?_); rintro e w17 ⟨rfl, hb⟩; refine ⟨_, rfl, ?_⟩; have n0_ := Aside0.mk (below_step (by repeat (first | (with_reducible first | exact HB.out | apply below_alloc | apply pw_below_drewN | apply below_drew1) | exact HB.out)) hb); clear HB; have HB := n0_; clear n0_; (try clear hb); (try clear hb2); (try clear hk); (try clear hi)) | ((with_reducible refine gate_callee (f := 8) rfl ?_); refine goesL_ (some 12) rfl rfl Tryd.func8 (by kernel_rfl) rfl #[.int .i64 a0] rfl (by (try simp only [List.map_toArray, List.map_cons, List.map_nil]); first | done | rfl | (simp only [List.length_drop, List.length_take]; rfl)) ?_; (with_reducible refine (mullionref01_PutNumber.calls k a0 t119 _ A5.out).mono ?_); rintro e w18 ⟨rfl, hb⟩; refine ⟨_, rfl, ?_⟩; have n0_ := Aside0.mk (below_step (by repeat (first | (with_reducible first | exact HB.out | apply below_alloc | apply pw_below_drewN | apply below_drew1) | exact HB.out)) hb); clear HB; have HB := n0_; clear n0_; (try clear hb); (try clear hb2); (try clear hk); (try clear hi)))
            go_ret
            exact ⟨by first | rfl | (simp [errW_none, errW_some] <;> rfl) | (simp [*, errW_none, errW_some] <;> rfl), by repeat (first | (with_reducible first | exact HB.out | apply below_alloc | apply pw_below_drewN | apply below_drew1) | exact HB.out)⟩
          · rw [if_neg c16] at H
            have c16b0 : (a1.toList == ([] : List UInt8)) = false := beq_eq_false_iff_ne.mpr c16
            have c16b1 : (a1.toList != ([] : List UInt8)) = true := bne_iff_ne.mpr c16
            by_cases c19 : (((⟨#[101, 114, 114, 111, 114]⟩ : ByteArray) ++ (⟨#[32]⟩ : ByteArray)) ++ t119).size + 2 ≤ 9223372036854775807
            · rw [if_pos c19] at H
              have c19b0 := eq_true c19
              have c19b1 : decide ((((⟨#[101, 114, 114, 111, 114]⟩ : ByteArray) ++ (⟨#[32]⟩ : ByteArray)) ++ t119).size + 2 ≤ 9223372036854775807) = true := decide_eq_true c19
              try have c19b2 : (9223372036854775807 < (((⟨#[101, 114, 114, 111, 114]⟩ : ByteArray) ++ (⟨#[32]⟩ : ByteArray)) ++ t119).size + 2) = False := eq_false (Nat.not_lt.2 c19)
              try (have c19b3 := c19; simp [size_mk] at c19b3)
              by_cases c20 : ((((⟨#[101, 114, 114, 111, 114]⟩ : ByteArray) ++ (⟨#[32]⟩ : ByteArray)) ++ t119) ++ (⟨#[58, 32]⟩ : ByteArray)).size + a1.size ≤ 9223372036854775807
              · rw [if_pos c20] at H
                have c20b0 := eq_true c20
                have c20b1 : decide (((((⟨#[101, 114, 114, 111, 114]⟩ : ByteArray) ++ (⟨#[32]⟩ : ByteArray)) ++ t119) ++ (⟨#[58, 32]⟩ : ByteArray)).size + a1.size ≤ 9223372036854775807) = true := decide_eq_true c20
                try have c20b2 : (9223372036854775807 < ((((⟨#[101, 114, 114, 111, 114]⟩ : ByteArray) ++ (⟨#[32]⟩ : ByteArray)) ++ t119) ++ (⟨#[58, 32]⟩ : ByteArray)).size + a1.size) = False := eq_false (Nat.not_lt.2 c20)
                try (have c20b3 := c20; simp [size_mk] at c20b3)
                obtain rfl := Option.some.inj H
                go_enter Tryd.func5, Tryd.ntmps5
                go_wp2_with (first | ((with_reducible refine gate_callee (f := 7) rfl ?_); refine goesL_ (some 8) rfl rfl Tryd.func7 (by kernel_rfl) rfl #[.int .i64 a0] rfl (by (try simp only [List.map_toArray, List.map_cons, List.map_nil]); first | done | rfl | (simp only [List.length_drop, List.length_take]; rfl)) ?_; (with_reducible refine (mullionref13_phrase.calls k a0 t118 _ A3.out).mono ?_); rintro e w21 ⟨rfl, hb⟩; refine ⟨_, rfl, ?_⟩; have n0_ := Aside0.mk (below_step (by repeat (first | (with_reducible first | exact HB.out | apply below_alloc | apply pw_below_drewN | apply below_drew1) | exact HB.out)) hb); clear HB; have HB := n0_; clear n0_; (try clear hb); (try clear hb2); (try clear hk); (try clear hi)) | ((with_reducible refine gate_callee (f := 8) rfl ?_); refine goesL_ (some 12) rfl rfl Tryd.func8 (by kernel_rfl) rfl #[.int .i64 a0] rfl (by (try simp only [List.map_toArray, List.map_cons, List.map_nil]); first | done | rfl | (simp only [List.length_drop, List.length_take]; rfl)) ?_; (with_reducible refine (mullionref01_PutNumber.calls k a0 t119 _ A5.out).mono ?_); rintro e w22 ⟨rfl, hb⟩; refine ⟨_, rfl, ?_⟩; have n0_ := Aside0.mk (below_step (by repeat (first | (with_reducible first | exact HB.out | apply below_alloc | apply pw_below_drewN | apply below_drew1) | exact HB.out)) hb); clear HB; have HB := n0_; clear n0_; (try clear hb); (try clear hb2); (try clear hk); (try clear hi)))
                go_ret
                exact ⟨by first | rfl | (simp [errW_none, errW_some] <;> rfl) | (simp [*, errW_none, errW_some] <;> rfl), by repeat (first | (with_reducible first | exact HB.out | apply below_alloc | apply pw_below_drewN | apply below_drew1) | exact HB.out)⟩
              · rw [if_neg c20] at H
                exact absurd H (by simp)
            · rw [if_neg c19] at H
              exact absurd H (by simp)
        · rw [if_neg c15] at H
          exact absurd H (by simp)
      · rw [if_neg c14] at H
        exact absurd H (by simp)
  · rw [if_neg c4] at H
    have c4b0 : (t118.toList == ([] : List UInt8)) = false := beq_eq_false_iff_ne.mpr c4
    have c4b1 : (t118.toList != ([] : List UInt8)) = true := bne_iff_ne.mpr c4
    by_cases c23 : a1.toList = ([] : List UInt8)
    · rw [if_pos c23] at H
      have c23b0 : (a1.toList == ([] : List UInt8)) = true := beq_iff_eq.mpr c23
      have c23b1 : (a1.toList != ([] : List UInt8)) = false := bne_eq_false_iff_eq.mpr c23
      clear c23
      obtain rfl := Option.some.inj H
      go_enter Tryd.func5, Tryd.ntmps5
      go_wp2_with (first | ((with_reducible refine gate_callee (f := 7) rfl ?_); refine goesL_ (some 8) rfl rfl Tryd.func7 (by kernel_rfl) rfl #[.int .i64 a0] rfl (by (try simp only [List.map_toArray, List.map_cons, List.map_nil]); first | done | rfl | (simp only [List.length_drop, List.length_take]; rfl)) ?_; (with_reducible refine (mullionref13_phrase.calls k a0 t118 _ A3.out).mono ?_); rintro e w24 ⟨rfl, hb⟩; refine ⟨_, rfl, ?_⟩; have n0_ := Aside0.mk (below_step (by repeat (first | (with_reducible first | exact HB.out | apply below_alloc | apply pw_below_drewN | apply below_drew1) | exact HB.out)) hb); clear HB; have HB := n0_; clear n0_; (try clear hb); (try clear hb2); (try clear hk); (try clear hi)))
      go_ret
      exact ⟨by first | rfl | (simp [errW_none, errW_some] <;> rfl) | (simp [*, errW_none, errW_some] <;> rfl), by repeat (first | (with_reducible first | exact HB.out | apply below_alloc | apply pw_below_drewN | apply below_drew1) | exact HB.out)⟩
    · rw [if_neg c23] at H
      have c23b0 : (a1.toList == ([] : List UInt8)) = false := beq_eq_false_iff_ne.mpr c23
      have c23b1 : (a1.toList != ([] : List UInt8)) = true := bne_iff_ne.mpr c23
      by_cases c25 : t118.size + 2 ≤ 9223372036854775807
      · rw [if_pos c25] at H
        have c25b0 := eq_true c25
        have c25b1 : decide (t118.size + 2 ≤ 9223372036854775807) = true := decide_eq_true c25
        try have c25b2 : (9223372036854775807 < t118.size + 2) = False := eq_false (Nat.not_lt.2 c25)
        by_cases c26 : (t118 ++ (⟨#[58, 32]⟩ : ByteArray)).size + a1.size ≤ 9223372036854775807
        · rw [if_pos c26] at H
          have c26b0 := eq_true c26
          have c26b1 : decide ((t118 ++ (⟨#[58, 32]⟩ : ByteArray)).size + a1.size ≤ 9223372036854775807) = true := decide_eq_true c26
          try have c26b2 : (9223372036854775807 < (t118 ++ (⟨#[58, 32]⟩ : ByteArray)).size + a1.size) = False := eq_false (Nat.not_lt.2 c26)
          try (have c26b3 := c26; simp [size_mk] at c26b3)
          obtain rfl := Option.some.inj H
          go_enter Tryd.func5, Tryd.ntmps5
          go_wp2_with (first | ((with_reducible refine gate_callee (f := 7) rfl ?_); refine goesL_ (some 8) rfl rfl Tryd.func7 (by kernel_rfl) rfl #[.int .i64 a0] rfl (by (try simp only [List.map_toArray, List.map_cons, List.map_nil]); first | done | rfl | (simp only [List.length_drop, List.length_take]; rfl)) ?_; (with_reducible refine (mullionref13_phrase.calls k a0 t118 _ A3.out).mono ?_); rintro e w27 ⟨rfl, hb⟩; refine ⟨_, rfl, ?_⟩; have n0_ := Aside0.mk (below_step (by repeat (first | (with_reducible first | exact HB.out | apply below_alloc | apply pw_below_drewN | apply below_drew1) | exact HB.out)) hb); clear HB; have HB := n0_; clear n0_; (try clear hb); (try clear hb2); (try clear hk); (try clear hi)))
          go_ret
          exact ⟨by first | rfl | (simp [errW_none, errW_some] <;> rfl) | (simp [*, errW_none, errW_some] <;> rfl), by repeat (first | (with_reducible first | exact HB.out | apply below_alloc | apply pw_below_drewN | apply below_drew1) | exact HB.out)⟩
        · rw [if_neg c26] at H
          exact absurd H (by simp)
      · rw [if_neg c25] at H
        exact absurd H (by simp)

/-! ### mullionlaw13_ExecMessages: function 3 -/
def mullionlaw13_ExecMessages.f (k : Nat) (a0 : Int) (a1 : ByteArray) : Option (Bool) := (exec_Message.f a0 a1).bind fun t120 => ((mullionref13_Message.f k a0 a1).bind fun t121 => (if t120.toList = t121.toList then ((exec_Message.f 110 (⟨#[120]⟩ : ByteArray)).bind fun t122 => (some (t122.toList == ([110, 111, 116, 32, 102, 111, 117, 110, 100, 58, 32, 120] : List UInt8)))) else (some false)))
theorem mullionlaw13_ExecMessages.mono : ∀ a0 a1 k, LeO (mullionlaw13_ExecMessages.f k a0 a1) (mullionlaw13_ExecMessages.f (k + 1) a0 a1) := by
  intro a0 a1 k
  unfold mullionlaw13_ExecMessages.f
  repeat' first
      | (with_reducible exact mullionref13_Message.mono _ _ _)
      | (with_reducible exact LeO.refl _)
      | (with_reducible exact LeO.none _)
      | (with_reducible refine LeO.ite ?_ ?_)
      | (with_reducible refine LeO.bind ?_ (fun _ => ?_))
      | exact mullionref13_Message.mono _ _ _
      | exact LeO.none _
      | refine LeO.ite ?_ ?_
      | refine LeO.bind ?_ (fun _ => ?_)
set_option maxHeartbeats 8000000 in
set_option maxRecDepth 100000 in
theorem mullionlaw13_ExecMessages.calls (k : Nat) (a0 : Int) (a1 : ByteArray) (r : Bool) (w : World) (hL : LaidW w) (h : mullionlaw13_ExecMessages.f k a0 a1 = some r) :
    Calls Tryd.prog 3 #[.int .i64 a0, .string a1] w fun e w' => e = .returned (.bool r) ∧ Below w.heap.size w w' := by
  have HB := Aside0.mk (Below.refl w.heap.size w)
  have H : ((exec_Message.f a0 a1).bind fun t120 => ((mullionref13_Message.f k a0 a1).bind fun t121 => (if t120.toList = t121.toList then ((exec_Message.f 110 (⟨#[120]⟩ : ByteArray)).bind fun t122 => (some (t122.toList == ([110, 111, 116, 32, 102, 111, 117, 110, 100, 58, 32, 120] : List UInt8)))) else (some false)))) = some r := h
  clear h
  replace H := Option.bind_eq_some_iff.mp H
  obtain ⟨t120, A30, H⟩ := H
  replace H : ((mullionref13_Message.f k a0 a1).bind fun t121 => (if t120.toList = t121.toList then ((exec_Message.f 110 (⟨#[120]⟩ : ByteArray)).bind fun t122 => (some (t122.toList == ([110, 111, 116, 32, 102, 111, 117, 110, 100, 58, 32, 120] : List UInt8)))) else (some false))) = some r := H
  have A3 := Aside0.mk A30
  clear A30
  replace H := Option.bind_eq_some_iff.mp H
  obtain ⟨t121, A40, H⟩ := H
  replace H : (if t120.toList = t121.toList then ((exec_Message.f 110 (⟨#[120]⟩ : ByteArray)).bind fun t122 => (some (t122.toList == ([110, 111, 116, 32, 102, 111, 117, 110, 100, 58, 32, 120] : List UInt8)))) else (some false)) = some r := H
  have A4 := Aside0.mk A40
  clear A40
  by_cases c5 : t120.toList = t121.toList
  · rw [if_pos c5] at H
    have c5b0 : (t120.toList == t121.toList) = true := beq_iff_eq.mpr c5
    have c5b1 : (t120.toList != t121.toList) = false := bne_eq_false_iff_eq.mpr c5
    clear c5
    replace H := Option.bind_eq_some_iff.mp H
    obtain ⟨t122, A60, H⟩ := H
    replace H : (some (t122.toList == ([110, 111, 116, 32, 102, 111, 117, 110, 100, 58, 32, 120] : List UInt8))) = some r := H
    have A6 := Aside0.mk A60
    clear A60
    obtain rfl := Option.some.inj H
    go_enter Tryd.func3, Tryd.ntmps3
    go_wp2_with (first | ((with_reducible refine gate_callee (f := 4) rfl ?_); refine goesL_ (some 7) rfl rfl Tryd.func4 (by kernel_rfl) rfl #[.int .i64 a0, .string a1] rfl (by (try simp only [List.map_toArray, List.map_cons, List.map_nil]); first | done | rfl | (simp only [List.length_drop, List.length_take]; rfl)) ?_; (with_reducible refine (exec_Message.calls a0 a1 t120 _ (LaidW.below hL (by repeat (first | (with_reducible first | exact HB.out | apply below_alloc | apply pw_below_drewN | apply below_drew1) | exact HB.out))) A3.out).mono ?_); rintro e w7 ⟨rfl, hb⟩; refine ⟨_, rfl, ?_⟩; have n0_ := Aside0.mk (below_step (by repeat (first | (with_reducible first | exact HB.out | apply below_alloc | apply pw_below_drewN | apply below_drew1) | exact HB.out)) hb); clear HB; have HB := n0_; clear n0_; (try clear hb); (try clear hb2); (try clear hk); (try clear hi)) | ((with_reducible refine gate_callee (f := 5) rfl ?_); refine goesL_ (some 10) rfl rfl Tryd.func5 (by kernel_rfl) rfl #[.int .i64 a0, .string a1] rfl (by (try simp only [List.map_toArray, List.map_cons, List.map_nil]); first | done | rfl | (simp only [List.length_drop, List.length_take]; rfl)) ?_; (with_reducible refine (mullionref13_Message.calls k a0 a1 t121 _ A4.out).mono ?_); rintro e w8 ⟨rfl, hb⟩; refine ⟨_, rfl, ?_⟩; have n0_ := Aside0.mk (below_step (by repeat (first | (with_reducible first | exact HB.out | apply below_alloc | apply pw_below_drewN | apply below_drew1) | exact HB.out)) hb); clear HB; have HB := n0_; clear n0_; (try clear hb); (try clear hb2); (try clear hk); (try clear hi)) | (go_at_call 4; (with_reducible refine (exec_Message.calls 110 (⟨#[120]⟩ : ByteArray) t122 _ (LaidW.below hL (by repeat (first | (with_reducible first | exact HB.out | apply below_alloc | apply pw_below_drewN | apply below_drew1) | exact HB.out))) A6.out).mono ?_); rintro e w9 ⟨rfl, hb⟩; have n0_ := Aside0.mk (below_step (by repeat (first | (with_reducible first | exact HB.out | apply below_alloc | apply pw_below_drewN | apply below_drew1) | exact HB.out)) hb); clear HB; have HB := n0_; clear n0_; (try clear hb); (try clear hb2); (try clear hk); (try clear hi)))
    go_ret
    exact ⟨by first | rfl | (simp [errW_none, errW_some] <;> rfl) | (simp [*, errW_none, errW_some] <;> rfl), by repeat (first | (with_reducible first | exact HB.out | apply below_alloc | apply pw_below_drewN | apply below_drew1) | exact HB.out)⟩
  · rw [if_neg c5] at H
    have c5b0 : (t120.toList == t121.toList) = false := beq_eq_false_iff_ne.mpr c5
    have c5b1 : (t120.toList != t121.toList) = true := bne_iff_ne.mpr c5
    obtain rfl := Option.some.inj H
    go_enter Tryd.func3, Tryd.ntmps3
    go_wp2_with (first | ((with_reducible refine gate_callee (f := 4) rfl ?_); refine goesL_ (some 7) rfl rfl Tryd.func4 (by kernel_rfl) rfl #[.int .i64 a0, .string a1] rfl (by (try simp only [List.map_toArray, List.map_cons, List.map_nil]); first | done | rfl | (simp only [List.length_drop, List.length_take]; rfl)) ?_; (with_reducible refine (exec_Message.calls a0 a1 t120 _ (LaidW.below hL (by repeat (first | (with_reducible first | exact HB.out | apply below_alloc | apply pw_below_drewN | apply below_drew1) | exact HB.out))) A3.out).mono ?_); rintro e w10 ⟨rfl, hb⟩; refine ⟨_, rfl, ?_⟩; have n0_ := Aside0.mk (below_step (by repeat (first | (with_reducible first | exact HB.out | apply below_alloc | apply pw_below_drewN | apply below_drew1) | exact HB.out)) hb); clear HB; have HB := n0_; clear n0_; (try clear hb); (try clear hb2); (try clear hk); (try clear hi)) | ((with_reducible refine gate_callee (f := 5) rfl ?_); refine goesL_ (some 10) rfl rfl Tryd.func5 (by kernel_rfl) rfl #[.int .i64 a0, .string a1] rfl (by (try simp only [List.map_toArray, List.map_cons, List.map_nil]); first | done | rfl | (simp only [List.length_drop, List.length_take]; rfl)) ?_; (with_reducible refine (mullionref13_Message.calls k a0 a1 t121 _ A4.out).mono ?_); rintro e w11 ⟨rfl, hb⟩; refine ⟨_, rfl, ?_⟩; have n0_ := Aside0.mk (below_step (by repeat (first | (with_reducible first | exact HB.out | apply below_alloc | apply pw_below_drewN | apply below_drew1) | exact HB.out)) hb); clear HB; have HB := n0_; clear n0_; (try clear hb); (try clear hb2); (try clear hk); (try clear hi)))
    go_ret
    exact ⟨by first | rfl | (simp [errW_none, errW_some] <;> rfl) | (simp [*, errW_none, errW_some] <;> rfl), by repeat (first | (with_reducible first | exact HB.out | apply below_alloc | apply pw_below_drewN | apply below_drew1) | exact HB.out)⟩

/-- THE ONE PURE STATEMENT of mullionlaw13_ExecMessages: yours. -/
def mullionlaw13_ExecMessages.Pure : Prop := ∀ (a0 : Int) (a1 : ByteArray), (Lit.int .i64 a0).wf = true → a1.size ≤ 140737488351232 → ∃ k, mullionlaw13_ExecMessages.f k a0 a1 = some true
theorem mullionlaw13_ExecMessages.walk (P : mullionlaw13_ExecMessages.Pure) (a0 : Int) (a1 : ByteArray) (w : World) (w0 : (Lit.int .i64 a0).wf = true) (w1 : a1.size ≤ 140737488351232) (hL : LaidW w) :
    Calls Tryd.prog 3 #[.int .i64 a0, .string a1] w fun e w' => e = .returned (.bool true) ∧ Below w.heap.size w w' := by
  obtain ⟨k, h⟩ := P a0 a1 w0 w1
  refine (mullionlaw13_ExecMessages.calls k a0 a1 true w hL h).mono ?_
  rintro e w' ⟨rfl, hd⟩
  exact ⟨rfl, hd⟩

end Go.Proofs.YtednollcioekhaaDoor.PExec
