/- Texts of this claim, put together by a program of this session (prune.py): PLwAx4, PLwAx5, PLwAx, PlainA, PlainB, PlainC, PlainD. -/
import Derived.Test.YtnblabfkkcohgaaGreatDoorQUCF
import Derived.Test.YtnblabfkkcohgaaGreatDoorQUCH
import Derived.Test.YtnblabfkkcohgaaGreatDoorQUCG
section
-- Printed by a program of this session (wip/fork) out of the translation. Lean checks it.
namespace Go.Proofs.YtnblabfkkcohgaaGreatDoor.PLwA
open Go.Proofs.YtnblabfkkcohgaaGreatDoor.LawG Go.Proofs.YtnblabfkkcohgaaGreatDoor.CutG Go.Proofs.YtnblabfkkcohgaaGreatDoor.Given
open Go.RowKit Go.Proofs.YtnblabfkkcohgaaGreatDoorW.PrintWords Go.Proofs.YtnblabfkkcohgaaGreatDoorW.PrintLast Go.Proofs.YtnblabfkkcohgaaGreatDoorW.PrintMore
attribute [local go_sem] max2_int min2_int max_two min_two max_three min_three max_four min_four   -- for this text's walks alone
set_option linter.unusedVariables false
set_option linter.unusedSimpArgs false
attribute [local go_sem high] field28

attribute [local go_sem high] eqA28
/-! ### mullionlaw03_WireForged: function 12 -/
mutual
def mullionlaw03_WireForged.j0 : Nat → ByteArray → Bool → Option (Bool)
  | 0, _, _ => none
  | k + 1, x0, x23 => if x23 = true then (some false) else ((given_Encode.f 5 0 0 1 0 0 0 0 0 (⟨#[]⟩ : ByteArray) x0 (⟨#[]⟩ : ByteArray) (⟨#[]⟩ : ByteArray) false).bind fun bt154 => (if (x0.size : Int) ≥ 1 then (mullionlaw03_WireForged.j1 k x0 bt154.2 bt154.1 (decide ((x0.size : Int) ≤ 256))) else (mullionlaw03_WireForged.j1 k x0 bt154.2 bt154.1 false)))
def mullionlaw03_WireForged.j1 : Nat → ByteArray → Int → ByteArray → Bool → Option (Bool)
  | 0, _, _, _, _ => none
  | k + 1, x0, x4, x5, x6 => if ((x4 == 0) != x6) = true then (mullionlaw03_WireForged.j2 k x0 true) else (if x6 = true then ((wire_Class.f k x5).bind fun t156 => (mullionlaw03_WireForged.j2 k x0 (t156 != 1))) else (mullionlaw03_WireForged.j2 k x0 false))
def mullionlaw03_WireForged.j2 : Nat → ByteArray → Bool → Option (Bool)
  | 0, _, _ => none
  | k + 1, x0, x49 => if x49 = true then (some false) else ((given_Encode.f 22 1 1 1 0 0 0 0 0 (⟨#[119]⟩ : ByteArray) x0 (⟨#[]⟩ : ByteArray) (⟨#[]⟩ : ByteArray) false).bind fun bt157 => ((given_Encode.f 23 0 0 0 0 0 0 0 0 (⟨#[]⟩ : ByteArray) x0 (⟨#[]⟩ : ByteArray) (⟨#[]⟩ : ByteArray) false).bind fun bt159 => (if ((bt157.2 == 0) != (decide ((x0.size : Int) ≤ 1024))) = true then (mullionlaw03_WireForged.j3 k bt157.1 bt159.1 (decide ((x0.size : Int) ≤ 1024)) true) else (mullionlaw03_WireForged.j3 k bt157.1 bt159.1 (decide ((x0.size : Int) ≤ 1024)) ((bt159.2 == 0) != (decide ((x0.size : Int) ≤ 1024)))))))
def mullionlaw03_WireForged.j3 : Nat → ByteArray → ByteArray → Bool → Bool → Option (Bool)
  | 0, _, _, _, _ => none
  | k + 1, x7, x8, x10, x74 => if x74 = true then (some false) else (if x10 = true then ((wire_Class.f k x7).bind fun t161 => (if t161 = 1 then ((wire_Class.f k x8).bind fun t162 => (some (t162 == 1))) else (some false))) else (some true))
end
def mullionlaw03_WireForged.f (k : Nat) (a0 : ByteArray) : Option (Bool) := (given_Encode.f 4 0 0 0 0 0 0 0 0 (⟨#[]⟩ : ByteArray) a0 (⟨#[]⟩ : ByteArray) (⟨#[]⟩ : ByteArray) false).bind fun bt151 => (if bt151.2 = 0 then ((wire_Class.f k bt151.1).bind fun t153 => (mullionlaw03_WireForged.j0 k a0 (t153 != 3))) else (mullionlaw03_WireForged.j0 k a0 true))
theorem mullionlaw03_WireForged.mono_l : ∀ k, (∀ y0 y1, LeO (mullionlaw03_WireForged.j0 k y0 y1) (mullionlaw03_WireForged.j0 (k + 1) y0 y1)) ∧ (∀ y0 y1 y2 y3, LeO (mullionlaw03_WireForged.j1 k y0 y1 y2 y3) (mullionlaw03_WireForged.j1 (k + 1) y0 y1 y2 y3)) ∧ (∀ y0 y1, LeO (mullionlaw03_WireForged.j2 k y0 y1) (mullionlaw03_WireForged.j2 (k + 1) y0 y1)) ∧ (∀ y0 y1 y2 y3, LeO (mullionlaw03_WireForged.j3 k y0 y1 y2 y3) (mullionlaw03_WireForged.j3 (k + 1) y0 y1 y2 y3))
  | 0 => ⟨fun _ _ r h => by simp [mullionlaw03_WireForged.j0] at h, fun _ _ _ _ r h => by simp [mullionlaw03_WireForged.j1] at h, fun _ _ r h => by simp [mullionlaw03_WireForged.j2] at h, fun _ _ _ _ r h => by simp [mullionlaw03_WireForged.j3] at h⟩
  | k + 1 => by
    obtain ⟨ih0, ih1, ih2, ih3⟩ := mullionlaw03_WireForged.mono_l k
    refine ⟨?_, ?_, ?_, ?_⟩
    · intro y0 y1
      unfold mullionlaw03_WireForged.j0
      repeat' first
      | (with_reducible exact ih0 _ _)
      | (with_reducible exact ih1 _ _ _ _)
      | (with_reducible exact ih2 _ _)
      | (with_reducible exact ih3 _ _ _ _)
      | (with_reducible exact wire_Class.mono _ _)
      | (with_reducible exact LeO.refl _)
      | (with_reducible exact LeO.none _)
      | (with_reducible refine LeO.ite ?_ ?_)
      | (with_reducible refine LeO.bind ?_ (fun _ => ?_))
      | exact ih0 _ _
      | exact ih1 _ _ _ _
      | exact ih2 _ _
      | exact ih3 _ _ _ _
      | exact wire_Class.mono _ _
      | exact LeO.none _
      | refine LeO.ite ?_ ?_
      | refine LeO.bind ?_ (fun _ => ?_)
    · intro y0 y1 y2 y3
      unfold mullionlaw03_WireForged.j1
      repeat' first
      | (with_reducible exact ih0 _ _)
      | (with_reducible exact ih1 _ _ _ _)
      | (with_reducible exact ih2 _ _)
      | (with_reducible exact ih3 _ _ _ _)
      | (with_reducible exact wire_Class.mono _ _)
      | (with_reducible exact LeO.refl _)
      | (with_reducible exact LeO.none _)
      | (with_reducible refine LeO.ite ?_ ?_)
      | (with_reducible refine LeO.bind ?_ (fun _ => ?_))
      | exact ih0 _ _
      | exact ih1 _ _ _ _
      | exact ih2 _ _
      | exact ih3 _ _ _ _
      | exact wire_Class.mono _ _
      | exact LeO.none _
      | refine LeO.ite ?_ ?_
      | refine LeO.bind ?_ (fun _ => ?_)
    · intro y0 y1
      unfold mullionlaw03_WireForged.j2
      repeat' first
      | (with_reducible exact ih0 _ _)
      | (with_reducible exact ih1 _ _ _ _)
      | (with_reducible exact ih2 _ _)
      | (with_reducible exact ih3 _ _ _ _)
      | (with_reducible exact wire_Class.mono _ _)
      | (with_reducible exact LeO.refl _)
      | (with_reducible exact LeO.none _)
      | (with_reducible refine LeO.ite ?_ ?_)
      | (with_reducible refine LeO.bind ?_ (fun _ => ?_))
      | exact ih0 _ _
      | exact ih1 _ _ _ _
      | exact ih2 _ _
      | exact ih3 _ _ _ _
      | exact wire_Class.mono _ _
      | exact LeO.none _
      | refine LeO.ite ?_ ?_
      | refine LeO.bind ?_ (fun _ => ?_)
    · intro y0 y1 y2 y3
      unfold mullionlaw03_WireForged.j3
      repeat' first
      | (with_reducible exact ih0 _ _)
      | (with_reducible exact ih1 _ _ _ _)
      | (with_reducible exact ih2 _ _)
      | (with_reducible exact ih3 _ _ _ _)
      | (with_reducible exact wire_Class.mono _ _)
      | (with_reducible exact LeO.refl _)
      | (with_reducible exact LeO.none _)
      | (with_reducible refine LeO.ite ?_ ?_)
      | (with_reducible refine LeO.bind ?_ (fun _ => ?_))
      | exact ih0 _ _
      | exact ih1 _ _ _ _
      | exact ih2 _ _
      | exact ih3 _ _ _ _
      | exact wire_Class.mono _ _
      | exact LeO.none _
      | refine LeO.ite ?_ ?_
      | refine LeO.bind ?_ (fun _ => ?_)
theorem mullionlaw03_WireForged.mono : ∀ a0 k, LeO (mullionlaw03_WireForged.f k a0) (mullionlaw03_WireForged.f (k + 1) a0) := by
  intro a0 k
  obtain ⟨ih0, ih1, ih2, ih3⟩ := mullionlaw03_WireForged.mono_l k
  unfold mullionlaw03_WireForged.f
  repeat' first
      | (with_reducible exact ih0 _ _)
      | (with_reducible exact ih1 _ _ _ _)
      | (with_reducible exact ih2 _ _)
      | (with_reducible exact ih3 _ _ _ _)
      | (with_reducible exact wire_Class.mono _ _)
      | (with_reducible exact LeO.refl _)
      | (with_reducible exact LeO.none _)
      | (with_reducible refine LeO.ite ?_ ?_)
      | (with_reducible refine LeO.bind ?_ (fun _ => ?_))
      | exact ih0 _ _
      | exact ih1 _ _ _ _
      | exact ih2 _ _
      | exact ih3 _ _ _ _
      | exact wire_Class.mono _ _
      | exact LeO.none _
      | refine LeO.ite ?_ ?_
      | refine LeO.bind ?_ (fun _ => ?_)
set_option maxHeartbeats 8000000 in
set_option maxRecDepth 100000 in
theorem mullionlaw03_WireForged.calls (k : Nat) (a0 : ByteArray) (r : Bool) (w : World) (hL : LaidW w) (h : mullionlaw03_WireForged.f k a0 = some r) :
    Calls Tryz.prog 12 #[.string a0] w fun e w' => e = .returned (.bool r) ∧ Below w.heap.size w w' := by
  have hu28 := Tryz.underlying28
  have HB := Aside0.mk (Below.refl w.heap.size w)
  have H : ((given_Encode.f 4 0 0 0 0 0 0 0 0 (⟨#[]⟩ : ByteArray) a0 (⟨#[]⟩ : ByteArray) (⟨#[]⟩ : ByteArray) false).bind fun bt151 => (if bt151.2 = 0 then ((wire_Class.f k bt151.1).bind fun t153 => (mullionlaw03_WireForged.j0 k a0 (t153 != 3))) else (mullionlaw03_WireForged.j0 k a0 true))) = some r := h
  clear h
  replace H := Option.bind_eq_some_iff.mp H
  obtain ⟨⟨t151, t152⟩, A20, H⟩ := H
  replace H : (if t152 = 0 then ((wire_Class.f k t151).bind fun t153 => (mullionlaw03_WireForged.j0 k a0 (t153 != 3))) else (mullionlaw03_WireForged.j0 k a0 true)) = some r := H
  have A2 := Aside0.mk A20
  clear A20
  have HC3 := Aside0.mk H
  clear H
  go_enter Tryz.func12, Tryz.ntmps12
  go_upto_region 2 with (first | ((with_reducible refine gate_callee (f := 21) rfl ?_); refine goesL_ (some 14) rfl rfl Tryz.func21 (by kernel_rfl) rfl #[.agg #[.int .i64 4, .int .i64 0, .int .i64 0, .int .i64 0, .int .i64 0, .int .i64 0, .int .i64 0, .int .i64 0, .int .i64 0, .string (⟨#[]⟩ : ByteArray), .string a0, .string (⟨#[]⟩ : ByteArray), .string (⟨#[]⟩ : ByteArray), .bool false]] rfl (by (try simp only [List.map_toArray, List.map_cons, List.map_nil]); first | done | rfl | (simp only [List.length_drop, List.length_take]; rfl)) ?_; (with_reducible refine (given_Encode.calls 4 0 0 0 0 0 0 0 0 (⟨#[]⟩ : ByteArray) a0 (⟨#[]⟩ : ByteArray) (⟨#[]⟩ : ByteArray) false t151 t152 _ (LaidW.below hL (by repeat (first | (with_reducible first | exact HB.out | apply below_alloc | apply pw_below_drewN | apply below_drew1) | exact HB.out))) A2.out).mono ?_); rintro e w4 ⟨rfl, hb⟩; refine ⟨_, rfl, ?_⟩; have n0_ := Aside0.mk (below_step (by repeat (first | (with_reducible first | exact HB.out | apply below_alloc | apply pw_below_drewN | apply below_drew1) | exact HB.out)) hb); clear HB; have HB := n0_; clear n0_; (try clear hb); (try clear hb2); (try clear hk); (try clear hi)))
  (try simp only [Act.put, List.setIfInBounds_toArray, List.set_cons_zero, List.set_cons_succ])
  go_cut [23] (fun v23 wc => ∃ (kq : Nat) (x23_2 : Bool), v23 = .bool x23_2 ∧ Aside0 (mullionlaw03_WireForged.j0 kq a0 x23_2 = some r) ∧ Aside0 (kq ≤ k) ∧ Aside0 (Below w.heap.size w wc))
  case first =>
    have H := HC3.out
    clear HC3
    by_cases c5 : t152 = 0
    · rw [if_pos c5] at H
      have c5b0 : (t152 == 0) = true := beq_iff_eq.mpr c5
      have c5b1 : (t152 != 0) = false := bne_eq_false_iff_eq.mpr c5
      clear c5
      (first | rw [c5b0] | (simp only [i64_w, i32_w]; rw [c5b0]) | skip)
      replace H := Option.bind_eq_some_iff.mp H
      obtain ⟨t153, A60, H⟩ := H
      replace H : (mullionlaw03_WireForged.j0 k a0 (t153 != 3)) = some r := H
      have A6 := Aside0.mk A60
      clear A60
      have H' := Aside0.mk H
      clear H
      go_wp2_with (first | (go_at_call 19; (with_reducible refine (wire_Class.calls k t151 t153 _ (LaidW.below hL (by repeat (first | (with_reducible first | exact HB.out | apply below_alloc | apply pw_below_drewN | apply below_drew1) | exact HB.out))) A6.out).mono ?_); rintro e w7 ⟨rfl, hb⟩; have n0_ := Aside0.mk (below_step (by repeat (first | (with_reducible first | exact HB.out | apply below_alloc | apply pw_below_drewN | apply below_drew1) | exact HB.out)) hb); clear HB; have HB := n0_; clear n0_; (try clear hb); (try clear hb2); (try clear hk); (try clear hi)))
      go_meet
      case rel => exact ⟨_, ((t153 != 3)), (by first | rfl | (simp; done) | (simp [*]; done)), H', ⟨by first | omega | exact Nat.le_refl _⟩, ⟨by repeat (first | (with_reducible first | exact HB.out | apply below_alloc | apply pw_below_drewN | apply below_drew1) | exact HB.out)⟩⟩
    · rw [if_neg c5] at H
      have c5b0 : (t152 == 0) = false := beq_eq_false_iff_ne.mpr c5
      have c5b1 : (t152 != 0) = true := bne_iff_ne.mpr c5
      (first | rw [c5b0] | (simp only [i64_w, i32_w]; rw [c5b0]) | skip)
      have H' := Aside0.mk H
      clear H
      go_wp2
      go_meet
      case rel => exact ⟨_, (true), (by first | rfl | (simp; done) | (simp [*]; done)), H', ⟨by first | omega | exact Nat.le_refl _⟩, ⟨by repeat (first | (with_reducible first | exact HB.out | apply below_alloc | apply pw_below_drewN | apply below_drew1) | exact HB.out)⟩⟩
  case rest =>
    clear HC3
    try clear c1
    try clear c2
    try clear p2
    try clear c5
    try clear c5b0
    try clear c5b1
    obtain ⟨kq, x23_2, rfl, HA, HJ2, HB⟩ := hcut
    cases kq with
    | zero => exact absurd HA.out (by simp [mullionlaw03_WireForged.j0])
    | succ kj2 =>
      have H := HA.out
      clear HA
      simp only [mullionlaw03_WireForged.j0] at H
      by_cases c8 : x23_2 = true
      · subst c8
        have H1 : (some false) = some r := by rw [if_pos rfl] at H; exact H
        clear H
        have H := H1
        clear H1
        obtain rfl := Option.some.inj H
        go_wp2
        go_ret
        exact ⟨by first | rfl | (simp [errW_none, errW_some] <;> rfl) | (simp [*, errW_none, errW_some] <;> rfl), by repeat (first | (with_reducible first | exact HB.out | apply below_alloc | apply pw_below_drewN | apply below_drew1) | exact HB.out)⟩
      · replace c8 := Bool.eq_false_iff.mpr c8
        subst c8
        have H1 : ((given_Encode.f 5 0 0 1 0 0 0 0 0 (⟨#[]⟩ : ByteArray) a0 (⟨#[]⟩ : ByteArray) (⟨#[]⟩ : ByteArray) false).bind fun bt154 => (if (a0.size : Int) ≥ 1 then (mullionlaw03_WireForged.j1 kj2 a0 bt154.2 bt154.1 (decide ((a0.size : Int) ≤ 256))) else (mullionlaw03_WireForged.j1 kj2 a0 bt154.2 bt154.1 false))) = some r := by rw [if_neg (show ¬ (false = true) by decide)] at H; exact H
        clear H
        have H := H1
        clear H1
        replace H := Option.bind_eq_some_iff.mp H
        obtain ⟨⟨t154, t155⟩, A90, H⟩ := H
        replace H : (if (a0.size : Int) ≥ 1 then (mullionlaw03_WireForged.j1 kj2 a0 t155 t154 (decide ((a0.size : Int) ≤ 256))) else (mullionlaw03_WireForged.j1 kj2 a0 t155 t154 false)) = some r := H
        have A9 := Aside0.mk A90
        clear A90
        have HC10 := Aside0.mk H
        clear H
        go_upto_region 5 with (first | ((with_reducible refine gate_callee (f := 21) rfl ?_); refine goesL_ (some 27) rfl rfl Tryz.func21 (by kernel_rfl) rfl #[.agg #[.int .i64 5, .int .i64 0, .int .i64 0, .int .i64 1, .int .i64 0, .int .i64 0, .int .i64 0, .int .i64 0, .int .i64 0, .string (⟨#[]⟩ : ByteArray), .string a0, .string (⟨#[]⟩ : ByteArray), .string (⟨#[]⟩ : ByteArray), .bool false]] rfl (by (try simp only [List.map_toArray, List.map_cons, List.map_nil]); first | done | rfl | (simp only [List.length_drop, List.length_take]; rfl)) ?_; (with_reducible refine (given_Encode.calls 5 0 0 1 0 0 0 0 0 (⟨#[]⟩ : ByteArray) a0 (⟨#[]⟩ : ByteArray) (⟨#[]⟩ : ByteArray) false t154 t155 _ (LaidW.below hL (by repeat (first | (with_reducible first | exact HB.out | apply below_alloc | apply pw_below_drewN | apply below_drew1) | exact HB.out))) A9.out).mono ?_); rintro e w11 ⟨rfl, hb⟩; refine ⟨_, rfl, ?_⟩; have n0_ := Aside0.mk (below_step (by repeat (first | (with_reducible first | exact HB.out | apply below_alloc | apply pw_below_drewN | apply below_drew1) | exact HB.out)) hb); clear HB; have HB := n0_; clear n0_; (try clear hb); (try clear hb2); (try clear hk); (try clear hi)))
        (try simp only [Act.put, List.setIfInBounds_toArray, List.set_cons_zero, List.set_cons_succ])
        go_cut [6] (fun v6 wc => ∃ (kq : Nat) (x6_9 : Bool), v6 = .bool x6_9 ∧ Aside0 (mullionlaw03_WireForged.j1 kq a0 t155 t154 x6_9 = some r) ∧ Aside0 (kq ≤ kj2) ∧ Aside0 (Below w.heap.size w wc))
        case first =>
          have H := HC10.out
          clear HC10
          by_cases c12 : (a0.size : Int) ≥ 1
          · rw [if_pos c12] at H
            have c12b0 : decide (1 ≤ (a0.size : Int)) = true := decide_eq_true c12
            have c12b1 : decide (1 ≤ a0.size) = true := decide_eq_true (by omega)
            clear c12
            (first | rw [c12b0] | (simp only [i64_w, i32_w]; rw [c12b0]) | skip)
            have H' := Aside0.mk H
            clear H
            go_wp2
            go_meet
            case rel => exact ⟨_, (decide ((a0.size : Int) ≤ 256)), (by first | rfl | (simp; done) | (simp [*]; done)), H', ⟨by have := HJ2.out; first | omega | exact Nat.le_refl _⟩, ⟨by repeat (first | (with_reducible first | exact HB.out | apply below_alloc | apply pw_below_drewN | apply below_drew1) | exact HB.out)⟩⟩
          · rw [if_neg c12] at H
            have c12b0 : decide (1 ≤ (a0.size : Int)) = false := decide_eq_false c12
            have c12b1 : decide (1 ≤ a0.size) = false := decide_eq_false (by omega)
            clear c12
            (first | rw [c12b0] | (simp only [i64_w, i32_w]; rw [c12b0]) | skip)
            have H' := Aside0.mk H
            clear H
            go_wp2
            go_meet
            case rel => exact ⟨_, (false), (by first | rfl | (simp; done) | (simp [*]; done)), H', ⟨by have := HJ2.out; first | omega | exact Nat.le_refl _⟩, ⟨by repeat (first | (with_reducible first | exact HB.out | apply below_alloc | apply pw_below_drewN | apply below_drew1) | exact HB.out)⟩⟩
        case rest =>
          clear HC10
          try clear c1
          try clear c2
          try clear p2
          try clear c5
          try clear c5b0
          try clear c5b1
          try clear c8
          try clear c12
          try clear c12b0
          try clear c12b1
          try clear p2
          obtain ⟨kq, x6_9, rfl, HA, HJ9, HB⟩ := hcut
          cases kq with
          | zero => exact absurd HA.out (by simp [mullionlaw03_WireForged.j1])
          | succ kj9 =>
            have H := HA.out
            clear HA
            simp only [mullionlaw03_WireForged.j1] at H
            have HC13 := Aside0.mk H
            clear H
            go_upto_region 6 with (fail)
            go_cut [49] (fun v49 wc => ∃ (kq : Nat) (x49_12 : Bool), v49 = .bool x49_12 ∧ Aside0 (mullionlaw03_WireForged.j2 kq a0 x49_12 = some r) ∧ Aside0 (kq ≤ kj9) ∧ Aside0 (Below w.heap.size w wc))
            case first =>
              have H := HC13.out
              clear HC13
              by_cases c14 : ((t155 == 0) != x6_9) = true
              · rw [if_pos c14] at H
                have c14b0 : ((t155 == 0) != x6_9) = true := c14
                (try (have c14b1 : decide ((t155 == 0) = x6_9) = false := by simpa using c14))
                (try (have c14b2 : ((t155 == 0) == x6_9) = false := by simpa using c14))
                (try (have c14b3 : ¬ ((t155 == 0) = x6_9) := by simpa using c14))
                clear c14
                (first | rw [c14b0] | (simp only [i64_w, i32_w]; rw [c14b0]) | skip)
                have H' := Aside0.mk H
                clear H
                go_wp2
                go_meet
                case rel => exact ⟨_, (true), (by first | rfl | (simp; done) | (simp [*]; done)), H', ⟨by have := HJ2.out; have := HJ9.out; first | omega | exact Nat.le_refl _⟩, ⟨by repeat (first | (with_reducible first | exact HB.out | apply below_alloc | apply pw_below_drewN | apply below_drew1) | exact HB.out)⟩⟩
              · rw [if_neg c14] at H
                have c14b0 : ((t155 == 0) != x6_9) = false := by simpa using c14
                (try (have c14b1 : decide ((t155 == 0) = x6_9) = true := by simpa using c14))
                (try (have c14b2 : ((t155 == 0) == x6_9) = true := by simpa using c14))
                clear c14
                (first | rw [c14b0] | (simp only [i64_w, i32_w]; rw [c14b0]) | skip)
                by_cases c15 : x6_9 = true
                · subst c15
                  have H1 : ((wire_Class.f kj9 t154).bind fun t156 => (mullionlaw03_WireForged.j2 kj9 a0 (t156 != 1))) = some r := by rw [if_pos rfl] at H; exact H
                  clear H
                  have H := H1
                  clear H1
                  replace H := Option.bind_eq_some_iff.mp H
                  obtain ⟨t156, A160, H⟩ := H
                  replace H : (mullionlaw03_WireForged.j2 kj9 a0 (t156 != 1)) = some r := H
                  have A16 := Aside0.mk A160
                  clear A160
                  have H' := Aside0.mk H
                  clear H
                  go_wp2_with (first | (go_at_call 19; (with_reducible refine (wire_Class.calls kj9 t154 t156 _ (LaidW.below hL (by repeat (first | (with_reducible first | exact HB.out | apply below_alloc | apply pw_below_drewN | apply below_drew1) | exact HB.out))) A16.out).mono ?_); rintro e w17 ⟨rfl, hb⟩; have n0_ := Aside0.mk (below_step (by repeat (first | (with_reducible first | exact HB.out | apply below_alloc | apply pw_below_drewN | apply below_drew1) | exact HB.out)) hb); clear HB; have HB := n0_; clear n0_; (try clear hb); (try clear hb2); (try clear hk); (try clear hi)))
                  go_meet
                  case rel => exact ⟨_, ((t156 != 1)), (by first | rfl | (simp; done) | (simp [*]; done)), H', ⟨by have := HJ2.out; have := HJ9.out; first | omega | exact Nat.le_refl _⟩, ⟨by repeat (first | (with_reducible first | exact HB.out | apply below_alloc | apply pw_below_drewN | apply below_drew1) | exact HB.out)⟩⟩
                · replace c15 := Bool.eq_false_iff.mpr c15
                  subst c15
                  have H1 : (mullionlaw03_WireForged.j2 kj9 a0 false) = some r := by rw [if_neg (show ¬ (false = true) by decide)] at H; exact H
                  clear H
                  have H := H1
                  clear H1
                  have H' := Aside0.mk H
                  clear H
                  go_wp2
                  go_meet
                  case rel => exact ⟨_, (false), (by first | rfl | (simp; done) | (simp [*]; done)), H', ⟨by have := HJ2.out; have := HJ9.out; first | omega | exact Nat.le_refl _⟩, ⟨by repeat (first | (with_reducible first | exact HB.out | apply below_alloc | apply pw_below_drewN | apply below_drew1) | exact HB.out)⟩⟩
            case rest =>
              clear HC13
              try clear c1
              try clear c2
              try clear p2
              try clear c5
              try clear c5b0
              try clear c5b1
              try clear c8
              try clear c12
              try clear c12b0
              try clear c12b1
              try clear c14
              try clear c14b0
              try clear c14b1
              try clear c14b2
              try clear c15
              try clear p2
              obtain ⟨kq, x49_12, rfl, HA, HJ12, HB⟩ := hcut
              cases kq with
              | zero => exact absurd HA.out (by simp [mullionlaw03_WireForged.j2])
              | succ kj12 =>
                have H := HA.out
                clear HA
                simp only [mullionlaw03_WireForged.j2] at H
                by_cases c18 : x49_12 = true
                · subst c18
                  have H1 : (some false) = some r := by rw [if_pos rfl] at H; exact H
                  clear H
                  have H := H1
                  clear H1
                  obtain rfl := Option.some.inj H
                  go_wp2
                  go_ret
                  exact ⟨by first | rfl | (simp [errW_none, errW_some] <;> rfl) | (simp [*, errW_none, errW_some] <;> rfl), by repeat (first | (with_reducible first | exact HB.out | apply below_alloc | apply pw_below_drewN | apply below_drew1) | exact HB.out)⟩
                · replace c18 := Bool.eq_false_iff.mpr c18
                  subst c18
                  have H1 : ((given_Encode.f 22 1 1 1 0 0 0 0 0 (⟨#[119]⟩ : ByteArray) a0 (⟨#[]⟩ : ByteArray) (⟨#[]⟩ : ByteArray) false).bind fun bt157 => ((given_Encode.f 23 0 0 0 0 0 0 0 0 (⟨#[]⟩ : ByteArray) a0 (⟨#[]⟩ : ByteArray) (⟨#[]⟩ : ByteArray) false).bind fun bt159 => (if ((bt157.2 == 0) != (decide ((a0.size : Int) ≤ 1024))) = true then (mullionlaw03_WireForged.j3 kj12 bt157.1 bt159.1 (decide ((a0.size : Int) ≤ 1024)) true) else (mullionlaw03_WireForged.j3 kj12 bt157.1 bt159.1 (decide ((a0.size : Int) ≤ 1024)) ((bt159.2 == 0) != (decide ((a0.size : Int) ≤ 1024))))))) = some r := by rw [if_neg (show ¬ (false = true) by decide)] at H; exact H
                  clear H
                  have H := H1
                  clear H1
                  replace H := Option.bind_eq_some_iff.mp H
                  obtain ⟨⟨t157, t158⟩, A190, H⟩ := H
                  replace H : ((given_Encode.f 23 0 0 0 0 0 0 0 0 (⟨#[]⟩ : ByteArray) a0 (⟨#[]⟩ : ByteArray) (⟨#[]⟩ : ByteArray) false).bind fun bt159 => (if ((t158 == 0) != (decide ((a0.size : Int) ≤ 1024))) = true then (mullionlaw03_WireForged.j3 kj12 t157 bt159.1 (decide ((a0.size : Int) ≤ 1024)) true) else (mullionlaw03_WireForged.j3 kj12 t157 bt159.1 (decide ((a0.size : Int) ≤ 1024)) ((bt159.2 == 0) != (decide ((a0.size : Int) ≤ 1024)))))) = some r := H
                  have A19 := Aside0.mk A190
                  clear A190
                  replace H := Option.bind_eq_some_iff.mp H
                  obtain ⟨⟨t159, t160⟩, A200, H⟩ := H
                  replace H : (if ((t158 == 0) != (decide ((a0.size : Int) ≤ 1024))) = true then (mullionlaw03_WireForged.j3 kj12 t157 t159 (decide ((a0.size : Int) ≤ 1024)) true) else (mullionlaw03_WireForged.j3 kj12 t157 t159 (decide ((a0.size : Int) ≤ 1024)) ((t160 == 0) != (decide ((a0.size : Int) ≤ 1024))))) = some r := H
                  have A20 := Aside0.mk A200
                  clear A200
                  have HC21 := Aside0.mk H
                  clear H
                  go_upto_region 11 with (first | ((with_reducible refine gate_callee (f := 21) rfl ?_); refine goesL_ (some 53) rfl rfl Tryz.func21 (by kernel_rfl) rfl #[.agg #[.int .i64 22, .int .i64 1, .int .i64 1, .int .i64 1, .int .i64 0, .int .i64 0, .int .i64 0, .int .i64 0, .int .i64 0, .string (⟨#[119]⟩ : ByteArray), .string a0, .string (⟨#[]⟩ : ByteArray), .string (⟨#[]⟩ : ByteArray), .bool false]] rfl (by (try simp only [List.map_toArray, List.map_cons, List.map_nil]); first | done | rfl | (simp only [List.length_drop, List.length_take]; rfl)) ?_; (with_reducible refine (given_Encode.calls 22 1 1 1 0 0 0 0 0 (⟨#[119]⟩ : ByteArray) a0 (⟨#[]⟩ : ByteArray) (⟨#[]⟩ : ByteArray) false t157 t158 _ (LaidW.below hL (by repeat (first | (with_reducible first | exact HB.out | apply below_alloc | apply pw_below_drewN | apply below_drew1) | exact HB.out))) A19.out).mono ?_); rintro e w22 ⟨rfl, hb⟩; refine ⟨_, rfl, ?_⟩; have n0_ := Aside0.mk (below_step (by repeat (first | (with_reducible first | exact HB.out | apply below_alloc | apply pw_below_drewN | apply below_drew1) | exact HB.out)) hb); clear HB; have HB := n0_; clear n0_; (try clear hb); (try clear hb2); (try clear hk); (try clear hi)) | ((with_reducible refine gate_callee (f := 21) rfl ?_); refine goesL_ (some 59) rfl rfl Tryz.func21 (by kernel_rfl) rfl #[.agg #[.int .i64 23, .int .i64 0, .int .i64 0, .int .i64 0, .int .i64 0, .int .i64 0, .int .i64 0, .int .i64 0, .int .i64 0, .string (⟨#[]⟩ : ByteArray), .string a0, .string (⟨#[]⟩ : ByteArray), .string (⟨#[]⟩ : ByteArray), .bool false]] rfl (by (try simp only [List.map_toArray, List.map_cons, List.map_nil]); first | done | rfl | (simp only [List.length_drop, List.length_take]; rfl)) ?_; (with_reducible refine (given_Encode.calls 23 0 0 0 0 0 0 0 0 (⟨#[]⟩ : ByteArray) a0 (⟨#[]⟩ : ByteArray) (⟨#[]⟩ : ByteArray) false t159 t160 _ (LaidW.below hL (by repeat (first | (with_reducible first | exact HB.out | apply below_alloc | apply pw_below_drewN | apply below_drew1) | exact HB.out))) A20.out).mono ?_); rintro e w23 ⟨rfl, hb⟩; refine ⟨_, rfl, ?_⟩; have n0_ := Aside0.mk (below_step (by repeat (first | (with_reducible first | exact HB.out | apply below_alloc | apply pw_below_drewN | apply below_drew1) | exact HB.out)) hb); clear HB; have HB := n0_; clear n0_; (try clear hb); (try clear hb2); (try clear hk); (try clear hi)))
                  (try simp only [Act.put, List.setIfInBounds_toArray, List.set_cons_zero, List.set_cons_succ])
                  go_cut [74] (fun v74 wc => ∃ (kq : Nat) (x74_20 : Bool), v74 = .bool x74_20 ∧ Aside0 (mullionlaw03_WireForged.j3 kq t157 t159 (decide ((a0.size : Int) ≤ 1024)) x74_20 = some r) ∧ Aside0 (kq ≤ kj12) ∧ Aside0 (Below w.heap.size w wc))
                  case first =>
                    have H := HC21.out
                    clear HC21
                    by_cases c24 : ((t158 == 0) != (decide ((a0.size : Int) ≤ 1024))) = true
                    · rw [if_pos c24] at H
                      have c24b0 : ((t158 == 0) != (decide ((a0.size : Int) ≤ 1024))) = true := c24
                      (try (have c24b1 : decide ((t158 == 0) = (decide ((a0.size : Int) ≤ 1024))) = false := by simpa using c24))
                      (try (have c24b2 : ((t158 == 0) == (decide ((a0.size : Int) ≤ 1024))) = false := by simpa using c24))
                      (try (have c24b3 : ¬ ((t158 == 0) = (decide ((a0.size : Int) ≤ 1024))) := by simpa using c24))
                      clear c24
                      (first | rw [c24b0] | (simp only [i64_w, i32_w]; rw [c24b0]) | skip)
                      have H' := Aside0.mk H
                      clear H
                      go_wp2
                      go_meet
                      case rel => exact ⟨_, (true), (by first | rfl | (simp; done) | (simp [*]; done)), H', ⟨by have := HJ2.out; have := HJ9.out; have := HJ12.out; first | omega | exact Nat.le_refl _⟩, ⟨by repeat (first | (with_reducible first | exact HB.out | apply below_alloc | apply pw_below_drewN | apply below_drew1) | exact HB.out)⟩⟩
                    · rw [if_neg c24] at H
                      have c24b0 : ((t158 == 0) != (decide ((a0.size : Int) ≤ 1024))) = false := by simpa using c24
                      (try (have c24b1 : decide ((t158 == 0) = (decide ((a0.size : Int) ≤ 1024))) = true := by simpa using c24))
                      (try (have c24b2 : ((t158 == 0) == (decide ((a0.size : Int) ≤ 1024))) = true := by simpa using c24))
                      clear c24
                      (first | rw [c24b0] | (simp only [i64_w, i32_w]; rw [c24b0]) | skip)
                      have H' := Aside0.mk H
                      clear H
                      go_wp2
                      go_meet
                      case rel => exact ⟨_, (((t160 == 0) != (decide ((a0.size : Int) ≤ 1024)))), (by first | rfl | (simp; done) | (simp [*]; done)), H', ⟨by have := HJ2.out; have := HJ9.out; have := HJ12.out; first | omega | exact Nat.le_refl _⟩, ⟨by repeat (first | (with_reducible first | exact HB.out | apply below_alloc | apply pw_below_drewN | apply below_drew1) | exact HB.out)⟩⟩
                  case rest =>
                    clear HC21
                    try clear c1
                    try clear c2
                    try clear p2
                    try clear c5
                    try clear c5b0
                    try clear c5b1
                    try clear c8
                    try clear c12
                    try clear c12b0
                    try clear c12b1
                    try clear c14
                    try clear c14b0
                    try clear c14b1
                    try clear c14b2
                    try clear c15
                    try clear c18
                    try clear c21
                    try clear c24
                    try clear c24b0
                    try clear c24b1
                    try clear c24b2
                    try clear p2
                    obtain ⟨kq, x74_20, rfl, HA, HJ20, HB⟩ := hcut
                    cases kq with
                    | zero => exact absurd HA.out (by simp [mullionlaw03_WireForged.j3])
                    | succ kj20 =>
                      have H := HA.out
                      clear HA
                      simp only [mullionlaw03_WireForged.j3] at H
                      by_cases c25 : x74_20 = true
                      · subst c25
                        have H1 : (some false) = some r := by rw [if_pos rfl] at H; exact H
                        clear H
                        have H := H1
                        clear H1
                        obtain rfl := Option.some.inj H
                        go_wp2
                        go_ret
                        exact ⟨by first | rfl | (simp [errW_none, errW_some] <;> rfl) | (simp [*, errW_none, errW_some] <;> rfl), by repeat (first | (with_reducible first | exact HB.out | apply below_alloc | apply pw_below_drewN | apply below_drew1) | exact HB.out)⟩
                      · replace c25 := Bool.eq_false_iff.mpr c25
                        subst c25
                        have H1 : (if (decide ((a0.size : Int) ≤ 1024)) = true then ((wire_Class.f kj20 t157).bind fun t161 => (if t161 = 1 then ((wire_Class.f kj20 t159).bind fun t162 => (some (t162 == 1))) else (some false))) else (some true)) = some r := by rw [if_neg (show ¬ (false = true) by decide)] at H; exact H
                        clear H
                        have H := H1
                        clear H1
                        by_cases c26 : (decide ((a0.size : Int) ≤ 1024)) = true
                        · rw [if_pos c26] at H
                          have c26b0 : (decide ((a0.size : Int) ≤ 1024)) = true := c26
                          clear c26
                          replace H := Option.bind_eq_some_iff.mp H
                          obtain ⟨t161, A270, H⟩ := H
                          replace H : (if t161 = 1 then ((wire_Class.f kj20 t159).bind fun t162 => (some (t162 == 1))) else (some false)) = some r := H
                          have A27 := Aside0.mk A270
                          clear A270
                          by_cases c28 : t161 = 1
                          · rw [if_pos c28] at H
                            have c28b0 : (t161 == 1) = true := beq_iff_eq.mpr c28
                            have c28b1 : (t161 != 1) = false := bne_eq_false_iff_eq.mpr c28
                            clear c28
                            replace H := Option.bind_eq_some_iff.mp H
                            obtain ⟨t162, A290, H⟩ := H
                            replace H : (some (t162 == 1)) = some r := H
                            have A29 := Aside0.mk A290
                            clear A290
                            obtain rfl := Option.some.inj H
                            go_wp2_with (first | (go_at_call 19; (with_reducible refine (wire_Class.calls kj20 t157 t161 _ (LaidW.below hL (by repeat (first | (with_reducible first | exact HB.out | apply below_alloc | apply pw_below_drewN | apply below_drew1) | exact HB.out))) A27.out).mono ?_); rintro e w30 ⟨rfl, hb⟩; have n0_ := Aside0.mk (below_step (by repeat (first | (with_reducible first | exact HB.out | apply below_alloc | apply pw_below_drewN | apply below_drew1) | exact HB.out)) hb); clear HB; have HB := n0_; clear n0_; (try clear hb); (try clear hb2); (try clear hk); (try clear hi)) | (go_at_call 19; (with_reducible refine (wire_Class.calls kj20 t159 t162 _ (LaidW.below hL (by repeat (first | (with_reducible first | exact HB.out | apply below_alloc | apply pw_below_drewN | apply below_drew1) | exact HB.out))) A29.out).mono ?_); rintro e w31 ⟨rfl, hb⟩; have n0_ := Aside0.mk (below_step (by repeat (first | (with_reducible first | exact HB.out | apply below_alloc | apply pw_below_drewN | apply below_drew1) | exact HB.out)) hb); clear HB; have HB := n0_; clear n0_; (try clear hb); (try clear hb2); (try clear hk); (try clear hi)))
                            go_ret
                            exact ⟨by first | rfl | (simp [errW_none, errW_some] <;> rfl) | (simp [*, errW_none, errW_some] <;> rfl), by repeat (first | (with_reducible first | exact HB.out | apply below_alloc | apply pw_below_drewN | apply below_drew1) | exact HB.out)⟩
                          · rw [if_neg c28] at H
                            have c28b0 : (t161 == 1) = false := beq_eq_false_iff_ne.mpr c28
                            have c28b1 : (t161 != 1) = true := bne_iff_ne.mpr c28
                            obtain rfl := Option.some.inj H
                            go_wp2_with (first | (go_at_call 19; (with_reducible refine (wire_Class.calls kj20 t157 t161 _ (LaidW.below hL (by repeat (first | (with_reducible first | exact HB.out | apply below_alloc | apply pw_below_drewN | apply below_drew1) | exact HB.out))) A27.out).mono ?_); rintro e w32 ⟨rfl, hb⟩; have n0_ := Aside0.mk (below_step (by repeat (first | (with_reducible first | exact HB.out | apply below_alloc | apply pw_below_drewN | apply below_drew1) | exact HB.out)) hb); clear HB; have HB := n0_; clear n0_; (try clear hb); (try clear hb2); (try clear hk); (try clear hi)))
                            go_ret
                            exact ⟨by first | rfl | (simp [errW_none, errW_some] <;> rfl) | (simp [*, errW_none, errW_some] <;> rfl), by repeat (first | (with_reducible first | exact HB.out | apply below_alloc | apply pw_below_drewN | apply below_drew1) | exact HB.out)⟩
                        · rw [if_neg c26] at H
                          have c26b0 : (decide ((a0.size : Int) ≤ 1024)) = false := by simpa using c26
                          clear c26
                          obtain rfl := Option.some.inj H
                          go_wp2
                          go_ret
                          exact ⟨by first | rfl | (simp [errW_none, errW_some] <;> rfl) | (simp [*, errW_none, errW_some] <;> rfl), by repeat (first | (with_reducible first | exact HB.out | apply below_alloc | apply pw_below_drewN | apply below_drew1) | exact HB.out)⟩

/-! ### mullionlaw03_same: function 18 -/
def mullionlaw03_same.l0 : Nat → List (S28) → List (S28) → Int → Option (Bool)
  | 0, _, _, _ => none
  | k + 1, x0, x1, x5 => if x5 < (x0.length : Int) then (if 0 ≤ x5 then (if x5 < (x1.length : Int) then (if (!(((rd_T28 x0 x5).f0) == ((rd_T28 x1 x5).f0)) || (!(((rd_T28 x0 x5).f1) == ((rd_T28 x1 x5).f1)) || (!(((rd_T28 x0 x5).f2) == ((rd_T28 x1 x5).f2)) || (!(((rd_T28 x0 x5).f3) == ((rd_T28 x1 x5).f3)) || (!(((rd_T28 x0 x5).f4) == ((rd_T28 x1 x5).f4)) || (!(((rd_T28 x0 x5).f5) == ((rd_T28 x1 x5).f5)) || (!(((rd_T28 x0 x5).f6) == ((rd_T28 x1 x5).f6)) || (!(((rd_T28 x0 x5).f7) == ((rd_T28 x1 x5).f7)) || (!(((rd_T28 x0 x5).f8) == ((rd_T28 x1 x5).f8)) || (!((((rd_T28 x0 x5).f9).toList) == (((rd_T28 x1 x5).f9).toList)) || (!((((rd_T28 x0 x5).f10).toList) == (((rd_T28 x1 x5).f10).toList)) || (!((((rd_T28 x0 x5).f11).toList) == (((rd_T28 x1 x5).f11).toList)) || (!((((rd_T28 x0 x5).f12).toList) == (((rd_T28 x1 x5).f12).toList)) || (!(((rd_T28 x0 x5).f13) == ((rd_T28 x1 x5).f13)))))))))))))))) = true then (some false) else (mullionlaw03_same.l0 k x0 x1 (wrap64 (x5 + 1)))) else (none)) else (none)) else (some true)
def mullionlaw03_same.f (k : Nat) (l0 : List (S28)) (l1 : List (S28)) : Option (Bool) := if (l0.length : Int) = (l1.length : Int) then (mullionlaw03_same.l0 k l0 l1 0) else (some false)
theorem mullionlaw03_same.mono_l : ∀ k, (∀ y0 y1 y2, LeO (mullionlaw03_same.l0 k y0 y1 y2) (mullionlaw03_same.l0 (k + 1) y0 y1 y2))
  | 0 => fun _ _ _ r h => by simp [mullionlaw03_same.l0] at h
  | k + 1 => by
    have ih0 := mullionlaw03_same.mono_l k
    · intro y0 y1 y2
      unfold mullionlaw03_same.l0
      repeat' first
      | (with_reducible exact ih0 _ _ _)
      | (with_reducible exact LeO.refl _)
      | (with_reducible exact LeO.none _)
      | (with_reducible refine LeO.ite ?_ ?_)
      | (with_reducible refine LeO.bind ?_ (fun _ => ?_))
      | exact ih0 _ _ _
      | exact LeO.none _
      | refine LeO.ite ?_ ?_
      | refine LeO.bind ?_ (fun _ => ?_)
theorem mullionlaw03_same.mono : ∀ a0 a1 k, LeO (mullionlaw03_same.f k a0 a1) (mullionlaw03_same.f (k + 1) a0 a1) := by
  intro a0 a1 k
  have ih0 := mullionlaw03_same.mono_l k
  unfold mullionlaw03_same.f
  repeat' first
      | (with_reducible exact ih0 _ _ _)
      | (with_reducible exact LeO.refl _)
      | (with_reducible exact LeO.none _)
      | (with_reducible refine LeO.ite ?_ ?_)
      | (with_reducible refine LeO.bind ?_ (fun _ => ?_))
      | exact ih0 _ _ _
      | exact LeO.none _
      | refine LeO.ite ?_ ?_
      | refine LeO.bind ?_ (fun _ => ?_)
set_option maxHeartbeats 8000000 in
set_option maxRecDepth 100000 in
theorem mullionlaw03_same.calls (k : Nat) (A0 : Option Addr) (c0 : Nat) (l0 : List (S28)) (A1 : Option Addr) (c1 : Nat) (l1 : List (S28)) (r : Bool) (w : World) (hr0 : Kd.C k28 w A0 l0.length l0) (hc0 : l0.length ≤ c0) (hr1 : Kd.C k28 w A1 l1.length l1) (hc1 : l1.length ≤ c1) (h : mullionlaw03_same.f k l0 l1 = some r) :
    Calls Tryz.prog 18 #[.slice A0 l0.length c0, .slice A1 l1.length c1] w fun e w' => e = .returned (.bool r) ∧ Drawn0 w w' := by
  have hu28 := Tryz.underlying28
  have HR0 := Aside0.mk hr0
  have HC0 := Aside0.mk hc0
  clear hr0 hc0
  have HR1 := Aside0.mk hr1
  have HC1 := Aside0.mk hc1
  clear hr1 hc1
  have H : (if (l0.length : Int) = (l1.length : Int) then (mullionlaw03_same.l0 k l0 l1 0) else (some false)) = some r := h
  clear h
  by_cases c3 : (l0.length : Int) = (l1.length : Int)
  · rw [if_pos c3] at H
    have c3b0 : ((l0.length : Int) == (l1.length : Int)) = true := beq_iff_eq.mpr c3
    have c3b1 : ((l0.length : Int) != (l1.length : Int)) = false := bne_eq_false_iff_eq.mpr c3
    have c3b2 : (l0.length == l1.length) = true := by first | simpa using c3 | (simp at c3 ⊢; omega)
    clear c3
    have H' := Aside0.mk H
    clear H
    go_enter Tryz.func18, Tryz.ntmps18
    go_wp2
    repeat (go_quiet (fail); try go_wp2)
    (try simp only [Act.put, List.setIfInBounds_toArray, List.set_cons_zero, List.set_cons_succ])
    go_loopg [5] k (fun kq v5 w' => ∃ (x5_1 : Int), v5 = .int .i64 x5_1 ∧ Aside0 (mullionlaw03_same.l0 kq l0 l1 x5_1 = some r) ∧ Aside0 (kq ≤ k) ∧ Drawn0 w w')
    case atStart => exact ⟨(0), (by first | rfl | (simp; done) | (simp [*]; done)), H', ⟨Nat.le_refl _⟩, by repeat (first | exact Drawn0.refl _ | apply Drawn0.step)⟩
    case round =>
      clear H'
      try clear c1
      try clear p2
      try clear c3
      try clear c3b0
      try clear c3b1
      try clear c3b2
      obtain ⟨x5_1, rfl, HA, HK1, ⟨m1, rfl⟩⟩ := hrel
      cases gk with
      | zero => exact absurd HA.out (by simp [mullionlaw03_same.l0])
      | succ k1 =>
        have H := HA.out
        clear HA
        simp only [mullionlaw03_same.l0] at H
        by_cases c4 : x5_1 < (l0.length : Int)
        · rw [if_pos c4] at H
          have c4b0 : decide (x5_1 < (l0.length : Int)) = true := decide_eq_true c4
          clear c4
          by_cases c5 : 0 ≤ x5_1
          · rw [if_pos c5] at H
            have c5b0 : decide (0 ≤ x5_1) = true := decide_eq_true c5
            clear c5
            by_cases c6 : x5_1 < (l1.length : Int)
            · rw [if_pos c6] at H
              have c6b0 : decide (x5_1 < (l1.length : Int)) = true := decide_eq_true c6
              clear c6
              by_cases c7 : (!(((rd_T28 l0 x5_1).f0) == ((rd_T28 l1 x5_1).f0)) || (!(((rd_T28 l0 x5_1).f1) == ((rd_T28 l1 x5_1).f1)) || (!(((rd_T28 l0 x5_1).f2) == ((rd_T28 l1 x5_1).f2)) || (!(((rd_T28 l0 x5_1).f3) == ((rd_T28 l1 x5_1).f3)) || (!(((rd_T28 l0 x5_1).f4) == ((rd_T28 l1 x5_1).f4)) || (!(((rd_T28 l0 x5_1).f5) == ((rd_T28 l1 x5_1).f5)) || (!(((rd_T28 l0 x5_1).f6) == ((rd_T28 l1 x5_1).f6)) || (!(((rd_T28 l0 x5_1).f7) == ((rd_T28 l1 x5_1).f7)) || (!(((rd_T28 l0 x5_1).f8) == ((rd_T28 l1 x5_1).f8)) || (!((((rd_T28 l0 x5_1).f9).toList) == (((rd_T28 l1 x5_1).f9).toList)) || (!((((rd_T28 l0 x5_1).f10).toList) == (((rd_T28 l1 x5_1).f10).toList)) || (!((((rd_T28 l0 x5_1).f11).toList) == (((rd_T28 l1 x5_1).f11).toList)) || (!((((rd_T28 l0 x5_1).f12).toList) == (((rd_T28 l1 x5_1).f12).toList)) || (!(((rd_T28 l0 x5_1).f13) == ((rd_T28 l1 x5_1).f13)))))))))))))))) = true
              · rw [if_pos c7] at H
                have c7b0 : (!(((rd_T28 l0 x5_1).f0) == ((rd_T28 l1 x5_1).f0)) || (!(((rd_T28 l0 x5_1).f1) == ((rd_T28 l1 x5_1).f1)) || (!(((rd_T28 l0 x5_1).f2) == ((rd_T28 l1 x5_1).f2)) || (!(((rd_T28 l0 x5_1).f3) == ((rd_T28 l1 x5_1).f3)) || (!(((rd_T28 l0 x5_1).f4) == ((rd_T28 l1 x5_1).f4)) || (!(((rd_T28 l0 x5_1).f5) == ((rd_T28 l1 x5_1).f5)) || (!(((rd_T28 l0 x5_1).f6) == ((rd_T28 l1 x5_1).f6)) || (!(((rd_T28 l0 x5_1).f7) == ((rd_T28 l1 x5_1).f7)) || (!(((rd_T28 l0 x5_1).f8) == ((rd_T28 l1 x5_1).f8)) || (!((((rd_T28 l0 x5_1).f9).toList) == (((rd_T28 l1 x5_1).f9).toList)) || (!((((rd_T28 l0 x5_1).f10).toList) == (((rd_T28 l1 x5_1).f10).toList)) || (!((((rd_T28 l0 x5_1).f11).toList) == (((rd_T28 l1 x5_1).f11).toList)) || (!((((rd_T28 l0 x5_1).f12).toList) == (((rd_T28 l1 x5_1).f12).toList)) || (!(((rd_T28 l0 x5_1).f13) == ((rd_T28 l1 x5_1).f13)))))))))))))))) = true := c7
                clear c7
                obtain rfl := Option.some.inj H
                have p163 : 0 ≤ (x5_1 : Int) := of_decide_eq_true (by first | (with_reducible assumption) | assumption)
                have q163 : x5_1 < (l0.length : Int) := of_decide_eq_true (by first | (with_reducible assumption) | assumption)
                obtain ⟨ad163, e163, hx163_0, hx163_1, hx163_2, hx163_3, hx163_4, hx163_5, hx163_6, hx163_7, hx163_8, hx163_9, hx163_10, hx163_11, hx163_12, hx163_13⟩ := at_T28 HR0.out x5_1 p163 q163
                cases e163
                replace p163 := eq_true p163
                replace q163 := eq_true q163
                have p164 : 0 ≤ (x5_1 : Int) := of_decide_eq_true (by first | (with_reducible assumption) | assumption)
                have q164 : x5_1 < (l1.length : Int) := of_decide_eq_true (by first | (with_reducible assumption) | assumption)
                obtain ⟨ad164, e164, hx164_0, hx164_1, hx164_2, hx164_3, hx164_4, hx164_5, hx164_6, hx164_7, hx164_8, hx164_9, hx164_10, hx164_11, hx164_12, hx164_13⟩ := at_T28 HR1.out x5_1 p164 q164
                cases e164
                replace p164 := eq_true p164
                replace q164 := eq_true q164
                go_wp2
                repeat (go_quiet (fail); try go_wp2)
                go_ret
                exact ⟨by first | rfl | (simp; done) | (simp [*]; done), by repeat (first | exact Drawn0.refl _ | apply Drawn0.step)⟩
              · rw [if_neg c7] at H
                have c7b0 : (!(((rd_T28 l0 x5_1).f0) == ((rd_T28 l1 x5_1).f0)) || (!(((rd_T28 l0 x5_1).f1) == ((rd_T28 l1 x5_1).f1)) || (!(((rd_T28 l0 x5_1).f2) == ((rd_T28 l1 x5_1).f2)) || (!(((rd_T28 l0 x5_1).f3) == ((rd_T28 l1 x5_1).f3)) || (!(((rd_T28 l0 x5_1).f4) == ((rd_T28 l1 x5_1).f4)) || (!(((rd_T28 l0 x5_1).f5) == ((rd_T28 l1 x5_1).f5)) || (!(((rd_T28 l0 x5_1).f6) == ((rd_T28 l1 x5_1).f6)) || (!(((rd_T28 l0 x5_1).f7) == ((rd_T28 l1 x5_1).f7)) || (!(((rd_T28 l0 x5_1).f8) == ((rd_T28 l1 x5_1).f8)) || (!((((rd_T28 l0 x5_1).f9).toList) == (((rd_T28 l1 x5_1).f9).toList)) || (!((((rd_T28 l0 x5_1).f10).toList) == (((rd_T28 l1 x5_1).f10).toList)) || (!((((rd_T28 l0 x5_1).f11).toList) == (((rd_T28 l1 x5_1).f11).toList)) || (!((((rd_T28 l0 x5_1).f12).toList) == (((rd_T28 l1 x5_1).f12).toList)) || (!(((rd_T28 l0 x5_1).f13) == ((rd_T28 l1 x5_1).f13)))))))))))))))) = false := by simpa using c7
                clear c7
                have H' := Aside0.mk H
                clear H
                have p163 : 0 ≤ (x5_1 : Int) := of_decide_eq_true (by first | (with_reducible assumption) | assumption)
                have q163 : x5_1 < (l0.length : Int) := of_decide_eq_true (by first | (with_reducible assumption) | assumption)
                obtain ⟨ad163, e163, hx163_0, hx163_1, hx163_2, hx163_3, hx163_4, hx163_5, hx163_6, hx163_7, hx163_8, hx163_9, hx163_10, hx163_11, hx163_12, hx163_13⟩ := at_T28 HR0.out x5_1 p163 q163
                cases e163
                replace p163 := eq_true p163
                replace q163 := eq_true q163
                have p164 : 0 ≤ (x5_1 : Int) := of_decide_eq_true (by first | (with_reducible assumption) | assumption)
                have q164 : x5_1 < (l1.length : Int) := of_decide_eq_true (by first | (with_reducible assumption) | assumption)
                obtain ⟨ad164, e164, hx164_0, hx164_1, hx164_2, hx164_3, hx164_4, hx164_5, hx164_6, hx164_7, hx164_8, hx164_9, hx164_10, hx164_11, hx164_12, hx164_13⟩ := at_T28 HR1.out x5_1 p164 q164
                cases e164
                replace p164 := eq_true p164
                replace q164 := eq_true q164
                go_wp2
                repeat (go_quiet (fail); try go_wp2)
                go_roundg k1
                case measure => have := HK1.out; omega
                case rel => exact ⟨(wrap64 (x5_1 + 1)), (by first | rfl | (simp; done) | (simp [*]; done)), H', ⟨by have := HK1.out; omega⟩, by repeat (first | exact Drawn0.refl _ | apply Drawn0.step)⟩
            · rw [if_neg c6] at H
              exact absurd H (by simp)
          · rw [if_neg c5] at H
            exact absurd H (by simp)
        · rw [if_neg c4] at H
          have c4b0 : decide (x5_1 < (l0.length : Int)) = false := decide_eq_false c4
          clear c4
          obtain rfl := Option.some.inj H
          go_wp2
          repeat (go_quiet (fail); try go_wp2)
          go_ret
          exact ⟨by first | rfl | (simp; done) | (simp [*]; done), by repeat (first | exact Drawn0.refl _ | apply Drawn0.step)⟩
  · rw [if_neg c3] at H
    have c3b0 : ((l0.length : Int) == (l1.length : Int)) = false := beq_eq_false_iff_ne.mpr c3
    have c3b1 : ((l0.length : Int) != (l1.length : Int)) = true := bne_iff_ne.mpr c3
    have c3b2 : (l0.length == l1.length) = false := by first | simpa using c3 | (simp at c3 ⊢; omega)
    obtain rfl := Option.some.inj H
    go_enter Tryz.func18, Tryz.ntmps18
    go_wp2
    repeat (go_quiet (fail); try go_wp2)
    go_ret
    exact ⟨by first | rfl | (simp; done) | (simp [*]; done), by repeat (first | exact Drawn0.refl _ | apply Drawn0.step)⟩

/-! ### wire_Events: function 26 -/
def wire_Events.l0 : Nat → ByteArray → List (S28) → Option ((List (S28)) × ByteArray)
  | 0, _, _ => none
  | k + 1, x0, x4 => (given_Cut.f x0 (⟨#[10]⟩ : ByteArray)).bind fun bt165 => (if bt165.2.2 = true then ((given_Decode.f bt165.1).bind fun bt168 => (if x4.length < 977343669134 then (wire_Events.l0 k bt165.2.1 (x4 ++ [(⟨bt168.1, bt168.2.1, bt168.2.2.1, bt168.2.2.2.1, bt168.2.2.2.2.1, bt168.2.2.2.2.2.1, bt168.2.2.2.2.2.2.1, bt168.2.2.2.2.2.2.2.1, bt168.2.2.2.2.2.2.2.2.1, bt168.2.2.2.2.2.2.2.2.2.1, bt168.2.2.2.2.2.2.2.2.2.2.1, bt168.2.2.2.2.2.2.2.2.2.2.2.1, bt168.2.2.2.2.2.2.2.2.2.2.2.2.1, bt168.2.2.2.2.2.2.2.2.2.2.2.2.2⟩ : S28)])) else (none))) else (some (x4, x0)))
def wire_Events.f (k : Nat) (a0 : ByteArray) : Option ((List (S28)) × ByteArray) := wire_Events.l0 k a0 ([] : List (S28))
theorem wire_Events.mono_l : ∀ k, (∀ y0 y1, LeO (wire_Events.l0 k y0 y1) (wire_Events.l0 (k + 1) y0 y1))
  | 0 => fun _ _ r h => by simp [wire_Events.l0] at h
  | k + 1 => by
    have ih0 := wire_Events.mono_l k
    · intro y0 y1
      unfold wire_Events.l0
      repeat' first
      | (with_reducible exact ih0 _ _)
      | (with_reducible exact LeO.refl _)
      | (with_reducible exact LeO.none _)
      | (with_reducible refine LeO.ite ?_ ?_)
      | (with_reducible refine LeO.bind ?_ (fun _ => ?_))
      | exact ih0 _ _
      | exact LeO.none _
      | refine LeO.ite ?_ ?_
      | refine LeO.bind ?_ (fun _ => ?_)
theorem wire_Events.mono : ∀ a0 k, LeO (wire_Events.f k a0) (wire_Events.f (k + 1) a0) := by
  intro a0 k
  have ih0 := wire_Events.mono_l k
  unfold wire_Events.f
  repeat' first
      | (with_reducible exact ih0 _ _)
      | (with_reducible exact LeO.refl _)
      | (with_reducible exact LeO.none _)
      | (with_reducible refine LeO.ite ?_ ?_)
      | (with_reducible refine LeO.bind ?_ (fun _ => ?_))
      | exact ih0 _ _
      | exact LeO.none _
      | refine LeO.ite ?_ ?_
      | refine LeO.bind ?_ (fun _ => ?_)
set_option maxHeartbeats 8000000 in
set_option maxRecDepth 100000 in
theorem wire_Events.calls (k : Nat) (a0 : ByteArray) (r1 : List (S28)) (r2 : ByteArray) (w : World) (hL : LaidW w) (h : wire_Events.f k a0 = some (r1, r2)) :
    Calls Tryz.prog 26 #[.string a0] w fun e w' => ∃ v0_ : Value, e = .returned (.tuple #[v0_, .string r2]) ∧ Kd.R k28 28 w' w.heap.size (fun _ => True) v0_ r1 ∧ Below w.heap.size w w' := by
  have hu28 := Tryz.underlying28
  have HB := Aside0.mk (Below.refl w.heap.size w)
  have H : (wire_Events.l0 k a0 ([] : List (S28))) = some (r1, r2) := h
  clear h
  have H' := Aside0.mk H
  clear H
  go_enter Tryz.func26, Tryz.ntmps26
  go_wp2
  (try simp only [Act.put, List.setIfInBounds_toArray, List.set_cons_zero, List.set_cons_succ])
  go_loopg [0, 4] k (fun kq v0 v4 w' => ∃ (x0_1 : ByteArray) (x4_1 : List (S28)), v0 = .string x0_1 ∧ Aside0 (wire_Events.l0 kq x0_1 x4_1 = some (r1, r2)) ∧ Aside0 (kq ≤ k) ∧ Aside0 (Kd.R k28 28 w' w.heap.size (fun _ => True) v4 x4_1) ∧ Aside0 (Below w.heap.size w w'))
  case atStart => exact ⟨(a0), (([] : List (S28))), (by first | rfl | (simp; done) | (simp [*]; done)), H', ⟨Nat.le_refl _⟩, ⟨by first | exact Kd.R_nil _ _ _ _ _ | exact Kd.N_nil _ _ _ _ _ | exact Kd.V_nil _ _ _ _ _ | exact Kd.Q_nil _ _ _ _ _ | exact Kd.S_nil _ _ _ _ _⟩, ⟨by repeat (first | (with_reducible first | exact HB.out | apply below_alloc | apply pw_below_drewN | apply below_drew1) | exact HB.out)⟩⟩
  case round =>
    clear H'
    obtain ⟨x0_1, x4_1, rfl, HA, HK1, HO_4, HB⟩ := hrel
    cases gk with
    | zero => exact absurd HA.out (by simp [wire_Events.l0])
    | succ k1 =>
      have H := HA.out
      clear HA
      simp only [wire_Events.l0] at H
      replace H := Option.bind_eq_some_iff.mp H
      obtain ⟨⟨t165, t166, t167⟩, A20, H⟩ := H
      replace H : (if t167 = true then ((given_Decode.f t165).bind fun bt168 => (if x4_1.length < 977343669134 then (wire_Events.l0 k1 t166 (x4_1 ++ [(⟨bt168.1, bt168.2.1, bt168.2.2.1, bt168.2.2.2.1, bt168.2.2.2.2.1, bt168.2.2.2.2.2.1, bt168.2.2.2.2.2.2.1, bt168.2.2.2.2.2.2.2.1, bt168.2.2.2.2.2.2.2.2.1, bt168.2.2.2.2.2.2.2.2.2.1, bt168.2.2.2.2.2.2.2.2.2.2.1, bt168.2.2.2.2.2.2.2.2.2.2.2.1, bt168.2.2.2.2.2.2.2.2.2.2.2.2.1, bt168.2.2.2.2.2.2.2.2.2.2.2.2.2⟩ : S28)])) else (none))) else (some (x4_1, x0_1))) = some (r1, r2) := H
      have A2 := Aside0.mk A20
      clear A20
      by_cases c3 : t167 = true
      · subst c3
        have H1 : ((given_Decode.f t165).bind fun bt168 => (if x4_1.length < 977343669134 then (wire_Events.l0 k1 t166 (x4_1 ++ [(⟨bt168.1, bt168.2.1, bt168.2.2.1, bt168.2.2.2.1, bt168.2.2.2.2.1, bt168.2.2.2.2.2.1, bt168.2.2.2.2.2.2.1, bt168.2.2.2.2.2.2.2.1, bt168.2.2.2.2.2.2.2.2.1, bt168.2.2.2.2.2.2.2.2.2.1, bt168.2.2.2.2.2.2.2.2.2.2.1, bt168.2.2.2.2.2.2.2.2.2.2.2.1, bt168.2.2.2.2.2.2.2.2.2.2.2.2.1, bt168.2.2.2.2.2.2.2.2.2.2.2.2.2⟩ : S28)])) else (none))) = some (r1, r2) := by rw [if_pos rfl] at H; exact H
        clear H
        have H := H1
        clear H1
        replace H := Option.bind_eq_some_iff.mp H
        obtain ⟨⟨t168, t169, t170, t171, t172, t173, t174, t175, t176, t177, t178, t179, t180, t181⟩, A40, H⟩ := H
        replace H : (if x4_1.length < 977343669134 then (wire_Events.l0 k1 t166 (x4_1 ++ [(⟨t168, t169, t170, t171, t172, t173, t174, t175, t176, t177, t178, t179, t180, t181⟩ : S28)])) else (none)) = some (r1, r2) := H
        have A4 := Aside0.mk A40
        clear A40
        by_cases c5 : x4_1.length < 977343669134
        · rw [if_pos c5] at H
          have LMc5 := Aside0.mk c5
          clear c5
          obtain ⟨y182, hy182⟩ : ∃ y_ : List (S28), y_ = (x4_1 ++ [(⟨t168, t169, t170, t171, t172, t173, t174, t175, t176, t177, t178, t179, t180, t181⟩ : S28)]) := ⟨_, rfl⟩
          replace H : (wire_Events.l0 k1 t166 y182) = some (r1, r2) := by first | (rw [hy182]; with_reducible exact H) | (have H2_ := (Option.bind_some _ _).symm.trans H; rw [hy182]; with_reducible exact H2_) | (have H2_ := (Option.bind_some _ _).symm.trans H; with_reducible exact H2_) | with_reducible exact H | (rw [hy182]; exact H) | exact H
          have Ny182 := Aside0.mk hy182
          clear hy182
          have H' := Aside0.mk H
          clear H
          go_wp2_with (first | ((with_reducible refine gate_callee (f := 44) rfl ?_); refine goesL_ (some 10) rfl rfl Tryz.func44 (by kernel_rfl) rfl #[.string x0_1, .string (⟨#[10]⟩ : ByteArray)] rfl (by (try simp only [List.map_toArray, List.map_cons, List.map_nil]); first | done | rfl | (simp only [List.length_drop, List.length_take]; rfl)) ?_; (with_reducible refine (given_Cut.calls x0_1 (⟨#[10]⟩ : ByteArray) t165 t166 true _ A2.out).mono ?_); rintro e w' ⟨rfl, ⟨nd, rfl⟩⟩; refine ⟨_, rfl, ?_⟩) | ((with_reducible refine gate_callee (f := 24) rfl ?_); refine goesL_ (some 20) rfl rfl Tryz.func24 (by kernel_rfl) rfl #[.string t165] rfl (by (try simp only [List.map_toArray, List.map_cons, List.map_nil]); first | done | rfl | (simp only [List.length_drop, List.length_take]; rfl)) ?_; (with_reducible refine (given_Decode.calls t165 t168 t169 t170 t171 t172 t173 t174 t175 t176 t177 t178 t179 t180 t181 _ (LaidW.below hL (by repeat (first | (with_reducible first | exact HB.out | apply below_alloc | apply pw_below_drewN | apply below_drew1) | exact HB.out))) A4.out).mono ?_); rintro e w6 ⟨rfl, hb⟩; refine ⟨_, rfl, ?_⟩; have n0_ := Aside0.mk (Kd.R_below (by (with_reducible repeat (first | apply Kd.R_alloc | apply Kd.R_drewN | apply Kd.R_drew)); exact HO_4.out) hb); have n1_ := Aside0.mk (below_step (by repeat (first | (with_reducible first | exact HB.out | apply below_alloc | apply pw_below_drewN | apply below_drew1) | exact HB.out)) hb); clear HO_4; clear HB; have HO_4 := n0_; have HB := n1_; clear n0_ n1_; (try clear hb); (try clear hb2); (try clear hk); (try clear hi)) | ((with_reducible refine gate_builtin (b := .append) (xs := #[.tmp 18, .tmp 21]) rfl ?_); at_builtin; refine Kd.R_append k28 (w0 := w) w.heap.size rfl (.tmp 18) (.tmp 21) 22 28 (.agg #[(.int .i64 0), (.int .i64 0), (.int .i64 0), (.int .i64 0), (.int .i64 0), (.int .i64 0), (.int .i64 0), (.int .i64 0), (.int .i64 0), (.string ⟨#[]⟩), (.string ⟨#[]⟩), (.string ⟨#[]⟩), (.string ⟨#[]⟩), (.bool false)]) 144 rfl Tryz.underlying22 info28 rfl (by decide) (by omega) u4 x4_1 (⟨t168, t169, t170, t171, t172, t173, t174, t175, t176, t177, t178, t179, t180, t181⟩ : S28) [.int .i64 t168, .int .i64 t169, .int .i64 t170, .int .i64 t171, .int .i64 t172, .int .i64 t173, .int .i64 t174, .int .i64 t175, .int .i64 t176, .string t177, .string t178, .string t179, .string t180, .bool t181] (fun _ => True) (fun _ => False) rfl rfl ?aP (fun _ hk => hk.elim) ?aF ?aO ?aB ?aS ?aL ?_; (case aP => exact k28_mkM _ _ _ (⟨t168, t169, t170, t171, t172, t173, t174, t175, t176, t177, t178, t179, t180, t181⟩ : S28)); (case aB => exact (by repeat (first | (with_reducible first | exact HB.out | apply below_alloc | apply pw_below_drewN | apply below_drew1) | exact HB.out))); (case aF => exact (fun _ _ => trivial)); (case aO => exact (by (with_reducible repeat (first | apply Kd.R_alloc | apply Kd.R_drewN | apply Kd.R_drew)); exact HO_4.out)); (case aS => exact (below_size (by repeat (first | (with_reducible first | exact HB.out | apply below_alloc | apply pw_below_drewN | apply below_drew1) | exact HB.out)))); (case aL => have := LMc5.out; omega); intro v183 w7 ho hb hg hat; rw [← Ny182.out] at ho; have n0_ := Aside0.mk (hb); have n1_ := Aside0.mk (ho); clear HB; clear HO_4; have HB := n0_; have HO184 := n1_; clear n0_ n1_; clear ho hb hg hat))
          go_roundg k1
          case measure => have := HK1.out; omega
          case rel => exact ⟨(t166), (y182), (by first | rfl | (simp; done) | (simp [*]; done)), H', ⟨by have := HK1.out; omega⟩, ⟨by (with_reducible repeat (first | apply Kd.R_alloc | apply Kd.R_drewN | apply Kd.R_drew)); exact HO184.out⟩, ⟨by repeat (first | (with_reducible first | exact HB.out | apply below_alloc | apply pw_below_drewN | apply below_drew1) | exact HB.out)⟩⟩
        · rw [if_neg c5] at H
          exact absurd H (by simp)
      · replace c3 := Bool.eq_false_iff.mpr c3
        subst c3
        have H1 : (some (x4_1, x0_1)) = some (r1, r2) := by rw [if_neg (show ¬ (false = true) by decide)] at H; exact H
        clear H
        have H := H1
        clear H1
        simp only [Option.some.injEq, Prod.mk.injEq] at H
        obtain ⟨rfl, rfl⟩ := H
        go_wp2_with (first | ((with_reducible refine gate_callee (f := 44) rfl ?_); refine goesL_ (some 10) rfl rfl Tryz.func44 (by kernel_rfl) rfl #[.string x0_1, .string (⟨#[10]⟩ : ByteArray)] rfl (by (try simp only [List.map_toArray, List.map_cons, List.map_nil]); first | done | rfl | (simp only [List.length_drop, List.length_take]; rfl)) ?_; (with_reducible refine (given_Cut.calls x0_1 (⟨#[10]⟩ : ByteArray) t165 t166 false _ A2.out).mono ?_); rintro e w' ⟨rfl, ⟨nd, rfl⟩⟩; refine ⟨_, rfl, ?_⟩))
        go_ret2
        exact ⟨_, by first | rfl | (simp [errW_none, errW_some] <;> rfl) | (simp [*, errW_none, errW_some] <;> rfl), by (with_reducible repeat (first | apply Kd.R_alloc | apply Kd.R_drewN | apply Kd.R_drew)); exact HO_4.out, by repeat (first | (with_reducible first | exact HB.out | apply below_alloc | apply pw_below_drewN | apply below_drew1) | exact HB.out)⟩

end Go.Proofs.YtnblabfkkcohgaaGreatDoor.PLwA
end
section
-- Printed by a program of this session (wip/fork) out of the translation. Lean checks it.
namespace Go.Proofs.YtnblabfkkcohgaaGreatDoor.PLwA
open Go.Proofs.YtnblabfkkcohgaaGreatDoor.LawG Go.Proofs.YtnblabfkkcohgaaGreatDoor.CutG Go.Proofs.YtnblabfkkcohgaaGreatDoor.Given
open Go.RowKit Go.Proofs.YtnblabfkkcohgaaGreatDoorW.PrintWords Go.Proofs.YtnblabfkkcohgaaGreatDoorW.PrintLast Go.Proofs.YtnblabfkkcohgaaGreatDoorW.PrintMore
attribute [local go_sem] max2_int min2_int max_two min_two max_three min_three max_four min_four   -- for this text's walks alone
set_option linter.unusedVariables false
set_option linter.unusedSimpArgs false
attribute [local go_sem high] field28

/-! ### mullionlaw03_WirePieces: function 9 -/
mutual
def mullionlaw03_WirePieces.j0 : Nat → ByteArray → Int → Bool → Option (Bool)
  | 0, _, _, _ => none
  | k + 1, x0, x1, x19 => if x19 = true then (mullionlaw03_WirePieces.j1 k x0 (wrap64 ((x0.size : Int) / 2))) else (mullionlaw03_WirePieces.j1 k x0 x1)
def mullionlaw03_WirePieces.j1 : Nat → ByteArray → Int → Option (Bool)
  | 0, _, _ => none
  | k + 1, x0, x1 => (wire_Events.f k x0).bind fun bt185 => (if 0 ≤ x1 then (if x1 ≤ (x0.size : Int) then ((wire_Events.f k (x0.extract 0 (x1 : Int).toNat)).bind fun bt189 => (if bt189.2.size + (x0.extract (x1 : Int).toNat x0.size).size ≤ 9223372036854775807 then ((wire_Events.f k (bt189.2 ++ (x0.extract (x1 : Int).toNat x0.size))).bind fun bt193 => (if ([] : List (S28)).length + bt189.1.length < 977343669134 then ((some (([] : List (S28)) ++ bt189.1 : List (S28))).bind fun y197 => (if y197.length + bt193.1.length < 977343669134 then ((mullionlaw03_same.f k bt185.1 (y197 ++ bt193.1)).bind fun t203 => (if t203 = true then (if bt185.2.toList = bt193.2.toList then ((mullionlaw03_sure.f).bind fun t204 => (some t204)) else (some false)) else (some false))) else (none))) else (none))) else (none))) else (none)) else (none))
end
def mullionlaw03_WirePieces.f (k : Nat) (a0 : ByteArray) (a1 : Int) : Option (Bool) := if a1 < 0 then (mullionlaw03_WirePieces.j0 k a0 a1 true) else (mullionlaw03_WirePieces.j0 k a0 a1 (decide (a1 > (a0.size : Int))))
theorem mullionlaw03_WirePieces.mono_l : ∀ k, (∀ y0 y1 y2, LeO (mullionlaw03_WirePieces.j0 k y0 y1 y2) (mullionlaw03_WirePieces.j0 (k + 1) y0 y1 y2)) ∧ (∀ y0 y1, LeO (mullionlaw03_WirePieces.j1 k y0 y1) (mullionlaw03_WirePieces.j1 (k + 1) y0 y1))
  | 0 => ⟨fun _ _ _ r h => by simp [mullionlaw03_WirePieces.j0] at h, fun _ _ r h => by simp [mullionlaw03_WirePieces.j1] at h⟩
  | k + 1 => by
    obtain ⟨ih0, ih1⟩ := mullionlaw03_WirePieces.mono_l k
    refine ⟨?_, ?_⟩
    · intro y0 y1 y2
      unfold mullionlaw03_WirePieces.j0
      repeat' first
      | (with_reducible exact ih0 _ _ _)
      | (with_reducible exact ih1 _ _)
      | (with_reducible exact mullionlaw03_same.mono _ _ _)
      | (with_reducible exact wire_Events.mono _ _)
      | (with_reducible exact LeO.refl _)
      | (with_reducible exact LeO.none _)
      | (with_reducible refine LeO.ite ?_ ?_)
      | (with_reducible refine LeO.bind ?_ (fun _ => ?_))
      | exact ih0 _ _ _
      | exact ih1 _ _
      | exact mullionlaw03_same.mono _ _ _
      | exact wire_Events.mono _ _
      | exact LeO.none _
      | refine LeO.ite ?_ ?_
      | refine LeO.bind ?_ (fun _ => ?_)
    · intro y0 y1
      unfold mullionlaw03_WirePieces.j1
      repeat' first
      | (with_reducible exact ih0 _ _ _)
      | (with_reducible exact ih1 _ _)
      | (with_reducible exact mullionlaw03_same.mono _ _ _)
      | (with_reducible exact wire_Events.mono _ _)
      | (with_reducible exact LeO.refl _)
      | (with_reducible exact LeO.none _)
      | (with_reducible refine LeO.ite ?_ ?_)
      | (with_reducible refine LeO.bind ?_ (fun _ => ?_))
      | exact ih0 _ _ _
      | exact ih1 _ _
      | exact mullionlaw03_same.mono _ _ _
      | exact wire_Events.mono _ _
      | exact LeO.none _
      | refine LeO.ite ?_ ?_
      | refine LeO.bind ?_ (fun _ => ?_)
theorem mullionlaw03_WirePieces.mono : ∀ a0 a1 k, LeO (mullionlaw03_WirePieces.f k a0 a1) (mullionlaw03_WirePieces.f (k + 1) a0 a1) := by
  intro a0 a1 k
  obtain ⟨ih0, ih1⟩ := mullionlaw03_WirePieces.mono_l k
  unfold mullionlaw03_WirePieces.f
  repeat' first
      | (with_reducible exact ih0 _ _ _)
      | (with_reducible exact ih1 _ _)
      | (with_reducible exact mullionlaw03_same.mono _ _ _)
      | (with_reducible exact wire_Events.mono _ _)
      | (with_reducible exact LeO.refl _)
      | (with_reducible exact LeO.none _)
      | (with_reducible refine LeO.ite ?_ ?_)
      | (with_reducible refine LeO.bind ?_ (fun _ => ?_))
      | exact ih0 _ _ _
      | exact ih1 _ _
      | exact mullionlaw03_same.mono _ _ _
      | exact wire_Events.mono _ _
      | exact LeO.none _
      | refine LeO.ite ?_ ?_
      | refine LeO.bind ?_ (fun _ => ?_)
set_option maxHeartbeats 8000000 in
set_option maxRecDepth 100000 in
theorem mullionlaw03_WirePieces.calls (k : Nat) (a0 : ByteArray) (a1 : Int) (r : Bool) (w : World) (hL : LaidW w) (h : mullionlaw03_WirePieces.f k a0 a1 = some r) :
    Calls Tryz.prog 9 #[.string a0, .int .i64 a1] w fun e w' => e = .returned (.bool r) ∧ Below w.heap.size w w' := by
  have hu28 := Tryz.underlying28
  have HB := Aside0.mk (Below.refl w.heap.size w)
  have H : (if a1 < 0 then (mullionlaw03_WirePieces.j0 k a0 a1 true) else (mullionlaw03_WirePieces.j0 k a0 a1 (decide (a1 > (a0.size : Int))))) = some r := h
  clear h
  have HC3 := Aside0.mk H
  clear H
  go_enter Tryz.func9, Tryz.ntmps9
  go_upto_region 1 with (fail)
  go_cut [19] (fun v19 wc => ∃ (kq : Nat) (x19_2 : Bool), v19 = .bool x19_2 ∧ Aside0 (mullionlaw03_WirePieces.j0 kq a0 a1 x19_2 = some r) ∧ Aside0 (kq ≤ k) ∧ Aside0 (Below w.heap.size w wc))
  case first =>
    have H := HC3.out
    clear HC3
    by_cases c4 : a1 < 0
    · rw [if_pos c4] at H
      have c4b0 : decide (a1 < 0) = true := decide_eq_true c4
      clear c4
      (first | rw [c4b0] | (simp only [i64_w, i32_w]; rw [c4b0]) | skip)
      have H' := Aside0.mk H
      clear H
      go_wp2
      go_meet
      case rel => exact ⟨_, (true), (by first | rfl | (simp; done) | (simp [*]; done)), H', ⟨by first | omega | exact Nat.le_refl _⟩, ⟨by repeat (first | (with_reducible first | exact HB.out | apply below_alloc | apply pw_below_drewN | apply below_drew1) | exact HB.out)⟩⟩
    · rw [if_neg c4] at H
      have c4b0 : decide (a1 < 0) = false := decide_eq_false c4
      clear c4
      (first | rw [c4b0] | (simp only [i64_w, i32_w]; rw [c4b0]) | skip)
      have H' := Aside0.mk H
      clear H
      go_wp2
      go_meet
      case rel => exact ⟨_, (decide (a1 > (a0.size : Int))), (by first | rfl | (simp; done) | (simp [*]; done)), H', ⟨by first | omega | exact Nat.le_refl _⟩, ⟨by repeat (first | (with_reducible first | exact HB.out | apply below_alloc | apply pw_below_drewN | apply below_drew1) | exact HB.out)⟩⟩
  case rest =>
    clear HC3
    try clear p2
    try clear c4
    try clear c4b0
    obtain ⟨kq, x19_2, rfl, HA, HJ2, HB⟩ := hcut
    cases kq with
    | zero => exact absurd HA.out (by simp [mullionlaw03_WirePieces.j0])
    | succ kj2 =>
      have H := HA.out
      clear HA
      simp only [mullionlaw03_WirePieces.j0] at H
      have HC5 := Aside0.mk H
      clear H
      go_upto_if 19 with (fail)
      go_cut [1] (fun v1 wc => ∃ (kq : Nat) (x1_4 : Int), v1 = .int .i64 x1_4 ∧ Aside0 (mullionlaw03_WirePieces.j1 kq a0 x1_4 = some r) ∧ Aside0 (kq ≤ kj2) ∧ Aside0 (Below w.heap.size w wc))
      case first =>
        have H := HC5.out
        clear HC5
        by_cases c6 : x19_2 = true
        · subst c6
          have H1 : (mullionlaw03_WirePieces.j1 kj2 a0 (wrap64 ((a0.size : Int) / 2))) = some r := by rw [if_pos rfl] at H; exact H
          clear H
          have H := H1
          clear H1
          have H' := Aside0.mk H
          clear H
          go_wp2
          go_meet
          case rel => exact ⟨_, (wrap64 ((a0.size : Int) / 2)), (by first | rfl | (simp; done) | (simp [*]; done)), H', ⟨by have := HJ2.out; first | omega | exact Nat.le_refl _⟩, ⟨by repeat (first | (with_reducible first | exact HB.out | apply below_alloc | apply pw_below_drewN | apply below_drew1) | exact HB.out)⟩⟩
        · replace c6 := Bool.eq_false_iff.mpr c6
          subst c6
          have H1 : (mullionlaw03_WirePieces.j1 kj2 a0 a1) = some r := by rw [if_neg (show ¬ (false = true) by decide)] at H; exact H
          clear H
          have H := H1
          clear H1
          have H' := Aside0.mk H
          clear H
          go_wp2
          go_meet
          case rel => exact ⟨_, (a1), (by first | rfl | (simp; done) | (simp [*]; done)), H', ⟨by have := HJ2.out; first | omega | exact Nat.le_refl _⟩, ⟨by repeat (first | (with_reducible first | exact HB.out | apply below_alloc | apply pw_below_drewN | apply below_drew1) | exact HB.out)⟩⟩
      case rest =>
        clear HC5
        try clear p2
        try clear c4
        try clear c4b0
        try clear c6
        try clear p6
        try clear p2
        obtain ⟨kq, x1_4, rfl, HA, HJ4, HB⟩ := hcut
        cases kq with
        | zero => exact absurd HA.out (by simp [mullionlaw03_WirePieces.j1])
        | succ kj4 =>
          have H := HA.out
          clear HA
          simp only [mullionlaw03_WirePieces.j1] at H
          replace H := Option.bind_eq_some_iff.mp H
          obtain ⟨⟨t185, t186⟩, A70, H⟩ := H
          replace H : (if 0 ≤ x1_4 then (if x1_4 ≤ (a0.size : Int) then ((wire_Events.f kj4 (a0.extract 0 (x1_4 : Int).toNat)).bind fun bt189 => (if bt189.2.size + (a0.extract (x1_4 : Int).toNat a0.size).size ≤ 9223372036854775807 then ((wire_Events.f kj4 (bt189.2 ++ (a0.extract (x1_4 : Int).toNat a0.size))).bind fun bt193 => (if ([] : List (S28)).length + bt189.1.length < 977343669134 then ((some (([] : List (S28)) ++ bt189.1 : List (S28))).bind fun y197 => (if y197.length + bt193.1.length < 977343669134 then ((mullionlaw03_same.f kj4 t185 (y197 ++ bt193.1)).bind fun t203 => (if t203 = true then (if t186.toList = bt193.2.toList then ((mullionlaw03_sure.f).bind fun t204 => (some t204)) else (some false)) else (some false))) else (none))) else (none))) else (none))) else (none)) else (none)) = some r := H
          have A7 := Aside0.mk A70
          clear A70
          by_cases c8 : 0 ≤ x1_4
          · rw [if_pos c8] at H
            have c8b0 := eq_true c8
            have c8b1 : decide (0 ≤ x1_4) = true := decide_eq_true c8
            clear c8
            by_cases c9 : x1_4 ≤ (a0.size : Int)
            · rw [if_pos c9] at H
              have c9b0 := eq_true c9
              have c9b1 : decide (x1_4 ≤ (a0.size : Int)) = true := decide_eq_true c9
              clear c9
              replace H := Option.bind_eq_some_iff.mp H
              obtain ⟨⟨t189, t190⟩, A100, H⟩ := H
              replace H : (if t190.size + (a0.extract (x1_4 : Int).toNat a0.size).size ≤ 9223372036854775807 then ((wire_Events.f kj4 (t190 ++ (a0.extract (x1_4 : Int).toNat a0.size))).bind fun bt193 => (if ([] : List (S28)).length + t189.length < 977343669134 then ((some (([] : List (S28)) ++ t189 : List (S28))).bind fun y197 => (if y197.length + bt193.1.length < 977343669134 then ((mullionlaw03_same.f kj4 t185 (y197 ++ bt193.1)).bind fun t203 => (if t203 = true then (if t186.toList = bt193.2.toList then ((mullionlaw03_sure.f).bind fun t204 => (some t204)) else (some false)) else (some false))) else (none))) else (none))) else (none)) = some r := H
              have A10 := Aside0.mk A100
              clear A100
              have c11b0 := eq_true (of_decide_eq_true (by first | (with_reducible assumption) | assumption) : 0 ≤ x1_4)
              have c12b0 := eq_true (of_decide_eq_true (by first | (with_reducible assumption) | assumption) : x1_4 ≤ (a0.size : Int))
              by_cases c13 : t190.size + (a0.extract (x1_4 : Int).toNat a0.size).size ≤ 9223372036854775807
              · rw [if_pos c13] at H
                have c13b0 := eq_true c13
                have c13b1 : decide (t190.size + (a0.extract (x1_4 : Int).toNat a0.size).size ≤ 9223372036854775807) = true := decide_eq_true c13
                try have c13b2 : (9223372036854775807 < t190.size + (a0.extract (x1_4 : Int).toNat a0.size).size) = False := eq_false (Nat.not_lt.2 c13)
                replace H := Option.bind_eq_some_iff.mp H
                obtain ⟨⟨t193, t194⟩, A140, H⟩ := H
                replace H : (if ([] : List (S28)).length + t189.length < 977343669134 then ((some (([] : List (S28)) ++ t189 : List (S28))).bind fun y197 => (if y197.length + t193.length < 977343669134 then ((mullionlaw03_same.f kj4 t185 (y197 ++ t193)).bind fun t203 => (if t203 = true then (if t186.toList = t194.toList then ((mullionlaw03_sure.f).bind fun t204 => (some t204)) else (some false)) else (some false))) else (none))) else (none)) = some r := H
                have A14 := Aside0.mk A140
                clear A140
                by_cases c15 : ([] : List (S28)).length + t189.length < 977343669134
                · rw [if_pos c15] at H
                  have LMc15 := Aside0.mk c15
                  clear c15
                  obtain ⟨y197, hy197⟩ : ∃ y_ : List (S28), y_ = (([] : List (S28)) ++ t189) := ⟨_, rfl⟩
                  replace H : (if y197.length + t193.length < 977343669134 then ((mullionlaw03_same.f kj4 t185 (y197 ++ t193)).bind fun t203 => (if t203 = true then (if t186.toList = t194.toList then ((mullionlaw03_sure.f).bind fun t204 => (some t204)) else (some false)) else (some false))) else (none)) = some r := by first | (rw [hy197]; with_reducible exact H) | (have H2_ := (Option.bind_some _ _).symm.trans H; rw [hy197]; with_reducible exact H2_) | (have H2_ := (Option.bind_some _ _).symm.trans H; with_reducible exact H2_) | with_reducible exact H | (rw [hy197]; exact H) | exact H
                  have Ny197 := Aside0.mk hy197
                  clear hy197
                  by_cases c16 : y197.length + t193.length < 977343669134
                  · rw [if_pos c16] at H
                    have LMc16 := Aside0.mk c16
                    clear c16
                    obtain ⟨y200, hy200⟩ : ∃ y_ : List (S28), y_ = (y197 ++ t193) := ⟨_, rfl⟩
                    replace H : ((mullionlaw03_same.f kj4 t185 y200).bind fun t203 => (if t203 = true then (if t186.toList = t194.toList then ((mullionlaw03_sure.f).bind fun t204 => (some t204)) else (some false)) else (some false))) = some r := by first | (rw [hy200]; with_reducible exact H) | (have H2_ := (Option.bind_some _ _).symm.trans H; rw [hy200]; with_reducible exact H2_) | (have H2_ := (Option.bind_some _ _).symm.trans H; with_reducible exact H2_) | with_reducible exact H | (rw [hy200]; exact H) | exact H
                    have Ny200 := Aside0.mk hy200
                    clear hy200
                    replace H := Option.bind_eq_some_iff.mp H
                    obtain ⟨t203, A170, H⟩ := H
                    replace H : (if t203 = true then (if t186.toList = t194.toList then ((mullionlaw03_sure.f).bind fun t204 => (some t204)) else (some false)) else (some false)) = some r := H
                    have A17 := Aside0.mk A170
                    clear A170
                    by_cases c18 : t203 = true
                    · subst c18
                      have H1 : (if t186.toList = t194.toList then ((mullionlaw03_sure.f).bind fun t204 => (some t204)) else (some false)) = some r := by rw [if_pos rfl] at H; exact H
                      clear H
                      have H := H1
                      clear H1
                      by_cases c19 : t186.toList = t194.toList
                      · rw [if_pos c19] at H
                        have c19b0 : (t186.toList == t194.toList) = true := beq_iff_eq.mpr c19
                        have c19b1 : (t186.toList != t194.toList) = false := bne_eq_false_iff_eq.mpr c19
                        clear c19
                        replace H := Option.bind_eq_some_iff.mp H
                        obtain ⟨t204, A200, H⟩ := H
                        replace H : (some t204) = some r := H
                        have A20 := Aside0.mk A200
                        clear A200
                        obtain rfl := Option.some.inj H
                        go_wp2_with (first | ((with_reducible refine gate_callee (f := 26) rfl ?_); refine goesL_ (some 25) rfl rfl Tryz.func26 (by kernel_rfl) rfl #[.string a0] rfl (by (try simp only [List.map_toArray, List.map_cons, List.map_nil]); first | done | rfl | (simp only [List.length_drop, List.length_take]; rfl)) ?_; (with_reducible refine (wire_Events.calls kj4 a0 t185 t186 _ (LaidW.below hL (by repeat (first | (with_reducible first | exact HB.out | apply below_alloc | apply pw_below_drewN | apply below_drew1) | exact HB.out))) A7.out).mono ?_); rintro e w21 ⟨v187, rfl, ho0, hb⟩; refine ⟨_, rfl, ?_⟩; have n0_ := Aside0.mk (Kd.R_lower ho0 (below_size (by repeat (first | (with_reducible first | exact HB.out | apply below_alloc | apply pw_below_drewN | apply below_drew1) | exact HB.out)))); have n1_ := Aside0.mk (below_step (by repeat (first | (with_reducible first | exact HB.out | apply below_alloc | apply pw_below_drewN | apply below_drew1) | exact HB.out)) hb); clear HB; have HO188 := n0_; have HB := n1_; clear n0_ n1_; (try clear hb); (try clear hb2); (try clear hk); (try clear hi); (try clear ho0)) | ((with_reducible refine gate_callee (f := 26) rfl ?_); refine goesL_ (some 32) rfl rfl Tryz.func26 (by kernel_rfl) rfl #[.string (a0.extract 0 (x1_4 : Int).toNat)] rfl (by (try simp only [List.map_toArray, List.map_cons, List.map_nil]); first | done | rfl | (simp only [List.length_drop, List.length_take]; rfl)) ?_; (with_reducible refine (wire_Events.calls kj4 (a0.extract 0 (x1_4 : Int).toNat) t189 t190 _ (LaidW.below hL (by repeat (first | (with_reducible first | exact HB.out | apply below_alloc | apply pw_below_drewN | apply below_drew1) | exact HB.out))) A10.out).mono ?_); rintro e w22 ⟨v191, rfl, ho0, hb⟩; refine ⟨_, rfl, ?_⟩; have n0_ := Aside0.mk (Kd.R_elder' (by (with_reducible repeat (first | apply Kd.R_alloc | apply Kd.R_drewN | apply Kd.R_drew)); exact HO188.out) (Kd.R_base ho0) hb); have n1_ := Aside0.mk (Kd.R_lower (Kd.R_new' ho0 (Kd.R_lt (by (with_reducible repeat (first | apply Kd.R_alloc | apply Kd.R_drewN | apply Kd.R_drew)); exact HO188.out))) (below_size (by repeat (first | (with_reducible first | exact HB.out | apply below_alloc | apply pw_below_drewN | apply below_drew1) | exact HB.out)))); have n2_ := Aside0.mk (below_step (by repeat (first | (with_reducible first | exact HB.out | apply below_alloc | apply pw_below_drewN | apply below_drew1) | exact HB.out)) hb); clear HO188; clear HB; have HO188 := n0_; have HO192 := n1_; have HB := n2_; clear n0_ n1_ n2_; (try clear hb); (try clear hb2); (try clear hk); (try clear hi); (try clear ho0)) | ((with_reducible refine gate_callee (f := 26) rfl ?_); refine goesL_ (some 41) rfl rfl Tryz.func26 (by kernel_rfl) rfl #[.string (t190 ++ (a0.extract (x1_4 : Int).toNat a0.size))] rfl (by (try simp only [List.map_toArray, List.map_cons, List.map_nil]); first | done | rfl | (simp only [List.length_drop, List.length_take]; rfl)) ?_; (with_reducible refine (wire_Events.calls kj4 (t190 ++ (a0.extract (x1_4 : Int).toNat a0.size)) t193 t194 _ (LaidW.below hL (by repeat (first | (with_reducible first | exact HB.out | apply below_alloc | apply pw_below_drewN | apply below_drew1) | exact HB.out))) A14.out).mono ?_); rintro e w23 ⟨v195, rfl, ho0, hb⟩; refine ⟨_, rfl, ?_⟩; have n0_ := Aside0.mk (Kd.R_elder' (by (with_reducible repeat (first | apply Kd.R_alloc | apply Kd.R_drewN | apply Kd.R_drew)); exact HO188.out) (Kd.R_base ho0) hb); have n1_ := Aside0.mk (Kd.R_elder' (by (with_reducible repeat (first | apply Kd.R_alloc | apply Kd.R_drewN | apply Kd.R_drew)); exact HO192.out) (Kd.R_base ho0) hb); have n2_ := Aside0.mk (Kd.R_lower (Kd.R_new' (Kd.R_new' ho0 (Kd.R_lt (by (with_reducible repeat (first | apply Kd.R_alloc | apply Kd.R_drewN | apply Kd.R_drew)); exact HO188.out))) (Kd.R_lt (by (with_reducible repeat (first | apply Kd.R_alloc | apply Kd.R_drewN | apply Kd.R_drew)); exact HO192.out))) (below_size (by repeat (first | (with_reducible first | exact HB.out | apply below_alloc | apply pw_below_drewN | apply below_drew1) | exact HB.out)))); have n3_ := Aside0.mk (below_step (by repeat (first | (with_reducible first | exact HB.out | apply below_alloc | apply pw_below_drewN | apply below_drew1) | exact HB.out)) hb); clear HO188; clear HO192; clear HB; have HO188 := n0_; have HO192 := n1_; have HO196 := n2_; have HB := n3_; clear n0_ n1_ n2_ n3_; (try clear hb); (try clear hb2); (try clear hk); (try clear hi); (try clear ho0); obtain ⟨Ao25, co25, eo25⟩ := Kd.R_slice HO192.out; subst eo25) | ((with_reducible refine gate_builtin (b := .append) (xs := #[.tmp 44, .tmp 45]) rfl ?_); (try (refine gate_guard (by rfl) ?_; dsimp only)); at_builtin; refine Kd.R_append_rows k28 (w0 := w) w.heap.size rfl (.tmp 44) (.tmp 45) 22 28 (.agg #[(.int .i64 0), (.int .i64 0), (.int .i64 0), (.int .i64 0), (.int .i64 0), (.int .i64 0), (.int .i64 0), (.int .i64 0), (.int .i64 0), (.string ⟨#[]⟩), (.string ⟨#[]⟩), (.string ⟨#[]⟩), (.string ⟨#[]⟩), (.bool false)]) 144 rfl Tryz.underlying22 info28 rfl (by decide) (by omega) (.slice none 0 0) ([] : List (S28)) t189 _ _ _ (fun k_ => some k_ ≠ (v187 : Value).ownBlock ∧ some k_ ≠ (.slice Ao25 t189.length co25 : Value).ownBlock ∧ some k_ ≠ (v195 : Value).ownBlock) (fun _ => False) rfl rfl ?aO ?aR (fun _ _ h => h) (fun _ h => h.elim) ?aF ?aB ?aS ?aL ?_; (case aR => repeat (first | exact (Kd.R_reads' HO192.out).2.2 | (with_reducible refine Kd.C_alloc ?_ _) | (with_reducible refine Kd.C_drewN ?_ _) | (with_reducible refine Kd.C_drew ?_))); (case aB => exact (by repeat (first | (with_reducible first | exact HB.out | apply below_alloc | apply pw_below_drewN | apply below_drew1) | exact HB.out))); (case aF => exact (fun k_ hk => ⟨Kd.fresh' (Kd.R_lt (by (with_reducible repeat (first | apply Kd.R_alloc | apply Kd.R_drewN | apply Kd.R_drew)); exact HO188.out)) k_ hk, Kd.fresh' (Kd.R_lt (by (with_reducible repeat (first | apply Kd.R_alloc | apply Kd.R_drewN | apply Kd.R_drew)); exact HO192.out)) k_ hk, Kd.fresh' (Kd.R_lt (by (with_reducible repeat (first | apply Kd.R_alloc | apply Kd.R_drewN | apply Kd.R_drew)); exact HO196.out)) k_ hk⟩)); (case aO => exact ((Kd.R_nil _ _ _ _ (fun k_ => some k_ ≠ (v187 : Value).ownBlock ∧ some k_ ≠ (.slice Ao25 t189.length co25 : Value).ownBlock ∧ some k_ ≠ (v195 : Value).ownBlock)))); (case aS => exact (below_size (by repeat (first | (with_reducible first | exact HB.out | apply below_alloc | apply pw_below_drewN | apply below_drew1) | exact HB.out)))); (case aL => have := LMc15.out; omega); intro v198 w24 ho hb hg hat; rw [← Ny197.out] at ho; have n0_ := Aside0.mk (Kd.R_after (Kd.R_apart_nil (by (with_reducible repeat (first | apply Kd.R_alloc | apply Kd.R_drewN | apply Kd.R_drew)); exact HO188.out)) hg hat); have n1_ := Aside0.mk (Kd.R_after (Kd.R_apart_nil (by (with_reducible repeat (first | apply Kd.R_alloc | apply Kd.R_drewN | apply Kd.R_drew)); exact HO192.out)) hg hat); have n2_ := Aside0.mk (Kd.R_after (Kd.R_apart_nil (by (with_reducible repeat (first | apply Kd.R_alloc | apply Kd.R_drewN | apply Kd.R_drew)); exact HO196.out)) hg hat); have n3_ := Aside0.mk (hb); have n4_ := Aside0.mk (ho); clear HO188; clear HO192; clear HO196; clear HB; have HO188 := n0_; have HO192 := n1_; have HO196 := n2_; have HB := n3_; have HO199 := n4_; clear n0_ n1_ n2_ n3_ n4_; clear ho hb hg hat; obtain ⟨Ao27, co27, eo27⟩ := Kd.R_slice HO196.out; subst eo27) | ((with_reducible refine gate_builtin (b := .append) (xs := #[.tmp 47, .tmp 48]) rfl ?_); (try (refine gate_guard (by rfl) ?_; dsimp only)); at_builtin; refine Kd.R_append_rows k28 (w0 := w) w.heap.size rfl (.tmp 47) (.tmp 48) 22 28 (.agg #[(.int .i64 0), (.int .i64 0), (.int .i64 0), (.int .i64 0), (.int .i64 0), (.int .i64 0), (.int .i64 0), (.int .i64 0), (.int .i64 0), (.string ⟨#[]⟩), (.string ⟨#[]⟩), (.string ⟨#[]⟩), (.string ⟨#[]⟩), (.bool false)]) 144 rfl Tryz.underlying22 info28 rfl (by decide) (by omega) v198 y197 t193 _ _ _ (fun k_ => some k_ ≠ (v187 : Value).ownBlock ∧ some k_ ≠ (.slice Ao25 t189.length co25 : Value).ownBlock ∧ some k_ ≠ (.slice Ao27 t193.length co27 : Value).ownBlock) (fun _ => False) rfl rfl ?aO ?aR (fun _ _ h => h) (fun _ h => h.elim) ?aF ?aB ?aS ?aL ?_; (case aR => repeat (first | exact (Kd.R_reads' HO196.out).2.2 | (with_reducible refine Kd.C_alloc ?_ _) | (with_reducible refine Kd.C_drewN ?_ _) | (with_reducible refine Kd.C_drew ?_))); (case aB => exact (by repeat (first | (with_reducible first | exact HB.out | apply below_alloc | apply pw_below_drewN | apply below_drew1) | exact HB.out))); (case aF => exact (fun k_ hk => ⟨Kd.fresh' (Kd.R_lt (by (with_reducible repeat (first | apply Kd.R_alloc | apply Kd.R_drewN | apply Kd.R_drew)); exact HO188.out)) k_ hk, Kd.fresh' (Kd.R_lt (by (with_reducible repeat (first | apply Kd.R_alloc | apply Kd.R_drewN | apply Kd.R_drew)); exact HO192.out)) k_ hk, Kd.fresh' (Kd.R_lt (by (with_reducible repeat (first | apply Kd.R_alloc | apply Kd.R_drewN | apply Kd.R_drew)); exact HO196.out)) k_ hk⟩)); (case aO => exact (by (with_reducible repeat (first | apply Kd.R_alloc | apply Kd.R_drewN | apply Kd.R_drew)); exact HO199.out)); (case aS => exact (below_size (by repeat (first | (with_reducible first | exact HB.out | apply below_alloc | apply pw_below_drewN | apply below_drew1) | exact HB.out)))); (case aL => have := LMc16.out; omega); intro v201 w26 ho hb hg hat; rw [← Ny200.out] at ho; have n0_ := Aside0.mk (Kd.R_after (ok := (fun k_ => some k_ ≠ (.slice Ao25 t189.length co25 : Value).ownBlock ∧ some k_ ≠ (.slice Ao27 t193.length co27 : Value).ownBlock)) (by (with_reducible repeat (first | apply Kd.R_alloc | apply Kd.R_drewN | apply Kd.R_drew)); exact Kd.R_mono HO188.out (fun _ hk => ⟨⟨hk.1.1.2, hk.1.2⟩, hk.2⟩)) hg hat); have n1_ := Aside0.mk (Kd.R_after (ok := (fun k_ => some k_ ≠ (v187 : Value).ownBlock ∧ some k_ ≠ (.slice Ao27 t193.length co27 : Value).ownBlock)) (by (with_reducible repeat (first | apply Kd.R_alloc | apply Kd.R_drewN | apply Kd.R_drew)); exact Kd.R_mono HO192.out (fun _ hk => ⟨⟨hk.1.1.2, hk.1.2⟩, hk.2⟩)) hg hat); have n2_ := Aside0.mk (Kd.R_after (ok := (fun k_ => some k_ ≠ (v187 : Value).ownBlock ∧ some k_ ≠ (.slice Ao25 t189.length co25 : Value).ownBlock)) (by (with_reducible repeat (first | apply Kd.R_alloc | apply Kd.R_drewN | apply Kd.R_drew)); exact Kd.R_mono HO196.out (fun _ hk => ⟨⟨hk.1.1.2, hk.1.2⟩, hk.2⟩)) hg hat); have n3_ := Aside0.mk (hb); have n4_ := Aside0.mk (ho); clear HO188; clear HO192; clear HO196; clear HB; clear HO199; have HO188 := n0_; have HO192 := n1_; have HO196 := n2_; have HB := n3_; have HO202 := n4_; clear n0_ n1_ n2_ n3_ n4_; clear ho hb hg hat; obtain ⟨Ao28, co28, eo28⟩ := Kd.R_slice HO188.out; subst eo28; obtain ⟨Ao29, co29, eo29⟩ := Kd.R_slice HO202.out; subst eo29) | ((with_reducible refine gate_callee (f := 18) rfl ?_); refine goesL_ (some 52) rfl rfl Tryz.func18 (by kernel_rfl) rfl #[.slice Ao28 t185.length co28, .slice Ao29 y200.length co29] rfl (by (try simp only [List.map_toArray, List.map_cons, List.map_nil]); first | done | rfl | (simp only [List.length_drop, List.length_take]; rfl)) ?_; (with_reducible refine (mullionlaw03_same.calls kj4 _ _ t185 _ _ y200 true _ ?side1 ?side2 ?side3 ?side4 A17.out).mono ?_); (case side1 => repeat (first | exact (Kd.R_reads' HO188.out).2.2 | (with_reducible refine Kd.C_alloc ?_ _) | (with_reducible refine Kd.C_drewN ?_ _) | (with_reducible refine Kd.C_drew ?_))); (case side2 => exact (Kd.R_reads' HO188.out).2.1); (case side3 => repeat (first | exact (Kd.R_reads' HO202.out).2.2 | (with_reducible refine Kd.C_alloc ?_ _) | (with_reducible refine Kd.C_drewN ?_ _) | (with_reducible refine Kd.C_drew ?_))); (case side4 => exact (Kd.R_reads' HO202.out).2.1); rintro e w' ⟨rfl, ⟨nd, rfl⟩⟩; refine ⟨_, rfl, ?_⟩) | (go_at_call 23; (with_reducible refine (mullionlaw03_sure.calls  t204 _ (LaidW.below hL (by repeat (first | (with_reducible first | exact HB.out | apply below_alloc | apply pw_below_drewN | apply below_drew1) | exact HB.out))) A20.out).mono ?_); rintro e w30 ⟨rfl, hb⟩; have n0_ := Aside0.mk (Kd.R_below (by (with_reducible repeat (first | apply Kd.R_alloc | apply Kd.R_drewN | apply Kd.R_drew)); exact HO188.out) hb); have n1_ := Aside0.mk (Kd.R_below (by (with_reducible repeat (first | apply Kd.R_alloc | apply Kd.R_drewN | apply Kd.R_drew)); exact HO192.out) hb); have n2_ := Aside0.mk (Kd.R_below (by (with_reducible repeat (first | apply Kd.R_alloc | apply Kd.R_drewN | apply Kd.R_drew)); exact HO196.out) hb); have n3_ := Aside0.mk (Kd.R_below (by (with_reducible repeat (first | apply Kd.R_alloc | apply Kd.R_drewN | apply Kd.R_drew)); exact HO202.out) hb); have n4_ := Aside0.mk (below_step (by repeat (first | (with_reducible first | exact HB.out | apply below_alloc | apply pw_below_drewN | apply below_drew1) | exact HB.out)) hb); clear HO188; clear HO192; clear HO196; clear HO202; clear HB; have HO188 := n0_; have HO192 := n1_; have HO196 := n2_; have HO202 := n3_; have HB := n4_; clear n0_ n1_ n2_ n3_ n4_; (try clear hb); (try clear hb2); (try clear hk); (try clear hi)))
                        go_ret
                        exact ⟨by first | rfl | (simp [errW_none, errW_some] <;> rfl) | (simp [*, errW_none, errW_some] <;> rfl), by repeat (first | (with_reducible first | exact HB.out | apply below_alloc | apply pw_below_drewN | apply below_drew1) | exact HB.out)⟩
                      · rw [if_neg c19] at H
                        have c19b0 : (t186.toList == t194.toList) = false := beq_eq_false_iff_ne.mpr c19
                        have c19b1 : (t186.toList != t194.toList) = true := bne_iff_ne.mpr c19
                        obtain rfl := Option.some.inj H
                        go_wp2_with (first | ((with_reducible refine gate_callee (f := 26) rfl ?_); refine goesL_ (some 25) rfl rfl Tryz.func26 (by kernel_rfl) rfl #[.string a0] rfl (by (try simp only [List.map_toArray, List.map_cons, List.map_nil]); first | done | rfl | (simp only [List.length_drop, List.length_take]; rfl)) ?_; (with_reducible refine (wire_Events.calls kj4 a0 t185 t186 _ (LaidW.below hL (by repeat (first | (with_reducible first | exact HB.out | apply below_alloc | apply pw_below_drewN | apply below_drew1) | exact HB.out))) A7.out).mono ?_); rintro e w31 ⟨v187, rfl, ho0, hb⟩; refine ⟨_, rfl, ?_⟩; have n0_ := Aside0.mk (Kd.R_lower ho0 (below_size (by repeat (first | (with_reducible first | exact HB.out | apply below_alloc | apply pw_below_drewN | apply below_drew1) | exact HB.out)))); have n1_ := Aside0.mk (below_step (by repeat (first | (with_reducible first | exact HB.out | apply below_alloc | apply pw_below_drewN | apply below_drew1) | exact HB.out)) hb); clear HB; have HO188 := n0_; have HB := n1_; clear n0_ n1_; (try clear hb); (try clear hb2); (try clear hk); (try clear hi); (try clear ho0)) | ((with_reducible refine gate_callee (f := 26) rfl ?_); refine goesL_ (some 32) rfl rfl Tryz.func26 (by kernel_rfl) rfl #[.string (a0.extract 0 (x1_4 : Int).toNat)] rfl (by (try simp only [List.map_toArray, List.map_cons, List.map_nil]); first | done | rfl | (simp only [List.length_drop, List.length_take]; rfl)) ?_; (with_reducible refine (wire_Events.calls kj4 (a0.extract 0 (x1_4 : Int).toNat) t189 t190 _ (LaidW.below hL (by repeat (first | (with_reducible first | exact HB.out | apply below_alloc | apply pw_below_drewN | apply below_drew1) | exact HB.out))) A10.out).mono ?_); rintro e w32 ⟨v191, rfl, ho0, hb⟩; refine ⟨_, rfl, ?_⟩; have n0_ := Aside0.mk (Kd.R_elder' (by (with_reducible repeat (first | apply Kd.R_alloc | apply Kd.R_drewN | apply Kd.R_drew)); exact HO188.out) (Kd.R_base ho0) hb); have n1_ := Aside0.mk (Kd.R_lower (Kd.R_new' ho0 (Kd.R_lt (by (with_reducible repeat (first | apply Kd.R_alloc | apply Kd.R_drewN | apply Kd.R_drew)); exact HO188.out))) (below_size (by repeat (first | (with_reducible first | exact HB.out | apply below_alloc | apply pw_below_drewN | apply below_drew1) | exact HB.out)))); have n2_ := Aside0.mk (below_step (by repeat (first | (with_reducible first | exact HB.out | apply below_alloc | apply pw_below_drewN | apply below_drew1) | exact HB.out)) hb); clear HO188; clear HB; have HO188 := n0_; have HO192 := n1_; have HB := n2_; clear n0_ n1_ n2_; (try clear hb); (try clear hb2); (try clear hk); (try clear hi); (try clear ho0)) | ((with_reducible refine gate_callee (f := 26) rfl ?_); refine goesL_ (some 41) rfl rfl Tryz.func26 (by kernel_rfl) rfl #[.string (t190 ++ (a0.extract (x1_4 : Int).toNat a0.size))] rfl (by (try simp only [List.map_toArray, List.map_cons, List.map_nil]); first | done | rfl | (simp only [List.length_drop, List.length_take]; rfl)) ?_; (with_reducible refine (wire_Events.calls kj4 (t190 ++ (a0.extract (x1_4 : Int).toNat a0.size)) t193 t194 _ (LaidW.below hL (by repeat (first | (with_reducible first | exact HB.out | apply below_alloc | apply pw_below_drewN | apply below_drew1) | exact HB.out))) A14.out).mono ?_); rintro e w33 ⟨v195, rfl, ho0, hb⟩; refine ⟨_, rfl, ?_⟩; have n0_ := Aside0.mk (Kd.R_elder' (by (with_reducible repeat (first | apply Kd.R_alloc | apply Kd.R_drewN | apply Kd.R_drew)); exact HO188.out) (Kd.R_base ho0) hb); have n1_ := Aside0.mk (Kd.R_elder' (by (with_reducible repeat (first | apply Kd.R_alloc | apply Kd.R_drewN | apply Kd.R_drew)); exact HO192.out) (Kd.R_base ho0) hb); have n2_ := Aside0.mk (Kd.R_lower (Kd.R_new' (Kd.R_new' ho0 (Kd.R_lt (by (with_reducible repeat (first | apply Kd.R_alloc | apply Kd.R_drewN | apply Kd.R_drew)); exact HO188.out))) (Kd.R_lt (by (with_reducible repeat (first | apply Kd.R_alloc | apply Kd.R_drewN | apply Kd.R_drew)); exact HO192.out))) (below_size (by repeat (first | (with_reducible first | exact HB.out | apply below_alloc | apply pw_below_drewN | apply below_drew1) | exact HB.out)))); have n3_ := Aside0.mk (below_step (by repeat (first | (with_reducible first | exact HB.out | apply below_alloc | apply pw_below_drewN | apply below_drew1) | exact HB.out)) hb); clear HO188; clear HO192; clear HB; have HO188 := n0_; have HO192 := n1_; have HO196 := n2_; have HB := n3_; clear n0_ n1_ n2_ n3_; (try clear hb); (try clear hb2); (try clear hk); (try clear hi); (try clear ho0); obtain ⟨Ao35, co35, eo35⟩ := Kd.R_slice HO192.out; subst eo35) | ((with_reducible refine gate_builtin (b := .append) (xs := #[.tmp 44, .tmp 45]) rfl ?_); (try (refine gate_guard (by rfl) ?_; dsimp only)); at_builtin; refine Kd.R_append_rows k28 (w0 := w) w.heap.size rfl (.tmp 44) (.tmp 45) 22 28 (.agg #[(.int .i64 0), (.int .i64 0), (.int .i64 0), (.int .i64 0), (.int .i64 0), (.int .i64 0), (.int .i64 0), (.int .i64 0), (.int .i64 0), (.string ⟨#[]⟩), (.string ⟨#[]⟩), (.string ⟨#[]⟩), (.string ⟨#[]⟩), (.bool false)]) 144 rfl Tryz.underlying22 info28 rfl (by decide) (by omega) (.slice none 0 0) ([] : List (S28)) t189 _ _ _ (fun k_ => some k_ ≠ (v187 : Value).ownBlock ∧ some k_ ≠ (.slice Ao35 t189.length co35 : Value).ownBlock ∧ some k_ ≠ (v195 : Value).ownBlock) (fun _ => False) rfl rfl ?aO ?aR (fun _ _ h => h) (fun _ h => h.elim) ?aF ?aB ?aS ?aL ?_; (case aR => repeat (first | exact (Kd.R_reads' HO192.out).2.2 | (with_reducible refine Kd.C_alloc ?_ _) | (with_reducible refine Kd.C_drewN ?_ _) | (with_reducible refine Kd.C_drew ?_))); (case aB => exact (by repeat (first | (with_reducible first | exact HB.out | apply below_alloc | apply pw_below_drewN | apply below_drew1) | exact HB.out))); (case aF => exact (fun k_ hk => ⟨Kd.fresh' (Kd.R_lt (by (with_reducible repeat (first | apply Kd.R_alloc | apply Kd.R_drewN | apply Kd.R_drew)); exact HO188.out)) k_ hk, Kd.fresh' (Kd.R_lt (by (with_reducible repeat (first | apply Kd.R_alloc | apply Kd.R_drewN | apply Kd.R_drew)); exact HO192.out)) k_ hk, Kd.fresh' (Kd.R_lt (by (with_reducible repeat (first | apply Kd.R_alloc | apply Kd.R_drewN | apply Kd.R_drew)); exact HO196.out)) k_ hk⟩)); (case aO => exact ((Kd.R_nil _ _ _ _ (fun k_ => some k_ ≠ (v187 : Value).ownBlock ∧ some k_ ≠ (.slice Ao35 t189.length co35 : Value).ownBlock ∧ some k_ ≠ (v195 : Value).ownBlock)))); (case aS => exact (below_size (by repeat (first | (with_reducible first | exact HB.out | apply below_alloc | apply pw_below_drewN | apply below_drew1) | exact HB.out)))); (case aL => have := LMc15.out; omega); intro v198 w34 ho hb hg hat; rw [← Ny197.out] at ho; have n0_ := Aside0.mk (Kd.R_after (Kd.R_apart_nil (by (with_reducible repeat (first | apply Kd.R_alloc | apply Kd.R_drewN | apply Kd.R_drew)); exact HO188.out)) hg hat); have n1_ := Aside0.mk (Kd.R_after (Kd.R_apart_nil (by (with_reducible repeat (first | apply Kd.R_alloc | apply Kd.R_drewN | apply Kd.R_drew)); exact HO192.out)) hg hat); have n2_ := Aside0.mk (Kd.R_after (Kd.R_apart_nil (by (with_reducible repeat (first | apply Kd.R_alloc | apply Kd.R_drewN | apply Kd.R_drew)); exact HO196.out)) hg hat); have n3_ := Aside0.mk (hb); have n4_ := Aside0.mk (ho); clear HO188; clear HO192; clear HO196; clear HB; have HO188 := n0_; have HO192 := n1_; have HO196 := n2_; have HB := n3_; have HO199 := n4_; clear n0_ n1_ n2_ n3_ n4_; clear ho hb hg hat; obtain ⟨Ao37, co37, eo37⟩ := Kd.R_slice HO196.out; subst eo37) | ((with_reducible refine gate_builtin (b := .append) (xs := #[.tmp 47, .tmp 48]) rfl ?_); (try (refine gate_guard (by rfl) ?_; dsimp only)); at_builtin; refine Kd.R_append_rows k28 (w0 := w) w.heap.size rfl (.tmp 47) (.tmp 48) 22 28 (.agg #[(.int .i64 0), (.int .i64 0), (.int .i64 0), (.int .i64 0), (.int .i64 0), (.int .i64 0), (.int .i64 0), (.int .i64 0), (.int .i64 0), (.string ⟨#[]⟩), (.string ⟨#[]⟩), (.string ⟨#[]⟩), (.string ⟨#[]⟩), (.bool false)]) 144 rfl Tryz.underlying22 info28 rfl (by decide) (by omega) v198 y197 t193 _ _ _ (fun k_ => some k_ ≠ (v187 : Value).ownBlock ∧ some k_ ≠ (.slice Ao35 t189.length co35 : Value).ownBlock ∧ some k_ ≠ (.slice Ao37 t193.length co37 : Value).ownBlock) (fun _ => False) rfl rfl ?aO ?aR (fun _ _ h => h) (fun _ h => h.elim) ?aF ?aB ?aS ?aL ?_; (case aR => repeat (first | exact (Kd.R_reads' HO196.out).2.2 | (with_reducible refine Kd.C_alloc ?_ _) | (with_reducible refine Kd.C_drewN ?_ _) | (with_reducible refine Kd.C_drew ?_))); (case aB => exact (by repeat (first | (with_reducible first | exact HB.out | apply below_alloc | apply pw_below_drewN | apply below_drew1) | exact HB.out))); (case aF => exact (fun k_ hk => ⟨Kd.fresh' (Kd.R_lt (by (with_reducible repeat (first | apply Kd.R_alloc | apply Kd.R_drewN | apply Kd.R_drew)); exact HO188.out)) k_ hk, Kd.fresh' (Kd.R_lt (by (with_reducible repeat (first | apply Kd.R_alloc | apply Kd.R_drewN | apply Kd.R_drew)); exact HO192.out)) k_ hk, Kd.fresh' (Kd.R_lt (by (with_reducible repeat (first | apply Kd.R_alloc | apply Kd.R_drewN | apply Kd.R_drew)); exact HO196.out)) k_ hk⟩)); (case aO => exact (by (with_reducible repeat (first | apply Kd.R_alloc | apply Kd.R_drewN | apply Kd.R_drew)); exact HO199.out)); (case aS => exact (below_size (by repeat (first | (with_reducible first | exact HB.out | apply below_alloc | apply pw_below_drewN | apply below_drew1) | exact HB.out)))); (case aL => have := LMc16.out; omega); intro v201 w36 ho hb hg hat; rw [← Ny200.out] at ho; have n0_ := Aside0.mk (Kd.R_after (ok := (fun k_ => some k_ ≠ (.slice Ao35 t189.length co35 : Value).ownBlock ∧ some k_ ≠ (.slice Ao37 t193.length co37 : Value).ownBlock)) (by (with_reducible repeat (first | apply Kd.R_alloc | apply Kd.R_drewN | apply Kd.R_drew)); exact Kd.R_mono HO188.out (fun _ hk => ⟨⟨hk.1.1.2, hk.1.2⟩, hk.2⟩)) hg hat); have n1_ := Aside0.mk (Kd.R_after (ok := (fun k_ => some k_ ≠ (v187 : Value).ownBlock ∧ some k_ ≠ (.slice Ao37 t193.length co37 : Value).ownBlock)) (by (with_reducible repeat (first | apply Kd.R_alloc | apply Kd.R_drewN | apply Kd.R_drew)); exact Kd.R_mono HO192.out (fun _ hk => ⟨⟨hk.1.1.2, hk.1.2⟩, hk.2⟩)) hg hat); have n2_ := Aside0.mk (Kd.R_after (ok := (fun k_ => some k_ ≠ (v187 : Value).ownBlock ∧ some k_ ≠ (.slice Ao35 t189.length co35 : Value).ownBlock)) (by (with_reducible repeat (first | apply Kd.R_alloc | apply Kd.R_drewN | apply Kd.R_drew)); exact Kd.R_mono HO196.out (fun _ hk => ⟨⟨hk.1.1.2, hk.1.2⟩, hk.2⟩)) hg hat); have n3_ := Aside0.mk (hb); have n4_ := Aside0.mk (ho); clear HO188; clear HO192; clear HO196; clear HB; clear HO199; have HO188 := n0_; have HO192 := n1_; have HO196 := n2_; have HB := n3_; have HO202 := n4_; clear n0_ n1_ n2_ n3_ n4_; clear ho hb hg hat; obtain ⟨Ao38, co38, eo38⟩ := Kd.R_slice HO188.out; subst eo38; obtain ⟨Ao39, co39, eo39⟩ := Kd.R_slice HO202.out; subst eo39) | ((with_reducible refine gate_callee (f := 18) rfl ?_); refine goesL_ (some 52) rfl rfl Tryz.func18 (by kernel_rfl) rfl #[.slice Ao38 t185.length co38, .slice Ao39 y200.length co39] rfl (by (try simp only [List.map_toArray, List.map_cons, List.map_nil]); first | done | rfl | (simp only [List.length_drop, List.length_take]; rfl)) ?_; (with_reducible refine (mullionlaw03_same.calls kj4 _ _ t185 _ _ y200 true _ ?side1 ?side2 ?side3 ?side4 A17.out).mono ?_); (case side1 => repeat (first | exact (Kd.R_reads' HO188.out).2.2 | (with_reducible refine Kd.C_alloc ?_ _) | (with_reducible refine Kd.C_drewN ?_ _) | (with_reducible refine Kd.C_drew ?_))); (case side2 => exact (Kd.R_reads' HO188.out).2.1); (case side3 => repeat (first | exact (Kd.R_reads' HO202.out).2.2 | (with_reducible refine Kd.C_alloc ?_ _) | (with_reducible refine Kd.C_drewN ?_ _) | (with_reducible refine Kd.C_drew ?_))); (case side4 => exact (Kd.R_reads' HO202.out).2.1); rintro e w' ⟨rfl, ⟨nd, rfl⟩⟩; refine ⟨_, rfl, ?_⟩))
                        go_ret
                        exact ⟨by first | rfl | (simp [errW_none, errW_some] <;> rfl) | (simp [*, errW_none, errW_some] <;> rfl), by repeat (first | (with_reducible first | exact HB.out | apply below_alloc | apply pw_below_drewN | apply below_drew1) | exact HB.out)⟩
                    · replace c18 := Bool.eq_false_iff.mpr c18
                      subst c18
                      have H1 : (some false) = some r := by rw [if_neg (show ¬ (false = true) by decide)] at H; exact H
                      clear H
                      have H := H1
                      clear H1
                      obtain rfl := Option.some.inj H
                      go_wp2_with (first | ((with_reducible refine gate_callee (f := 26) rfl ?_); refine goesL_ (some 25) rfl rfl Tryz.func26 (by kernel_rfl) rfl #[.string a0] rfl (by (try simp only [List.map_toArray, List.map_cons, List.map_nil]); first | done | rfl | (simp only [List.length_drop, List.length_take]; rfl)) ?_; (with_reducible refine (wire_Events.calls kj4 a0 t185 t186 _ (LaidW.below hL (by repeat (first | (with_reducible first | exact HB.out | apply below_alloc | apply pw_below_drewN | apply below_drew1) | exact HB.out))) A7.out).mono ?_); rintro e w40 ⟨v187, rfl, ho0, hb⟩; refine ⟨_, rfl, ?_⟩; have n0_ := Aside0.mk (Kd.R_lower ho0 (below_size (by repeat (first | (with_reducible first | exact HB.out | apply below_alloc | apply pw_below_drewN | apply below_drew1) | exact HB.out)))); have n1_ := Aside0.mk (below_step (by repeat (first | (with_reducible first | exact HB.out | apply below_alloc | apply pw_below_drewN | apply below_drew1) | exact HB.out)) hb); clear HB; have HO188 := n0_; have HB := n1_; clear n0_ n1_; (try clear hb); (try clear hb2); (try clear hk); (try clear hi); (try clear ho0)) | ((with_reducible refine gate_callee (f := 26) rfl ?_); refine goesL_ (some 32) rfl rfl Tryz.func26 (by kernel_rfl) rfl #[.string (a0.extract 0 (x1_4 : Int).toNat)] rfl (by (try simp only [List.map_toArray, List.map_cons, List.map_nil]); first | done | rfl | (simp only [List.length_drop, List.length_take]; rfl)) ?_; (with_reducible refine (wire_Events.calls kj4 (a0.extract 0 (x1_4 : Int).toNat) t189 t190 _ (LaidW.below hL (by repeat (first | (with_reducible first | exact HB.out | apply below_alloc | apply pw_below_drewN | apply below_drew1) | exact HB.out))) A10.out).mono ?_); rintro e w41 ⟨v191, rfl, ho0, hb⟩; refine ⟨_, rfl, ?_⟩; have n0_ := Aside0.mk (Kd.R_elder' (by (with_reducible repeat (first | apply Kd.R_alloc | apply Kd.R_drewN | apply Kd.R_drew)); exact HO188.out) (Kd.R_base ho0) hb); have n1_ := Aside0.mk (Kd.R_lower (Kd.R_new' ho0 (Kd.R_lt (by (with_reducible repeat (first | apply Kd.R_alloc | apply Kd.R_drewN | apply Kd.R_drew)); exact HO188.out))) (below_size (by repeat (first | (with_reducible first | exact HB.out | apply below_alloc | apply pw_below_drewN | apply below_drew1) | exact HB.out)))); have n2_ := Aside0.mk (below_step (by repeat (first | (with_reducible first | exact HB.out | apply below_alloc | apply pw_below_drewN | apply below_drew1) | exact HB.out)) hb); clear HO188; clear HB; have HO188 := n0_; have HO192 := n1_; have HB := n2_; clear n0_ n1_ n2_; (try clear hb); (try clear hb2); (try clear hk); (try clear hi); (try clear ho0)) | ((with_reducible refine gate_callee (f := 26) rfl ?_); refine goesL_ (some 41) rfl rfl Tryz.func26 (by kernel_rfl) rfl #[.string (t190 ++ (a0.extract (x1_4 : Int).toNat a0.size))] rfl (by (try simp only [List.map_toArray, List.map_cons, List.map_nil]); first | done | rfl | (simp only [List.length_drop, List.length_take]; rfl)) ?_; (with_reducible refine (wire_Events.calls kj4 (t190 ++ (a0.extract (x1_4 : Int).toNat a0.size)) t193 t194 _ (LaidW.below hL (by repeat (first | (with_reducible first | exact HB.out | apply below_alloc | apply pw_below_drewN | apply below_drew1) | exact HB.out))) A14.out).mono ?_); rintro e w42 ⟨v195, rfl, ho0, hb⟩; refine ⟨_, rfl, ?_⟩; have n0_ := Aside0.mk (Kd.R_elder' (by (with_reducible repeat (first | apply Kd.R_alloc | apply Kd.R_drewN | apply Kd.R_drew)); exact HO188.out) (Kd.R_base ho0) hb); have n1_ := Aside0.mk (Kd.R_elder' (by (with_reducible repeat (first | apply Kd.R_alloc | apply Kd.R_drewN | apply Kd.R_drew)); exact HO192.out) (Kd.R_base ho0) hb); have n2_ := Aside0.mk (Kd.R_lower (Kd.R_new' (Kd.R_new' ho0 (Kd.R_lt (by (with_reducible repeat (first | apply Kd.R_alloc | apply Kd.R_drewN | apply Kd.R_drew)); exact HO188.out))) (Kd.R_lt (by (with_reducible repeat (first | apply Kd.R_alloc | apply Kd.R_drewN | apply Kd.R_drew)); exact HO192.out))) (below_size (by repeat (first | (with_reducible first | exact HB.out | apply below_alloc | apply pw_below_drewN | apply below_drew1) | exact HB.out)))); have n3_ := Aside0.mk (below_step (by repeat (first | (with_reducible first | exact HB.out | apply below_alloc | apply pw_below_drewN | apply below_drew1) | exact HB.out)) hb); clear HO188; clear HO192; clear HB; have HO188 := n0_; have HO192 := n1_; have HO196 := n2_; have HB := n3_; clear n0_ n1_ n2_ n3_; (try clear hb); (try clear hb2); (try clear hk); (try clear hi); (try clear ho0); obtain ⟨Ao44, co44, eo44⟩ := Kd.R_slice HO192.out; subst eo44) | ((with_reducible refine gate_builtin (b := .append) (xs := #[.tmp 44, .tmp 45]) rfl ?_); (try (refine gate_guard (by rfl) ?_; dsimp only)); at_builtin; refine Kd.R_append_rows k28 (w0 := w) w.heap.size rfl (.tmp 44) (.tmp 45) 22 28 (.agg #[(.int .i64 0), (.int .i64 0), (.int .i64 0), (.int .i64 0), (.int .i64 0), (.int .i64 0), (.int .i64 0), (.int .i64 0), (.int .i64 0), (.string ⟨#[]⟩), (.string ⟨#[]⟩), (.string ⟨#[]⟩), (.string ⟨#[]⟩), (.bool false)]) 144 rfl Tryz.underlying22 info28 rfl (by decide) (by omega) (.slice none 0 0) ([] : List (S28)) t189 _ _ _ (fun k_ => some k_ ≠ (v187 : Value).ownBlock ∧ some k_ ≠ (.slice Ao44 t189.length co44 : Value).ownBlock ∧ some k_ ≠ (v195 : Value).ownBlock) (fun _ => False) rfl rfl ?aO ?aR (fun _ _ h => h) (fun _ h => h.elim) ?aF ?aB ?aS ?aL ?_; (case aR => repeat (first | exact (Kd.R_reads' HO192.out).2.2 | (with_reducible refine Kd.C_alloc ?_ _) | (with_reducible refine Kd.C_drewN ?_ _) | (with_reducible refine Kd.C_drew ?_))); (case aB => exact (by repeat (first | (with_reducible first | exact HB.out | apply below_alloc | apply pw_below_drewN | apply below_drew1) | exact HB.out))); (case aF => exact (fun k_ hk => ⟨Kd.fresh' (Kd.R_lt (by (with_reducible repeat (first | apply Kd.R_alloc | apply Kd.R_drewN | apply Kd.R_drew)); exact HO188.out)) k_ hk, Kd.fresh' (Kd.R_lt (by (with_reducible repeat (first | apply Kd.R_alloc | apply Kd.R_drewN | apply Kd.R_drew)); exact HO192.out)) k_ hk, Kd.fresh' (Kd.R_lt (by (with_reducible repeat (first | apply Kd.R_alloc | apply Kd.R_drewN | apply Kd.R_drew)); exact HO196.out)) k_ hk⟩)); (case aO => exact ((Kd.R_nil _ _ _ _ (fun k_ => some k_ ≠ (v187 : Value).ownBlock ∧ some k_ ≠ (.slice Ao44 t189.length co44 : Value).ownBlock ∧ some k_ ≠ (v195 : Value).ownBlock)))); (case aS => exact (below_size (by repeat (first | (with_reducible first | exact HB.out | apply below_alloc | apply pw_below_drewN | apply below_drew1) | exact HB.out)))); (case aL => have := LMc15.out; omega); intro v198 w43 ho hb hg hat; rw [← Ny197.out] at ho; have n0_ := Aside0.mk (Kd.R_after (Kd.R_apart_nil (by (with_reducible repeat (first | apply Kd.R_alloc | apply Kd.R_drewN | apply Kd.R_drew)); exact HO188.out)) hg hat); have n1_ := Aside0.mk (Kd.R_after (Kd.R_apart_nil (by (with_reducible repeat (first | apply Kd.R_alloc | apply Kd.R_drewN | apply Kd.R_drew)); exact HO192.out)) hg hat); have n2_ := Aside0.mk (Kd.R_after (Kd.R_apart_nil (by (with_reducible repeat (first | apply Kd.R_alloc | apply Kd.R_drewN | apply Kd.R_drew)); exact HO196.out)) hg hat); have n3_ := Aside0.mk (hb); have n4_ := Aside0.mk (ho); clear HO188; clear HO192; clear HO196; clear HB; have HO188 := n0_; have HO192 := n1_; have HO196 := n2_; have HB := n3_; have HO199 := n4_; clear n0_ n1_ n2_ n3_ n4_; clear ho hb hg hat; obtain ⟨Ao46, co46, eo46⟩ := Kd.R_slice HO196.out; subst eo46) | ((with_reducible refine gate_builtin (b := .append) (xs := #[.tmp 47, .tmp 48]) rfl ?_); (try (refine gate_guard (by rfl) ?_; dsimp only)); at_builtin; refine Kd.R_append_rows k28 (w0 := w) w.heap.size rfl (.tmp 47) (.tmp 48) 22 28 (.agg #[(.int .i64 0), (.int .i64 0), (.int .i64 0), (.int .i64 0), (.int .i64 0), (.int .i64 0), (.int .i64 0), (.int .i64 0), (.int .i64 0), (.string ⟨#[]⟩), (.string ⟨#[]⟩), (.string ⟨#[]⟩), (.string ⟨#[]⟩), (.bool false)]) 144 rfl Tryz.underlying22 info28 rfl (by decide) (by omega) v198 y197 t193 _ _ _ (fun k_ => some k_ ≠ (v187 : Value).ownBlock ∧ some k_ ≠ (.slice Ao44 t189.length co44 : Value).ownBlock ∧ some k_ ≠ (.slice Ao46 t193.length co46 : Value).ownBlock) (fun _ => False) rfl rfl ?aO ?aR (fun _ _ h => h) (fun _ h => h.elim) ?aF ?aB ?aS ?aL ?_; (case aR => repeat (first | exact (Kd.R_reads' HO196.out).2.2 | (with_reducible refine Kd.C_alloc ?_ _) | (with_reducible refine Kd.C_drewN ?_ _) | (with_reducible refine Kd.C_drew ?_))); (case aB => exact (by repeat (first | (with_reducible first | exact HB.out | apply below_alloc | apply pw_below_drewN | apply below_drew1) | exact HB.out))); (case aF => exact (fun k_ hk => ⟨Kd.fresh' (Kd.R_lt (by (with_reducible repeat (first | apply Kd.R_alloc | apply Kd.R_drewN | apply Kd.R_drew)); exact HO188.out)) k_ hk, Kd.fresh' (Kd.R_lt (by (with_reducible repeat (first | apply Kd.R_alloc | apply Kd.R_drewN | apply Kd.R_drew)); exact HO192.out)) k_ hk, Kd.fresh' (Kd.R_lt (by (with_reducible repeat (first | apply Kd.R_alloc | apply Kd.R_drewN | apply Kd.R_drew)); exact HO196.out)) k_ hk⟩)); (case aO => exact (by (with_reducible repeat (first | apply Kd.R_alloc | apply Kd.R_drewN | apply Kd.R_drew)); exact HO199.out)); (case aS => exact (below_size (by repeat (first | (with_reducible first | exact HB.out | apply below_alloc | apply pw_below_drewN | apply below_drew1) | exact HB.out)))); (case aL => have := LMc16.out; omega); intro v201 w45 ho hb hg hat; rw [← Ny200.out] at ho; have n0_ := Aside0.mk (Kd.R_after (ok := (fun k_ => some k_ ≠ (.slice Ao44 t189.length co44 : Value).ownBlock ∧ some k_ ≠ (.slice Ao46 t193.length co46 : Value).ownBlock)) (by (with_reducible repeat (first | apply Kd.R_alloc | apply Kd.R_drewN | apply Kd.R_drew)); exact Kd.R_mono HO188.out (fun _ hk => ⟨⟨hk.1.1.2, hk.1.2⟩, hk.2⟩)) hg hat); have n1_ := Aside0.mk (Kd.R_after (ok := (fun k_ => some k_ ≠ (v187 : Value).ownBlock ∧ some k_ ≠ (.slice Ao46 t193.length co46 : Value).ownBlock)) (by (with_reducible repeat (first | apply Kd.R_alloc | apply Kd.R_drewN | apply Kd.R_drew)); exact Kd.R_mono HO192.out (fun _ hk => ⟨⟨hk.1.1.2, hk.1.2⟩, hk.2⟩)) hg hat); have n2_ := Aside0.mk (Kd.R_after (ok := (fun k_ => some k_ ≠ (v187 : Value).ownBlock ∧ some k_ ≠ (.slice Ao44 t189.length co44 : Value).ownBlock)) (by (with_reducible repeat (first | apply Kd.R_alloc | apply Kd.R_drewN | apply Kd.R_drew)); exact Kd.R_mono HO196.out (fun _ hk => ⟨⟨hk.1.1.2, hk.1.2⟩, hk.2⟩)) hg hat); have n3_ := Aside0.mk (hb); have n4_ := Aside0.mk (ho); clear HO188; clear HO192; clear HO196; clear HB; clear HO199; have HO188 := n0_; have HO192 := n1_; have HO196 := n2_; have HB := n3_; have HO202 := n4_; clear n0_ n1_ n2_ n3_ n4_; clear ho hb hg hat; obtain ⟨Ao47, co47, eo47⟩ := Kd.R_slice HO188.out; subst eo47; obtain ⟨Ao48, co48, eo48⟩ := Kd.R_slice HO202.out; subst eo48) | ((with_reducible refine gate_callee (f := 18) rfl ?_); refine goesL_ (some 52) rfl rfl Tryz.func18 (by kernel_rfl) rfl #[.slice Ao47 t185.length co47, .slice Ao48 y200.length co48] rfl (by (try simp only [List.map_toArray, List.map_cons, List.map_nil]); first | done | rfl | (simp only [List.length_drop, List.length_take]; rfl)) ?_; (with_reducible refine (mullionlaw03_same.calls kj4 _ _ t185 _ _ y200 false _ ?side1 ?side2 ?side3 ?side4 A17.out).mono ?_); (case side1 => repeat (first | exact (Kd.R_reads' HO188.out).2.2 | (with_reducible refine Kd.C_alloc ?_ _) | (with_reducible refine Kd.C_drewN ?_ _) | (with_reducible refine Kd.C_drew ?_))); (case side2 => exact (Kd.R_reads' HO188.out).2.1); (case side3 => repeat (first | exact (Kd.R_reads' HO202.out).2.2 | (with_reducible refine Kd.C_alloc ?_ _) | (with_reducible refine Kd.C_drewN ?_ _) | (with_reducible refine Kd.C_drew ?_))); (case side4 => exact (Kd.R_reads' HO202.out).2.1); rintro e w' ⟨rfl, ⟨nd, rfl⟩⟩; refine ⟨_, rfl, ?_⟩))
                      go_ret
                      exact ⟨by first | rfl | (simp [errW_none, errW_some] <;> rfl) | (simp [*, errW_none, errW_some] <;> rfl), by repeat (first | (with_reducible first | exact HB.out | apply below_alloc | apply pw_below_drewN | apply below_drew1) | exact HB.out)⟩
                  · rw [if_neg c16] at H
                    exact absurd H (by simp)
                · rw [if_neg c15] at H
                  exact absurd H (by simp)
              · rw [if_neg c13] at H
                exact absurd H (by simp)
            · rw [if_neg c9] at H
              exact absurd H (by simp)
          · rw [if_neg c8] at H
            exact absurd H (by simp)

end Go.Proofs.YtnblabfkkcohgaaGreatDoor.PLwA
end
section
-- Printed by a program of this session (wip/fork) out of the translation. Lean checks it.
namespace Go.Proofs.YtnblabfkkcohgaaGreatDoor.PLwA
open Go.Proofs.YtnblabfkkcohgaaGreatDoor.LawG Go.Proofs.YtnblabfkkcohgaaGreatDoor.CutG Go.Proofs.YtnblabfkkcohgaaGreatDoor.Given
open Go.RowKit Go.Proofs.YtnblabfkkcohgaaGreatDoorW.PrintWords Go.Proofs.YtnblabfkkcohgaaGreatDoorW.PrintLast Go.Proofs.YtnblabfkkcohgaaGreatDoorW.PrintMore
attribute [local go_sem] max2_int min2_int max_two min_two max_three min_three max_four min_four   -- for this text's walks alone
set_option linter.unusedVariables false
set_option linter.unusedSimpArgs false
attribute [local go_sem high] field28

end Go.Proofs.YtnblabfkkcohgaaGreatDoor.PLwA
end
section
/- The plain laws of escapes, numbers and ids: what is written is what is read. -/
namespace Go.Proofs.YtnblabfkkcohgaaGreatDoor.Wire
set_option linter.unusedVariables false
set_option linter.unusedSimpArgs false
open Go Go.Shelf Go.RowKit

theorem unescN_cons (x : UInt8) (l : List UInt8) : unescN (x :: l) = if mustN x = true then (if (readN (x :: l)).2 = true ∧ mustN (readN (x :: l)).1 = true then (unescN (l.drop 3)).map ((readN (x :: l)).1 :: ·) else none) else (unescN l).map (x :: ·) := by
  show unescF (l.length + 1) (x :: l) = _
  simp only [unescF]
  rw [unescF_more _ l (Nat.le_refl _), unescF_more _ (l.drop 3) (by simp)]
theorem u8_of (x : UInt8) : ∃ n : Nat, n < 256 ∧ x = UInt8.ofNat n := ⟨x.toNat, x.toNat_lt, by simp⟩
theorem read_esc_all : ∀ n : Nat, n < 256 → (92 : UInt8).toNat = 92 ∧ oct (UInt8.ofNat (48 + (UInt8.ofNat n).toNat / 64)) = true ∧ oct (UInt8.ofNat (48 + (UInt8.ofNat n).toNat / 8 % 8)) = true ∧ oct (UInt8.ofNat (48 + (UInt8.ofNat n).toNat % 8)) = true ∧
    64 * ((UInt8.ofNat (48 + (UInt8.ofNat n).toNat / 64)).toNat - 48) + 8 * ((UInt8.ofNat (48 + (UInt8.ofNat n).toNat / 8 % 8)).toNat - 48) + ((UInt8.ofNat (48 + (UInt8.ofNat n).toNat % 8)).toNat - 48) = n := by decide +kernel
theorem read_esc (x : UInt8) (r : List UInt8) : readN (92 :: UInt8.ofNat (48 + x.toNat / 64) :: UInt8.ofNat (48 + x.toNat / 8 % 8) :: UInt8.ofNat (48 + x.toNat % 8) :: r) = (x, true) := by
  obtain ⟨n, hn, rfl⟩ := u8_of x
  obtain ⟨h0, h1, h2, h3, h4⟩ := read_esc_all n hn
  simp only [readN]
  rw [if_pos ⟨h0, h1, h2, h3⟩, h4]
  simp [hn]
theorem unesc_esc (l : List UInt8) : unescN (escL l) = some l := by
  induction l with
  | nil => rfl
  | cons x l ih =>
    rw [show escL (x :: l) = escB x ++ escL l from List.flatMap_cons]
    unfold escB
    by_cases hm : mustN x = true
    · rw [if_pos hm]
      simp only [List.cons_append, List.nil_append]
      rw [unescN_cons, if_pos (by rfl), read_esc]
      rw [if_pos ⟨rfl, hm⟩]
      simp only [List.drop_succ_cons, List.drop_zero]
      rw [ih]
      rfl
    · rw [if_neg hm]
      simp only [List.cons_append, List.nil_append]
      rw [unescN_cons, if_neg hm, ih]
      rfl
theorem unescR_esc (l : List UInt8) : unescR (escL l) = (l, 0) := by unfold unescR; rw [unesc_esc]
theorem prefix_iff (l : List UInt8) : Lib.hasPrefix l [92, 48, 52, 53] = true ↔ ∃ r, l = 92 :: 48 :: 52 :: 53 :: r := by
  match l with
  | a :: b :: c :: d :: r =>
    constructor
    · intro h
      simp [Lib.hasPrefix] at h
      exact ⟨r, by simp [h]⟩
    · rintro ⟨r', h⟩
      simp at h
      simp [Lib.hasPrefix, h]
  | [] => simp [Lib.hasPrefix]
  | [a] => simp [Lib.hasPrefix]
  | [a, b] => simp [Lib.hasPrefix]
  | [a, b, c] => simp [Lib.hasPrefix]
end Go.Proofs.YtnblabfkkcohgaaGreatDoor.Wire
end
section
/- The plain laws of a line's fields: what is written is what is read, and what is read is what is written. -/
namespace Go.Proofs.YtnblabfkkcohgaaGreatDoor.Wire
set_option linter.unusedVariables false
set_option linter.unusedSimpArgs false
open Go Go.Shelf Go.RowKit

theorem escB_head (x : UInt8) (r : List UInt8) (h : x ≠ 37) : (escB x ++ r).head? ≠ some 37 := by
  unfold escB
  split
  · simp
  · simpa using h
theorem escBody_head (l : List UInt8) : (escBodyN l).head? ≠ some 37 := by
  unfold escBodyN
  split
  · simp
  · rename_i h
    cases l with
    | nil => simp [escL]
    | cons x l =>
      rw [show escL (x :: l) = escB x ++ escL l from List.flatMap_cons]
      exact escB_head x _ (by simpa using h)
theorem esc_pre {l : List UInt8} {r : List UInt8} (h : escL l = 92 :: 48 :: 52 :: 53 :: r) : False := by
  have h1 := unesc_esc l
  rw [h, unescN_cons, if_pos (by rfl)] at h1
  have h2 : readN (92 :: 48 :: 52 :: 53 :: r) = (37, true) := rfl
  rw [h2, if_neg (by decide)] at h1
  cases h1
theorem unescBody_esc (l : List UInt8) : unescBodyR (escBodyN l) = (l, 0) := by
  unfold unescBodyR
  rw [if_neg (escBody_head l)]
  by_cases h : l.head? = some 37
  · obtain ⟨r, rfl⟩ : ∃ r, l = 37 :: r := by cases l with | nil => simp at h | cons x r => exact ⟨r, by simpa using h⟩
    have e : escBodyN (37 :: r) = 92 :: 48 :: 52 :: 53 :: escL r := by unfold escBodyN; rw [if_pos (show (37 :: r).head? = some 37 from rfl)]; rfl
    rw [e, if_pos ((prefix_iff _).2 ⟨_, rfl⟩)]
    simp only [List.drop_succ_cons, List.drop_zero]
    rw [unescR_esc]
    rfl
  · have e : escBodyN l = escL l := by unfold escBodyN; rw [if_neg h]
    rw [e, if_neg (fun hp => ?_), unescR_esc]
    obtain ⟨r, hr⟩ := (prefix_iff _).1 hp
    exact esc_pre hr
theorem putId_ok {m : UInt8} {n : Int} (h : (ofL (putIdN m n)).toList.isEmpty = false) : 1 ≤ n ∧ n ≤ 4611686018427387904 := by
  rw [ofL_toList] at h
  unfold putIdN at h
  split at h
  · rename_i hn; exact hn
  · simp at h
theorem id_put (m : UInt8) (n : Int) (h0 : 1 ≤ n) (h1 : n ≤ 4611686018427387904) : idR m (putIdN m n) = (n, true) := by
  have e : putIdN m n = m :: putNumN n := by unfold putIdN putNumN; rw [if_pos ⟨h0, h1⟩, if_pos ⟨by omega, h1⟩]
  unfold idR
  rw [e, if_pos (show (m :: putNumN n).head? = some m from rfl)]
  simp only [List.drop_succ_cons, List.drop_zero]
  rw [numR_yes n (by omega) h1, if_pos ⟨rfl, by show n ≠ 0; omega⟩]
/-- Where in an event a field lies; 14: nowhere. -/
def NP.slot : NP → Nat | .tick => 6 | .number => 7 | .flag => 8 | .offset => 5 | .index => 4
def IP.slot : IP → Nat | .pane => 3 | .window => 2 | .session => 1
def Fd.slot : Fd → Nat
  | .num p _ => p.slot
  | .id _ p => p.slot
  | .name _ => 9
  | .text _ _ => 10
  | .plan false => 11
  | .plan true => 12
  | .zoom => 13
  | .colon => 14
/-- A field's greatest number is one that can be read. -/
def Fd.sane : Fd → Bool
  | .num _ m => decide (m ≤ 4611686018427387904)
  | _ => true
/-- What is written is what is read. -/
theorem get_put {fd : Fd} (hf : fd.sane = true) {e t : Evt} (h : (fd.put e).2 = true) : fd.get t (ofL (fd.put e).1.data.toList) = (fd.keep t e, true) := by
  rw [ofL_list]
  cases fd with
  | num p m =>
    simp only [Fd.sane, decide_eq_true_eq] at hf
    simp only [Fd.put, Bool.and_eq_true, decide_eq_true_eq] at h
    simp only [Fd.put, Fd.get, Fd.keep, ofL_data]
    rw [numR_yes _ h.1 (by omega)]
    simp [h.2]
  | id m p =>
    simp only [Fd.put] at h
    have hb := putId_ok (m := m) (n := p.get e) (by simpa using h)
    simp only [Fd.put, Fd.get, Fd.keep, ofL_data]
    rw [id_put m _ hb.1 hb.2]
  | name b => simp only [Fd.put] at h; simp only [Fd.put, Fd.get, Fd.keep]; rw [h]
  | text a b =>
    simp only [Fd.put, Bool.and_eq_true, decide_eq_true_eq] at h
    simp only [Fd.put, Fd.get, Fd.keep, ofL_data]
    rw [unescR_esc]
    simp only [ofL_list, dlen]
    simp [h.1, h.2]
  | plan v => cases v <;> (simp only [Fd.put] at h; simp only [Fd.put, Fd.get, Fd.keep]; rw [h])
  | zoom =>
    simp only [Fd.put, Fd.get, Fd.keep, ofL_toList]
    cases e.zoom <;> rfl
  | colon => simp only [Fd.get, Fd.put, Fd.keep, ofL_toList]; rfl
end Go.Proofs.YtnblabfkkcohgaaGreatDoor.Wire
end
section
/- The plain laws of lines: a line that is written tells its event, and an event that is told is written so. -/
namespace Go.Proofs.YtnblabfkkcohgaaGreatDoor.Wire
set_option linter.unusedVariables false
set_option linter.unusedSimpArgs false
open Go Go.Shelf Go.RowKit

theorem dec_mem : ∀ (n : Nat) (x : UInt8), x ∈ Lib.decDigits n → 48 ≤ x.toNat := by
  intro n
  induction n using Nat.strongRecOn with
  | ind n ih =>
    intro x hx
    rw [Lib.decDigits] at hx
    split at hx
    · simp only [List.mem_singleton] at hx
      subst hx
      simp only [UInt8.toNat_ofNat']
      omega
    · rw [List.mem_append, List.mem_singleton] at hx
      rcases hx with hx | hx
      · exact ih _ (by omega) x hx
      · subst hx
        simp only [UInt8.toNat_ofNat']
        omega
theorem putNum_blank (n : Int) : (32 : UInt8) ∉ putNumN n := by
  unfold putNumN
  split
  · intro h
    have := dec_mem _ _ h
    revert this
    decide
  · simp
theorem putId_blank (m : UInt8) (hm : m ≠ 32) (n : Int) : (32 : UInt8) ∉ putIdN m n := by
  unfold putIdN
  split
  · simp only [List.mem_cons, not_or]
    refine ⟨fun e => hm e.symm, fun h => ?_⟩
    have := dec_mem _ _ h
    revert this
    decide
  · simp
theorem index_not {l : List UInt8} {c : UInt8} (h : Lib.indexByte l c < 0) : c ∉ l := by
  rcases cutN_cases c l with ⟨_, h2⟩ | ⟨i, h1, _⟩
  · have := cutN_none (c := c) (l := l)
    rw [h2] at this
    exact this
  · omega
/-- A field in which no blank stands. -/
def Fd.tight : Fd → Bool
  | .name b => !b
  | .text _ _ => false
  | .id m _ => decide (m ≠ 32)
  | _ => true
theorem put_blank {fd : Fd} (hf : fd.tight = true) {e : Evt} (h : (fd.put e).2 = true) : (32 : UInt8) ∉ (fd.put e).1.data.toList := by
  cases fd with
  | num p m => simp only [Fd.put, ofL_data]; exact putNum_blank _
  | id m p => simp only [Fd.put, ofL_data]; exact putId_blank m (by simpa [Fd.tight] using hf) _
  | name b =>
    have hb : b = false := by simpa [Fd.tight] using hf
    subst hb
    simp only [Fd.put] at h ⊢
    have h2 : wordN e.name.data.toList = true := h
    unfold wordN at h2
    simp only [Bool.and_eq_true, decide_eq_true_eq] at h2
    exact index_not h2.2
  | text a b => simp [Fd.tight] at hf
  | plan v =>
    have key : ∀ l : List UInt8, planN l = true → (32 : UInt8) ∉ l := by
      intro l hl hm
      unfold planN at hl
      simp only [Bool.and_eq_true, List.all_eq_true] at hl
      have := hl.1 _ hm
      revert this
      decide
    cases v <;> (simp only [Fd.put, Bool.and_eq_true] at h; simp only [Fd.put]; exact key _ h.2)
  | zoom => simp only [Fd.put, ofL_data]; split <;> decide
  | colon => simp only [Fd.put, ofL_data]; decide
theorem cutN_app {c : UInt8} {p l : List UInt8} (h : c ∉ p) : cutN c (p ++ c :: l) = (p, l, true) := by
  induction p with
  | nil => simp [cutN]
  | cons b p ih =>
    simp only [List.mem_cons, not_or] at h
    rw [List.cons_append]
    unfold cutN
    rw [if_neg (by simp; exact fun e => h.1 e.symm), ih h.2]
theorem cutN_all {c : UInt8} {p : List UInt8} (h : c ∉ p) : cutN c p = (p, [], false) := by
  induction p with
  | nil => rfl
  | cons b p ih =>
    simp only [List.mem_cons, not_or] at h
    unfold cutN
    rw [if_neg (by simp; exact fun e => h.1 e.symm), ih h.2]

/-- What is written is what is read. -/
theorem gets_puts : ∀ {fds : List Fd} {e t t' : Evt} {acc s : List UInt8}, putsN fds e acc t = some (s, t') → fds ≠ [] → (∀ f ∈ fds, f.sane = true) → (∀ f ∈ fds.dropLast, f.tight = true) → ∃ l, s = acc ++ 32 :: l ∧ getsN fds l t = some t' := by
  intro fds
  induction fds with
  | nil => intro e t t' acc s h h0; exact absurd rfl h0
  | cons f fs ih =>
    intro e t t' acc s h _ hs ht
    unfold putsN at h
    split at h
    · rename_i hok
      have hg := get_put (hs f (by simp)) (t := t) hok
      cases fs with
      | nil =>
        simp only [putsN, Option.some.injEq, Prod.mk.injEq] at h
        refine ⟨(f.put e).1.data.toList, by rw [← h.1]; simp, ?_⟩
        simp only [getsN]
        rw [hg, ← h.2]
        simp
      | cons f' fs =>
        obtain ⟨l, hl, hr⟩ := ih h (by simp) (fun g hg' => hs g (List.mem_cons_of_mem _ hg')) (fun g hg' => ht g (by simp only [List.dropLast_cons_cons]; exact List.mem_cons_of_mem _ hg'))
        refine ⟨(f.put e).1.data.toList ++ 32 :: l, by rw [hl]; simp, ?_⟩
        have hb := put_blank (ht f (by simp [List.dropLast_cons_cons])) hok
        simp only [getsN]
        rw [cutN_app hb]
        simp only [if_pos]
        rw [hg]
        simpa using hr
    · cases h
end Go.Proofs.YtnblabfkkcohgaaGreatDoor.Wire
end
section
/- Encode and Decode undo one another, said plainly; how long their texts are. -/
namespace Go.Proofs.YtnblabfkkcohgaaGreatDoor.Wire
set_option linter.unusedVariables false
set_option linter.unusedSimpArgs false
open Go Go.Shelf Go.RowKit

/-- What a row of fields keeps to. -/
def RowOk (fds : List Fd) : Bool := (fds.map Fd.slot).Nodup && (fds.all Fd.sane && fds.dropLast.all Fd.tight)
theorem rows_ok (n : Nat) : RowOk (fdsOf n) = true := by
  unfold fdsOf
  split <;> decide
theorem rows_sane (n : Nat) : ∀ f ∈ fdsOf n, f.sane = true := by
  have h := rows_ok n
  unfold RowOk at h
  simp only [Bool.and_eq_true, List.all_eq_true] at h
  exact h.2.1
theorem rows_tight (n : Nat) : ∀ f ∈ (fdsOf n).dropLast, f.tight = true := by
  have h := rows_ok n
  unfold RowOk at h
  simp only [Bool.and_eq_true, List.all_eq_true] at h
  exact h.2.2
/-- What a kind's word keeps to. -/
def WordOk (k : Int) : Prop := (kwN k).data.toList.head? = some 37 ∧ (32 : UInt8) ∉ (kwN k).data.toList ∧ kindFrom 24 1 (kwN k).data.toList = k ∧ fdsOf k.toNat ≠ [] ∧ (kwN k).toList.isEmpty = false
instance (k : Int) : Decidable (WordOk k) := by unfold WordOk; infer_instance
theorem word_ok {k : Int} (h : Kinds k) : WordOk k := by
  rcases h with rfl | rfl | rfl | rfl | rfl | rfl | rfl | rfl | rfl | rfl | rfl | rfl | rfl | rfl | rfl | rfl | rfl | rfl | rfl | rfl | rfl | rfl | rfl
  all_goals decide +kernel
theorem kinds_of {k : Int} (h : (kwN k).toList.isEmpty = false) : Kinds k := by
  by_cases hk : Kinds k
  · exact hk
  · rw [kw_kinds hk, ByteArray.toList_eq] at h
    cases h
theorem kinds_ne {k : Int} (h : Kinds k) : k ≠ 4 ∧ k ≠ 25 ∧ k ≠ 0 := by
  rcases h with rfl | rfl | rfl | rfl | rfl | rfl | rfl | rfl | rfl | rfl | rfl | rfl | rfl | rfl | rfl | rfl | rfl | rfl | rfl | rfl | rfl | rfl | rfl
  all_goals decide
theorem head_app {a b : List UInt8} {x : UInt8} (h : a.head? = some x) : (a ++ b).head? = some x := by
  cases a with
  | nil => simp at h
  | cons y a => simpa using h
theorem kind_word {k : Int} (h : Kinds k) (r : List UInt8) : kindN ((kwN k).data.toList ++ 32 :: r) = k := by
  obtain ⟨_, h2, h3, _⟩ := word_ok h
  unfold kindN
  rw [cutN_app h2]
  exact h3
/-- An event that has a line is what the line tells. -/
theorem dec_enc {e : Evt} (h : (encN e).2 = 0) : decN (encN e).1 = e := by
  unfold encN at h ⊢
  by_cases h4 : e.kind = 4
  · rw [if_pos h4] at h ⊢
    by_cases hq : e = textEv 4 e.text
    · rw [if_pos hq]
      simp only
      unfold decN
      rw [ofL_data, if_neg (escBody_head _), unescBody_esc]
      simp only [if_pos, ofL_list]
      exact hq.symm
    · rw [if_neg hq] at h
      simp at h
  · rw [if_neg h4] at h ⊢
    by_cases hq : e = bareEv 24
    · rw [if_pos hq]
      subst hq
      decide +kernel
    · rw [if_neg hq] at h ⊢
      by_cases hz : (kwN e.kind).toList.isEmpty = true
      · rw [if_pos hz] at h
        simp at h
      · rw [if_neg hz] at h ⊢
        have hK := kinds_of (by simpa using hz)
        have hW := word_ok hK
        have hN := kinds_ne hK
        cases hp : putsN (fdsOf e.kind.toNat) e (kwN e.kind).data.toList (bareEv e.kind) with
        | none => rw [hp] at h; simp at h
        | some st =>
          obtain ⟨s, t⟩ := st
          rw [hp] at h
          simp only at h ⊢
          by_cases ht : t = e
          · rw [if_pos ht]
            simp only
            obtain ⟨l, hl, hr⟩ := gets_puts hp hW.2.2.2.1 (rows_sane _) (rows_tight _)
            have hk := kind_word hK l
            unfold decN
            rw [ofL_data, hl, hk, if_pos (head_app hW.1), if_neg hN.2.2, if_neg (fun e2 => ?_)]
            · have e3 : ((kwN e.kind).data.toList ++ 32 :: l).drop ((kwN e.kind).size + 1) = l := by
                rw [← dlen, ← List.drop_drop]
                simp
              rw [e3, hr]
              exact ht
            · have := congrArg (fun b : ByteArray => b.data.toList.length) e2
              simp only [ofL_data, List.length_append, List.length_cons] at this
              omega
          · rw [if_neg ht] at h
            simp at h
theorem enc_err {e : Evt} (h : (encN e).2 ≠ 0) : encN e = (⟨#[]⟩, 30) := by
  unfold encN at h ⊢
  split
  · rename_i h4
    rw [if_pos h4] at h
    split
    · rename_i hq; rw [if_pos hq] at h; exact absurd rfl h
    · rfl
  · rename_i h4
    rw [if_neg h4] at h
    split
    · rename_i hq; rw [if_pos hq] at h; exact absurd rfl h
    · rename_i hq
      rw [if_neg hq] at h
      split
      · rfl
      · rename_i hz
        rw [if_neg hz] at h
        cases hp : putsN (fdsOf e.kind.toNat) e (kwN e.kind).data.toList (bareEv e.kind) with
        | none => rfl
        | some st =>
          obtain ⟨s, t⟩ := st
          rw [hp] at h
          simp only at h ⊢
          split
          · rename_i ht; rw [if_pos ht] at h; exact absurd rfl h
          · rfl
/-- The sizes of an event's texts are at most m. -/
structure Sz (m : Nat) (e : Evt) : Prop where
  name : e.name.size ≤ m
  text : e.text.size ≤ m
  layout : e.layout.size ≤ m
  visible : e.visible.size ≤ m
theorem Sz.ev {m : Nat} {e : Evt} (h : Sz m e) (hm : m ≤ 1099511627776) : EvSz e := ⟨by have := h.name; omega, by have := h.text; omega, by have := h.layout; omega, by have := h.visible; omega⟩
theorem text_sz {m : Nat} (k : Int) {t : ByteArray} (h : t.size ≤ m) : Sz m (textEv k t) := ⟨Nat.zero_le _, h, Nat.zero_le _, Nat.zero_le _⟩
theorem put_len {m : Nat} (fd : Fd) {e : Evt} (hs : Sz m e) : (fd.put e).1.data.toList.length ≤ 4 * m + 22 := by
  have h1 := hs.name
  have h2 := hs.text
  have h3 := hs.layout
  have h4 := hs.visible
  rw [dlen]
  cases fd with
  | num p x => simp only [Fd.put, ofL_size]; have := putNum_len (p.get e); omega
  | id x p => simp only [Fd.put, ofL_size]; have := putId_len x (p.get e); omega
  | name b => simp only [Fd.put]; omega
  | text a b => simp only [Fd.put, ofL_size]; have := escL_len e.text.data.toList; rw [dlen] at this; omega
  | plan v => cases v <;> simp only [Fd.put] <;> omega
  | zoom => simp only [Fd.put, ofL_size]; split <;> simp
  | colon => simp only [Fd.put, ofL_size]; simp
theorem puts_len {m : Nat} {e : Evt} (hs : Sz m e) : ∀ {fds : List Fd} {acc s : List UInt8} {t t' : Evt}, putsN fds e acc t = some (s, t') → s.length ≤ acc.length + fds.length * (4 * m + 23) := by
  intro fds
  induction fds with
  | nil => intro acc s t t' h; simp only [putsN, Option.some.injEq, Prod.mk.injEq] at h; rw [← h.1]; simp
  | cons f fs ih =>
    intro acc s t t' h
    unfold putsN at h
    split at h
    · have := ih h
      have := put_len f hs
      simp only [List.length_append, List.length_cons, List.length_nil] at *
      rw [Nat.add_mul]
      omega
    · cases h
theorem escBody_len (l : List UInt8) : (escBodyN l).length ≤ 4 * l.length := by
  unfold escBodyN
  split
  · rename_i h
    cases l with
    | nil => simp at h
    | cons x r =>
      have := escL_len r
      simp
      omega
  · exact escL_len l
theorem enc_len {m : Nat} {e : Evt} (hs : Sz m e) : (encN e).1.size ≤ 28 * m + 300 := by
  by_cases h : (encN e).2 = 0
  · unfold encN at h ⊢
    split
    · rename_i h4
      rw [if_pos h4] at h
      split
      · simp only [ofL_size]
        have := escBody_len e.text.data.toList
        have := hs.text
        rw [dlen] at *
        omega
      · show (0 : Nat) ≤ _
        omega
    · split
      · have := kw_size 24
        simp only
        omega
      · split
        · show (0 : Nat) ≤ _
          omega
        · cases hp : putsN (fdsOf e.kind.toNat) e (kwN e.kind).data.toList (bareEv e.kind) with
          | none => show (0 : Nat) ≤ _; omega
          | some st =>
            obtain ⟨s, t⟩ := st
            simp only
            split
            · have h1 := puts_len hs hp
              have h2 := fds_len e.kind.toNat
              have h3 := kw_size e.kind
              rw [dlen] at h1
              have h5 : (fdsOf e.kind.toNat).length * (4 * m + 23) ≤ 7 * (4 * m + 23) := Nat.mul_le_mul_right _ h2
              simp only [ofL_size]
              omega
            · show (0 : Nat) ≤ _
              omega
  · rw [enc_err h]
    show (0 : Nat) ≤ _
    omega
end Go.Proofs.YtnblabfkkcohgaaGreatDoor.Wire
end
