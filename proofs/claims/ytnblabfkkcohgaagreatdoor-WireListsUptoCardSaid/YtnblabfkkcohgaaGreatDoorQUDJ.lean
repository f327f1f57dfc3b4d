/- Texts of this claim, put together by a program of this session (prune.py): PLwBx3, PLwBx, LawR, LawS. -/
import Derived.Test.YtnblabfkkcohgaaGreatDoorQUDI
import Derived.Test.YtnblabfkkcohgaaGreatDoorQUDG
import Derived.Test.YtnblabfkkcohgaaGreatDoorQUCJ
section
-- Printed by a program of this session (wip/fork) out of the translation. Lean checks it.
namespace Go.Proofs.YtnblabfkkcohgaaGreatDoor.PLwB
open Go.Proofs.YtnblabfkkcohgaaGreatDoor.LawG Go.Proofs.YtnblabfkkcohgaaGreatDoor.CutG Go.Proofs.YtnblabfkkcohgaaGreatDoor.Given Go.Proofs.YtnblabfkkcohgaaGreatDoor.TxtG
open Go.RowKit Go.Proofs.YtnblabfkkcohgaaGreatDoorW.PrintWords Go.Proofs.YtnblabfkkcohgaaGreatDoorW.PrintLast Go.Proofs.YtnblabfkkcohgaaGreatDoorW.PrintMore
attribute [local go_sem] max2_int min2_int max_two min_two max_three min_three max_four min_four   -- for this text's walks alone
open Go.Proofs.YtnblabfkkcohgaaGreatDoor.PWireOne (S28 z28 k28 k28_open k28_mk k28_mkM rd_T28 at_T28)
set_option linter.unusedVariables false
set_option linter.unusedSimpArgs false
attribute [local go_sem high] field28

/-! ### mullionlaw03_WireLists: function 13 -/
mutual
def mullionlaw03_WireLists.j1 : Nat → List (S28) → ByteArray → Bool → Option (Bool)
  | 0, _, _, _ => none
  | k + 1, x0, x3, x48 => if x48 = true then (some false) else (if (x0.length : Int) > 0 then (if 0 ≤ (wrap64 ((x3.size : Int) - 1)) then (if (wrap64 ((x3.size : Int) - 1)) ≤ (x3.size : Int) then ((wire_Events.f k (x3.extract 0 ((wrap64 ((x3.size : Int) - 1)) : Int).toNat)).bind fun bt151 => (if 0 ≤ (wrap64 ((x0.length : Int) - 1)) then (if (wrap64 ((x0.length : Int) - 1)) < (x0.length : Int) then ((given_Encode.f ((rd_T28 x0 (wrap64 ((x0.length : Int) - 1))).f0) ((rd_T28 x0 (wrap64 ((x0.length : Int) - 1))).f1) ((rd_T28 x0 (wrap64 ((x0.length : Int) - 1))).f2) ((rd_T28 x0 (wrap64 ((x0.length : Int) - 1))).f3) ((rd_T28 x0 (wrap64 ((x0.length : Int) - 1))).f4) ((rd_T28 x0 (wrap64 ((x0.length : Int) - 1))).f5) ((rd_T28 x0 (wrap64 ((x0.length : Int) - 1))).f6) ((rd_T28 x0 (wrap64 ((x0.length : Int) - 1))).f7) ((rd_T28 x0 (wrap64 ((x0.length : Int) - 1))).f8) ((rd_T28 x0 (wrap64 ((x0.length : Int) - 1))).f9) ((rd_T28 x0 (wrap64 ((x0.length : Int) - 1))).f10) ((rd_T28 x0 (wrap64 ((x0.length : Int) - 1))).f11) ((rd_T28 x0 (wrap64 ((x0.length : Int) - 1))).f12) ((rd_T28 x0 (wrap64 ((x0.length : Int) - 1))).f13)).bind fun bt156 => (if (wrap64 ((x0.length : Int) - 1)) ≤ (x0.length : Int) then ((mullionlaw03_same.f k (x0.take ((wrap64 ((x0.length : Int) - 1)) : Int).toNat) bt151.1).bind fun t162 => (if t162 = true then (if bt151.2.toList = bt156.1.toList then ((mullionlaw03_sure.f).bind fun t163 => (some t163)) else (some false)) else (some false))) else (none))) else (none)) else (none))) else (none)) else (none)) else ((mullionlaw03_sure.f).bind fun t164 => (some t164)))
def mullionlaw03_WireLists.l0 : Nat → List (S28) → Int → Option (Bool)
  | 0, _, _ => none
  | k + 1, x0, x5 => if x5 < (x0.length : Int) then (if 0 ≤ x5 then ((given_Encode.f ((rd_T28 x0 x5).f0) ((rd_T28 x0 x5).f1) ((rd_T28 x0 x5).f2) ((rd_T28 x0 x5).f3) ((rd_T28 x0 x5).f4) ((rd_T28 x0 x5).f5) ((rd_T28 x0 x5).f6) ((rd_T28 x0 x5).f7) ((rd_T28 x0 x5).f8) ((rd_T28 x0 x5).f9) ((rd_T28 x0 x5).f10) ((rd_T28 x0 x5).f11) ((rd_T28 x0 x5).f12) ((rd_T28 x0 x5).f13)).bind fun bt143 => (if bt143.2 = 0 then (mullionlaw03_WireLists.l0 k x0 (wrap64 (x5 + 1))) else ((mullionlaw03_sure.f).bind fun t145 => (some t145)))) else (none)) else (some false)
end
def mullionlaw03_WireLists.f (k : Nat) (l0 : List (S28)) : Option (Bool) := (given_Text.f l0).bind fun bt140 => (if bt140.2 = 0 then ((wire_Events.f k bt140.1).bind fun bt146 => ((mullionlaw03_same.f k l0 bt146.1).bind fun t150 => (if t150 = true then (mullionlaw03_WireLists.j1 k l0 bt140.1 (bt146.2.toList != ([] : List UInt8))) else (mullionlaw03_WireLists.j1 k l0 bt140.1 true)))) else (mullionlaw03_WireLists.l0 k l0 0))
theorem mullionlaw03_WireLists.mono_l : ∀ k, (∀ y0 y1 y2, LeO (mullionlaw03_WireLists.j1 k y0 y1 y2) (mullionlaw03_WireLists.j1 (k + 1) y0 y1 y2)) ∧ (∀ y0 y1, LeO (mullionlaw03_WireLists.l0 k y0 y1) (mullionlaw03_WireLists.l0 (k + 1) y0 y1))
  | 0 => ⟨fun _ _ _ r h => by simp [mullionlaw03_WireLists.j1] at h, fun _ _ r h => by simp [mullionlaw03_WireLists.l0] at h⟩
  | k + 1 => by
    obtain ⟨ih0, ih1⟩ := mullionlaw03_WireLists.mono_l k
    refine ⟨?_, ?_⟩
    · intro y0 y1 y2
      unfold mullionlaw03_WireLists.j1
      repeat' first
      | (with_reducible exact ih0 _ _ _)
      | (with_reducible exact ih1 _ _)
      | (with_reducible exact mullionlaw03_same.mono _ _ _)
      | (with_reducible exact wire_Events.mono _ _)
      | (with_reducible exact LeO.refl _)
      | (with_reducible exact LeO.none _)
      | (with_reducible refine LeO.ite ?_ ?_)
      | (with_reducible refine LeO.bind ?_ (fun _ => ?_))
      | exact ih0 _ _ _
      | exact ih1 _ _
      | exact mullionlaw03_same.mono _ _ _
      | exact wire_Events.mono _ _
      | exact LeO.none _
      | refine LeO.ite ?_ ?_
      | refine LeO.bind ?_ (fun _ => ?_)
    · intro y0 y1
      unfold mullionlaw03_WireLists.l0
      repeat' first
      | (with_reducible exact ih0 _ _ _)
      | (with_reducible exact ih1 _ _)
      | (with_reducible exact mullionlaw03_same.mono _ _ _)
      | (with_reducible exact wire_Events.mono _ _)
      | (with_reducible exact LeO.refl _)
      | (with_reducible exact LeO.none _)
      | (with_reducible refine LeO.ite ?_ ?_)
      | (with_reducible refine LeO.bind ?_ (fun _ => ?_))
      | exact ih0 _ _ _
      | exact ih1 _ _
      | exact mullionlaw03_same.mono _ _ _
      | exact wire_Events.mono _ _
      | exact LeO.none _
      | refine LeO.ite ?_ ?_
      | refine LeO.bind ?_ (fun _ => ?_)
theorem mullionlaw03_WireLists.mono : ∀ a0 k, LeO (mullionlaw03_WireLists.f k a0) (mullionlaw03_WireLists.f (k + 1) a0) := by
  intro a0 k
  obtain ⟨ih0, ih1⟩ := mullionlaw03_WireLists.mono_l k
  unfold mullionlaw03_WireLists.f
  repeat' first
      | (with_reducible exact ih0 _ _ _)
      | (with_reducible exact ih1 _ _)
      | (with_reducible exact mullionlaw03_same.mono _ _ _)
      | (with_reducible exact wire_Events.mono _ _)
      | (with_reducible exact LeO.refl _)
      | (with_reducible exact LeO.none _)
      | (with_reducible refine LeO.ite ?_ ?_)
      | (with_reducible refine LeO.bind ?_ (fun _ => ?_))
      | exact ih0 _ _ _
      | exact ih1 _ _
      | exact mullionlaw03_same.mono _ _ _
      | exact wire_Events.mono _ _
      | exact LeO.none _
      | refine LeO.ite ?_ ?_
      | refine LeO.bind ?_ (fun _ => ?_)
set_option maxHeartbeats 8000000 in
set_option maxRecDepth 100000 in
theorem mullionlaw03_WireLists.calls (k : Nat) (A0 : Option Addr) (c0 : Nat) (l0 : List (S28)) (r : Bool) (w : World) (hr0 : Kd.C k28 w A0 l0.length l0) (hc0 : l0.length ≤ c0) (hL : LaidW w) (h : mullionlaw03_WireLists.f k l0 = some r) :
    Calls Tryz.prog 13 #[.slice A0 l0.length c0] w fun e w' => e = .returned (.bool r) ∧ Below w.heap.size w w' := by
  have hu28 := Tryz.underlying28
  have HR0 := Aside0.mk hr0
  have HC0 := Aside0.mk hc0
  clear hr0 hc0
  have HB := Aside0.mk (Below.refl w.heap.size w)
  have H : ((given_Text.f l0).bind fun bt140 => (if bt140.2 = 0 then ((wire_Events.f k bt140.1).bind fun bt146 => ((mullionlaw03_same.f k l0 bt146.1).bind fun t150 => (if t150 = true then (mullionlaw03_WireLists.j1 k l0 bt140.1 (bt146.2.toList != ([] : List UInt8))) else (mullionlaw03_WireLists.j1 k l0 bt140.1 true)))) else (mullionlaw03_WireLists.l0 k l0 0))) = some r := h
  clear h
  replace H := Option.bind_eq_some_iff.mp H
  obtain ⟨⟨t140, t141⟩, A20, H⟩ := H
  replace H : (if t141 = 0 then ((wire_Events.f k t140).bind fun bt146 => ((mullionlaw03_same.f k l0 bt146.1).bind fun t150 => (if t150 = true then (mullionlaw03_WireLists.j1 k l0 t140 (bt146.2.toList != ([] : List UInt8))) else (mullionlaw03_WireLists.j1 k l0 t140 true)))) else (mullionlaw03_WireLists.l0 k l0 0)) = some r := H
  have A2 := Aside0.mk A20
  clear A20
  by_cases c3 : t141 = 0
  · rw [if_pos c3] at H
    have c3b0 : (t141 == 0) = true := beq_iff_eq.mpr c3
    have c3b1 : (t141 != 0) = false := bne_eq_false_iff_eq.mpr c3
    clear c3
    replace H := Option.bind_eq_some_iff.mp H
    obtain ⟨⟨t146, t147⟩, A40, H⟩ := H
    replace H : ((mullionlaw03_same.f k l0 t146).bind fun t150 => (if t150 = true then (mullionlaw03_WireLists.j1 k l0 t140 (t147.toList != ([] : List UInt8))) else (mullionlaw03_WireLists.j1 k l0 t140 true))) = some r := H
    have A4 := Aside0.mk A40
    clear A40
    have HC5 := Aside0.mk H
    clear H
    go_enter Tryz.func13, Tryz.ntmps13
    go_upto_region 11 with (first | ((with_reducible refine gate_callee (f := 17) rfl ?_); refine goesL_ (some 14) rfl rfl Tryz.func17 (by kernel_rfl) rfl #[.slice A0 l0.length c0] rfl (by (try simp only [List.map_toArray, List.map_cons, List.map_nil]); first | done | rfl | (simp only [List.length_drop, List.length_take]; rfl)) ?_; (with_reducible refine (given_Text.calls _ _ l0 t140 t141 _ ?side1 ?side2 (LaidW.below hL (by repeat (first | (with_reducible first | exact HB.out | apply below_alloc | apply pw_below_drewN | apply below_drew1) | exact HB.out))) A2.out).mono ?_); (case side1 => repeat (first | exact HR0.out | (with_reducible refine Kd.C_alloc ?_ _) | (with_reducible refine Kd.C_drewN ?_ _) | (with_reducible refine Kd.C_drew ?_))); (case side2 => exact HC0.out); rintro e w6 ⟨rfl, hb⟩; refine ⟨_, rfl, ?_⟩; have n0_ := Aside0.mk (below_step (by repeat (first | (with_reducible first | exact HB.out | apply below_alloc | apply pw_below_drewN | apply below_drew1) | exact HB.out)) hb); clear HB; have HB := n0_; clear n0_; (try clear hb); (try clear hb2); (try clear hk); (try clear hi)) | ((with_reducible refine gate_callee (f := 26) rfl ?_); refine goesL_ (some 38) rfl rfl Tryz.func26 (by kernel_rfl) rfl #[.string t140] rfl (by (try simp only [List.map_toArray, List.map_cons, List.map_nil]); first | done | rfl | (simp only [List.length_drop, List.length_take]; rfl)) ?_; (with_reducible refine (wire_Events.calls k t140 t146 t147 _ (LaidW.below hL (by repeat (first | (with_reducible first | exact HB.out | apply below_alloc | apply pw_below_drewN | apply below_drew1) | exact HB.out))) A4.out).mono ?_); rintro e w7 ⟨v148, rfl, ho0, hb⟩; refine ⟨_, rfl, ?_⟩; have n0_ := Aside0.mk (Kd.R_lower ho0 (below_size (by repeat (first | (with_reducible first | exact HB.out | apply below_alloc | apply pw_below_drewN | apply below_drew1) | exact HB.out)))); have n1_ := Aside0.mk (below_step (by repeat (first | (with_reducible first | exact HB.out | apply below_alloc | apply pw_below_drewN | apply below_drew1) | exact HB.out)) hb); clear HB; have HO149 := n0_; have HB := n1_; clear n0_ n1_; (try clear hb); (try clear hb2); (try clear hk); (try clear hi); (try clear ho0)))
    (try simp only [Act.put, List.setIfInBounds_toArray, List.set_cons_zero, List.set_cons_succ])
    go_cut [48] (fun v48 wc => ∃ (kq : Nat) (x48_4 : Bool), v48 = .bool x48_4 ∧ Aside0 (mullionlaw03_WireLists.j1 kq l0 t140 x48_4 = some r) ∧ Aside0 (kq ≤ k) ∧ Aside0 (Below w.heap.size w wc))
    case first =>
      have H := HC5.out
      clear HC5
      replace H := Option.bind_eq_some_iff.mp H
      obtain ⟨t150, A80, H⟩ := H
      replace H : (if t150 = true then (mullionlaw03_WireLists.j1 k l0 t140 (t147.toList != ([] : List UInt8))) else (mullionlaw03_WireLists.j1 k l0 t140 true)) = some r := H
      have A8 := Aside0.mk A80
      clear A80
      by_cases c9 : t150 = true
      · subst c9
        have H1 : (mullionlaw03_WireLists.j1 k l0 t140 (t147.toList != ([] : List UInt8))) = some r := by rw [if_pos rfl] at H; exact H
        clear H
        have H := H1
        clear H1
        have H' := Aside0.mk H
        clear H
        obtain ⟨Ao10, co10, eo10⟩ := Kd.R_slice HO149.out
        subst eo10
        go_wp2_with (first | ((with_reducible refine gate_callee (f := 18) rfl ?_); refine goesL_ (some 43) rfl rfl Tryz.func18 (by kernel_rfl) rfl #[.slice A0 l0.length c0, .slice Ao10 t146.length co10] rfl (by (try simp only [List.map_toArray, List.map_cons, List.map_nil]); first | done | rfl | (simp only [List.length_drop, List.length_take]; rfl)) ?_; (with_reducible refine (mullionlaw03_same.calls k _ _ l0 _ _ t146 true _ ?side1 ?side2 ?side3 ?side4 A8.out).mono ?_); (case side1 => repeat (first | exact (Kd.C_below HR0.out HB.out) | (with_reducible refine Kd.C_alloc ?_ _) | (with_reducible refine Kd.C_drewN ?_ _) | (with_reducible refine Kd.C_drew ?_))); (case side2 => exact HC0.out); (case side3 => repeat (first | exact (Kd.R_reads' HO149.out).2.2 | (with_reducible refine Kd.C_alloc ?_ _) | (with_reducible refine Kd.C_drewN ?_ _) | (with_reducible refine Kd.C_drew ?_))); (case side4 => exact (Kd.R_reads' HO149.out).2.1); rintro e w' ⟨rfl, ⟨nd, rfl⟩⟩; refine ⟨_, rfl, ?_⟩))
        go_meet
        case rel => exact ⟨_, ((t147.toList != ([] : List UInt8))), (by first | rfl | (simp; done) | (simp [*]; done) | (congr 1; cases t147.toList <;> rfl)), H', ⟨by first | omega | exact Nat.le_refl _⟩, ⟨by repeat (first | (with_reducible first | exact HB.out | apply below_alloc | apply pw_below_drewN | apply below_drew1) | exact HB.out)⟩⟩
      · replace c9 := Bool.eq_false_iff.mpr c9
        subst c9
        have H1 : (mullionlaw03_WireLists.j1 k l0 t140 true) = some r := by rw [if_neg (show ¬ (false = true) by decide)] at H; exact H
        clear H
        have H := H1
        clear H1
        have H' := Aside0.mk H
        clear H
        obtain ⟨Ao11, co11, eo11⟩ := Kd.R_slice HO149.out
        subst eo11
        go_wp2_with (first | ((with_reducible refine gate_callee (f := 18) rfl ?_); refine goesL_ (some 43) rfl rfl Tryz.func18 (by kernel_rfl) rfl #[.slice A0 l0.length c0, .slice Ao11 t146.length co11] rfl (by (try simp only [List.map_toArray, List.map_cons, List.map_nil]); first | done | rfl | (simp only [List.length_drop, List.length_take]; rfl)) ?_; (with_reducible refine (mullionlaw03_same.calls k _ _ l0 _ _ t146 false _ ?side1 ?side2 ?side3 ?side4 A8.out).mono ?_); (case side1 => repeat (first | exact (Kd.C_below HR0.out HB.out) | (with_reducible refine Kd.C_alloc ?_ _) | (with_reducible refine Kd.C_drewN ?_ _) | (with_reducible refine Kd.C_drew ?_))); (case side2 => exact HC0.out); (case side3 => repeat (first | exact (Kd.R_reads' HO149.out).2.2 | (with_reducible refine Kd.C_alloc ?_ _) | (with_reducible refine Kd.C_drewN ?_ _) | (with_reducible refine Kd.C_drew ?_))); (case side4 => exact (Kd.R_reads' HO149.out).2.1); rintro e w' ⟨rfl, ⟨nd, rfl⟩⟩; refine ⟨_, rfl, ?_⟩))
        go_meet
        case rel => exact ⟨_, (true), (by first | rfl | (simp; done) | (simp [*]; done)), H', ⟨by first | omega | exact Nat.le_refl _⟩, ⟨by repeat (first | (with_reducible first | exact HB.out | apply below_alloc | apply pw_below_drewN | apply below_drew1) | exact HB.out)⟩⟩
    case rest =>
      clear HC5
      try clear c1
      try clear c2
      try clear p2
      try clear c3
      try clear c3b0
      try clear c3b1
      try clear c9
      obtain ⟨kq, x48_4, rfl, HA, HJ4, HB⟩ := hcut
      cases kq with
      | zero => exact absurd HA.out (by simp [mullionlaw03_WireLists.j1])
      | succ kj4 =>
        have H := HA.out
        clear HA
        simp only [mullionlaw03_WireLists.j1] at H
        by_cases c12 : x48_4 = true
        · subst c12
          have H1 : (some false) = some r := by rw [if_pos rfl] at H; exact H
          clear H
          have H := H1
          clear H1
          obtain rfl := Option.some.inj H
          go_wp2
          go_ret
          exact ⟨by first | rfl | (simp [errW_none, errW_some] <;> rfl) | (simp [*, errW_none, errW_some] <;> rfl), by repeat (first | (with_reducible first | exact HB.out | apply below_alloc | apply pw_below_drewN | apply below_drew1) | exact HB.out)⟩
        · replace c12 := Bool.eq_false_iff.mpr c12
          subst c12
          have H1 : (if (l0.length : Int) > 0 then (if 0 ≤ (wrap64 ((t140.size : Int) - 1)) then (if (wrap64 ((t140.size : Int) - 1)) ≤ (t140.size : Int) then ((wire_Events.f kj4 (t140.extract 0 ((wrap64 ((t140.size : Int) - 1)) : Int).toNat)).bind fun bt151 => (if 0 ≤ (wrap64 ((l0.length : Int) - 1)) then (if (wrap64 ((l0.length : Int) - 1)) < (l0.length : Int) then ((given_Encode.f ((rd_T28 l0 (wrap64 ((l0.length : Int) - 1))).f0) ((rd_T28 l0 (wrap64 ((l0.length : Int) - 1))).f1) ((rd_T28 l0 (wrap64 ((l0.length : Int) - 1))).f2) ((rd_T28 l0 (wrap64 ((l0.length : Int) - 1))).f3) ((rd_T28 l0 (wrap64 ((l0.length : Int) - 1))).f4) ((rd_T28 l0 (wrap64 ((l0.length : Int) - 1))).f5) ((rd_T28 l0 (wrap64 ((l0.length : Int) - 1))).f6) ((rd_T28 l0 (wrap64 ((l0.length : Int) - 1))).f7) ((rd_T28 l0 (wrap64 ((l0.length : Int) - 1))).f8) ((rd_T28 l0 (wrap64 ((l0.length : Int) - 1))).f9) ((rd_T28 l0 (wrap64 ((l0.length : Int) - 1))).f10) ((rd_T28 l0 (wrap64 ((l0.length : Int) - 1))).f11) ((rd_T28 l0 (wrap64 ((l0.length : Int) - 1))).f12) ((rd_T28 l0 (wrap64 ((l0.length : Int) - 1))).f13)).bind fun bt156 => (if (wrap64 ((l0.length : Int) - 1)) ≤ (l0.length : Int) then ((mullionlaw03_same.f kj4 (l0.take ((wrap64 ((l0.length : Int) - 1)) : Int).toNat) bt151.1).bind fun t162 => (if t162 = true then (if bt151.2.toList = bt156.1.toList then ((mullionlaw03_sure.f).bind fun t163 => (some t163)) else (some false)) else (some false))) else (none))) else (none)) else (none))) else (none)) else (none)) else ((mullionlaw03_sure.f).bind fun t164 => (some t164))) = some r := by rw [if_neg (show ¬ (false = true) by decide)] at H; exact H
          clear H
          have H := H1
          clear H1
          by_cases c13 : (l0.length : Int) > 0
          · rw [if_pos c13] at H
            have c13b0 : decide (0 < (l0.length : Int)) = true := decide_eq_true c13
            have c13b1 : decide (0 < l0.length) = true := decide_eq_true (by omega)
            clear c13
            obtain ⟨ji14, hji14⟩ : ∃ j_ : Int, (wrap64 ((t140.size : Int) - 1)) = j_ := ⟨_, rfl⟩
            replace H : (if 0 ≤ (ji14) then (if (ji14) ≤ (t140.size : Int) then ((wire_Events.f kj4 (t140.extract 0 ((ji14) : Int).toNat)).bind fun bt151 => (if 0 ≤ (wrap64 ((l0.length : Int) - 1)) then (if (wrap64 ((l0.length : Int) - 1)) < (l0.length : Int) then ((given_Encode.f ((rd_T28 l0 (wrap64 ((l0.length : Int) - 1))).f0) ((rd_T28 l0 (wrap64 ((l0.length : Int) - 1))).f1) ((rd_T28 l0 (wrap64 ((l0.length : Int) - 1))).f2) ((rd_T28 l0 (wrap64 ((l0.length : Int) - 1))).f3) ((rd_T28 l0 (wrap64 ((l0.length : Int) - 1))).f4) ((rd_T28 l0 (wrap64 ((l0.length : Int) - 1))).f5) ((rd_T28 l0 (wrap64 ((l0.length : Int) - 1))).f6) ((rd_T28 l0 (wrap64 ((l0.length : Int) - 1))).f7) ((rd_T28 l0 (wrap64 ((l0.length : Int) - 1))).f8) ((rd_T28 l0 (wrap64 ((l0.length : Int) - 1))).f9) ((rd_T28 l0 (wrap64 ((l0.length : Int) - 1))).f10) ((rd_T28 l0 (wrap64 ((l0.length : Int) - 1))).f11) ((rd_T28 l0 (wrap64 ((l0.length : Int) - 1))).f12) ((rd_T28 l0 (wrap64 ((l0.length : Int) - 1))).f13)).bind fun bt156 => (if (wrap64 ((l0.length : Int) - 1)) ≤ (l0.length : Int) then ((mullionlaw03_same.f kj4 (l0.take ((wrap64 ((l0.length : Int) - 1)) : Int).toNat) bt151.1).bind fun t162 => (if t162 = true then (if bt151.2.toList = bt156.1.toList then ((mullionlaw03_sure.f).bind fun t163 => (some t163)) else (some false)) else (some false))) else (none))) else (none)) else (none))) else (none)) else (none)) = some r := by first | (rw [hji14] at H; exact H) | (simp only [hji14] at H ⊢; exact H)
            have hji14w : (IntKind.i64.wrap ((t140.size : Int) - 1)) = ji14 := (i64_w _).trans hji14
            by_cases c15 : 0 ≤ (ji14)
            · rw [if_pos c15] at H
              have c15b0 := eq_true c15
              have c15b1 : decide (0 ≤ (ji14)) = true := decide_eq_true c15
              clear c15
              by_cases c16 : (ji14) ≤ (t140.size : Int)
              · rw [if_pos c16] at H
                have c16b0 := eq_true c16
                have c16b1 : decide ((ji14) ≤ (t140.size : Int)) = true := decide_eq_true c16
                clear c16
                replace H := Option.bind_eq_some_iff.mp H
                obtain ⟨⟨t151, t152⟩, A170, H⟩ := H
                replace H : (if 0 ≤ (wrap64 ((l0.length : Int) - 1)) then (if (wrap64 ((l0.length : Int) - 1)) < (l0.length : Int) then ((given_Encode.f ((rd_T28 l0 (wrap64 ((l0.length : Int) - 1))).f0) ((rd_T28 l0 (wrap64 ((l0.length : Int) - 1))).f1) ((rd_T28 l0 (wrap64 ((l0.length : Int) - 1))).f2) ((rd_T28 l0 (wrap64 ((l0.length : Int) - 1))).f3) ((rd_T28 l0 (wrap64 ((l0.length : Int) - 1))).f4) ((rd_T28 l0 (wrap64 ((l0.length : Int) - 1))).f5) ((rd_T28 l0 (wrap64 ((l0.length : Int) - 1))).f6) ((rd_T28 l0 (wrap64 ((l0.length : Int) - 1))).f7) ((rd_T28 l0 (wrap64 ((l0.length : Int) - 1))).f8) ((rd_T28 l0 (wrap64 ((l0.length : Int) - 1))).f9) ((rd_T28 l0 (wrap64 ((l0.length : Int) - 1))).f10) ((rd_T28 l0 (wrap64 ((l0.length : Int) - 1))).f11) ((rd_T28 l0 (wrap64 ((l0.length : Int) - 1))).f12) ((rd_T28 l0 (wrap64 ((l0.length : Int) - 1))).f13)).bind fun bt156 => (if (wrap64 ((l0.length : Int) - 1)) ≤ (l0.length : Int) then ((mullionlaw03_same.f kj4 (l0.take ((wrap64 ((l0.length : Int) - 1)) : Int).toNat) t151).bind fun t162 => (if t162 = true then (if t152.toList = bt156.1.toList then ((mullionlaw03_sure.f).bind fun t163 => (some t163)) else (some false)) else (some false))) else (none))) else (none)) else (none)) = some r := H
                have A17 := Aside0.mk A170
                clear A170
                obtain ⟨ji18, hji18⟩ : ∃ j_ : Int, (wrap64 ((l0.length : Int) - 1)) = j_ := ⟨_, rfl⟩
                replace H : (if 0 ≤ (ji18) then (if (ji18) < (l0.length : Int) then ((given_Encode.f ((rd_T28 l0 (ji18)).f0) ((rd_T28 l0 (ji18)).f1) ((rd_T28 l0 (ji18)).f2) ((rd_T28 l0 (ji18)).f3) ((rd_T28 l0 (ji18)).f4) ((rd_T28 l0 (ji18)).f5) ((rd_T28 l0 (ji18)).f6) ((rd_T28 l0 (ji18)).f7) ((rd_T28 l0 (ji18)).f8) ((rd_T28 l0 (ji18)).f9) ((rd_T28 l0 (ji18)).f10) ((rd_T28 l0 (ji18)).f11) ((rd_T28 l0 (ji18)).f12) ((rd_T28 l0 (ji18)).f13)).bind fun bt156 => (if (ji18) ≤ (l0.length : Int) then ((mullionlaw03_same.f kj4 (l0.take ((ji18) : Int).toNat) t151).bind fun t162 => (if t162 = true then (if t152.toList = bt156.1.toList then ((mullionlaw03_sure.f).bind fun t163 => (some t163)) else (some false)) else (some false))) else (none))) else (none)) else (none)) = some r := by first | (rw [hji18] at H; exact H) | (simp only [hji18] at H ⊢; exact H)
                (try rw [hji18] at A17)
                have hji18w : (IntKind.i64.wrap ((l0.length : Int) - 1)) = ji18 := (i64_w _).trans hji18
                by_cases c19 : 0 ≤ (ji18)
                · rw [if_pos c19] at H
                  have c19b0 : decide (0 ≤ (ji18)) = true := decide_eq_true c19
                  clear c19
                  by_cases c20 : (ji18) < (l0.length : Int)
                  · rw [if_pos c20] at H
                    have c20b0 : decide ((ji18) < (l0.length : Int)) = true := decide_eq_true c20
                    clear c20
                    replace H := Option.bind_eq_some_iff.mp H
                    obtain ⟨⟨t156, t157⟩, A210, H⟩ := H
                    replace H : (if (ji18) ≤ (l0.length : Int) then ((mullionlaw03_same.f kj4 (l0.take ((ji18) : Int).toNat) t151).bind fun t162 => (if t162 = true then (if t152.toList = t156.toList then ((mullionlaw03_sure.f).bind fun t163 => (some t163)) else (some false)) else (some false))) else (none)) = some r := H
                    have A21 := Aside0.mk A210
                    clear A210
                    have c22b0 := eq_true (of_decide_eq_true (by first | (with_reducible assumption) | assumption) : 0 ≤ (ji18))
                    by_cases c23 : (ji18) ≤ (l0.length : Int)
                    · rw [if_pos c23] at H
                      have c23b0 := eq_true c23
                      have c23b1 : decide ((ji18) ≤ (l0.length : Int)) = true := decide_eq_true c23
                      clear c23
                      obtain ⟨y158, hy158⟩ : ∃ y_ : List (S28), y_ = (l0.take ((ji18) : Int).toNat) := ⟨_, rfl⟩
                      replace H : ((mullionlaw03_same.f kj4 y158 t151).bind fun t162 => (if t162 = true then (if t152.toList = t156.toList then ((mullionlaw03_sure.f).bind fun t163 => (some t163)) else (some false)) else (some false))) = some r := by first | (rw [hy158]; with_reducible exact H) | (have H2_ := (Option.bind_some _ _).symm.trans H; rw [hy158]; with_reducible exact H2_) | (have H2_ := (Option.bind_some _ _).symm.trans H; with_reducible exact H2_) | with_reducible exact H | (rw [hy158]; exact H) | exact H
                      have Ny158 := Aside0.mk hy158
                      clear hy158
                      replace H := Option.bind_eq_some_iff.mp H
                      obtain ⟨t162, A240, H⟩ := H
                      replace H : (if t162 = true then (if t152.toList = t156.toList then ((mullionlaw03_sure.f).bind fun t163 => (some t163)) else (some false)) else (some false)) = some r := H
                      have A24 := Aside0.mk A240
                      clear A240
                      by_cases c25 : t162 = true
                      · subst c25
                        have H1 : (if t152.toList = t156.toList then ((mullionlaw03_sure.f).bind fun t163 => (some t163)) else (some false)) = some r := by rw [if_pos rfl] at H; exact H
                        clear H
                        have H := H1
                        clear H1
                        by_cases c26 : t152.toList = t156.toList
                        · rw [if_pos c26] at H
                          have c26b0 : (t152.toList == t156.toList) = true := beq_iff_eq.mpr c26
                          have c26b1 : (t152.toList != t156.toList) = false := bne_eq_false_iff_eq.mpr c26
                          clear c26
                          replace H := Option.bind_eq_some_iff.mp H
                          obtain ⟨t163, A270, H⟩ := H
                          replace H : (some t163) = some r := H
                          have A27 := Aside0.mk A270
                          clear A270
                          obtain rfl := Option.some.inj H
                          go_wp2_with (first | ((with_reducible refine gate_callee (f := 26) rfl ?_); refine goesL_ (some 58) rfl rfl Tryz.func26 (by kernel_rfl) rfl #[.string (t140.extract 0 ((ji14) : Int).toNat)] rfl (by (try simp only [List.map_toArray, List.map_cons, List.map_nil]); first | done | (simp only [hji14]; rfl) | rfl | (simp only [List.length_drop, List.length_take]; rfl)) ?_; (with_reducible refine (wire_Events.calls kj4 (t140.extract 0 ((ji14) : Int).toNat) t151 t152 _ (LaidW.below hL (by repeat (first | (with_reducible first | exact HB.out | apply below_alloc | apply pw_below_drewN | apply below_drew1) | exact HB.out))) A17.out).mono ?_); rintro e w28 ⟨v153, rfl, ho0, hb⟩; refine ⟨_, rfl, ?_⟩; have n0_ := Aside0.mk (Kd.R_lower ho0 (below_size (by repeat (first | (with_reducible first | exact HB.out | apply below_alloc | apply pw_below_drewN | apply below_drew1) | exact HB.out)))); have n1_ := Aside0.mk (below_step (by repeat (first | (with_reducible first | exact HB.out | apply below_alloc | apply pw_below_drewN | apply below_drew1) | exact HB.out)) hb); clear HB; have HO154 := n0_; have HB := n1_; clear n0_ n1_; (try clear hb); (try clear hb2); (try clear hk); (try clear hi); (try clear ho0); have p155 : 0 ≤ ((ji18) : Int) := of_decide_eq_true (by first | (with_reducible assumption) | assumption); have q155 : (ji18) < (l0.length : Int) := of_decide_eq_true (by first | (with_reducible assumption) | assumption); obtain ⟨ad155, e155, hx155_0, hx155_1, hx155_2, hx155_3, hx155_4, hx155_5, hx155_6, hx155_7, hx155_8, hx155_9, hx155_10, hx155_11, hx155_12, hx155_13⟩ := at_T28 HR0.out (ji18) p155 q155; cases e155; replace hx155_0 := (HB.out.cell (World.block_lt_of_cell? w _ hx155_0)).trans hx155_0; replace hx155_1 := (HB.out.cell (World.block_lt_of_cell? w _ hx155_1)).trans hx155_1; replace hx155_2 := (HB.out.cell (World.block_lt_of_cell? w _ hx155_2)).trans hx155_2; replace hx155_3 := (HB.out.cell (World.block_lt_of_cell? w _ hx155_3)).trans hx155_3; replace hx155_4 := (HB.out.cell (World.block_lt_of_cell? w _ hx155_4)).trans hx155_4; replace hx155_5 := (HB.out.cell (World.block_lt_of_cell? w _ hx155_5)).trans hx155_5; replace hx155_6 := (HB.out.cell (World.block_lt_of_cell? w _ hx155_6)).trans hx155_6; replace hx155_7 := (HB.out.cell (World.block_lt_of_cell? w _ hx155_7)).trans hx155_7; replace hx155_8 := (HB.out.cell (World.block_lt_of_cell? w _ hx155_8)).trans hx155_8; replace hx155_9 := (HB.out.cell (World.block_lt_of_cell? w _ hx155_9)).trans hx155_9; replace hx155_10 := (HB.out.cell (World.block_lt_of_cell? w _ hx155_10)).trans hx155_10; replace hx155_11 := (HB.out.cell (World.block_lt_of_cell? w _ hx155_11)).trans hx155_11; replace hx155_12 := (HB.out.cell (World.block_lt_of_cell? w _ hx155_12)).trans hx155_12; replace hx155_13 := (HB.out.cell (World.block_lt_of_cell? w _ hx155_13)).trans hx155_13; replace p155 := eq_true p155; replace q155 := eq_true q155) | ((with_reducible refine gate_callee (f := 21) rfl ?_); refine goesL_ (some 68) rfl rfl Tryz.func21 (by kernel_rfl) rfl #[.agg #[.int .i64 ((rd_T28 l0 (ji18)).f0), .int .i64 ((rd_T28 l0 (ji18)).f1), .int .i64 ((rd_T28 l0 (ji18)).f2), .int .i64 ((rd_T28 l0 (ji18)).f3), .int .i64 ((rd_T28 l0 (ji18)).f4), .int .i64 ((rd_T28 l0 (ji18)).f5), .int .i64 ((rd_T28 l0 (ji18)).f6), .int .i64 ((rd_T28 l0 (ji18)).f7), .int .i64 ((rd_T28 l0 (ji18)).f8), .string ((rd_T28 l0 (ji18)).f9), .string ((rd_T28 l0 (ji18)).f10), .string ((rd_T28 l0 (ji18)).f11), .string ((rd_T28 l0 (ji18)).f12), .bool ((rd_T28 l0 (ji18)).f13)]] rfl (by (try simp only [List.map_toArray, List.map_cons, List.map_nil]); first | done | (simp only [hji18]; rfl) | rfl | (simp only [List.length_drop, List.length_take]; rfl)) ?_; (with_reducible refine (given_Encode.calls ((rd_T28 l0 (ji18)).f0) ((rd_T28 l0 (ji18)).f1) ((rd_T28 l0 (ji18)).f2) ((rd_T28 l0 (ji18)).f3) ((rd_T28 l0 (ji18)).f4) ((rd_T28 l0 (ji18)).f5) ((rd_T28 l0 (ji18)).f6) ((rd_T28 l0 (ji18)).f7) ((rd_T28 l0 (ji18)).f8) ((rd_T28 l0 (ji18)).f9) ((rd_T28 l0 (ji18)).f10) ((rd_T28 l0 (ji18)).f11) ((rd_T28 l0 (ji18)).f12) ((rd_T28 l0 (ji18)).f13) t156 t157 _ (LaidW.below hL (by repeat (first | (with_reducible first | exact HB.out | apply below_alloc | apply pw_below_drewN | apply below_drew1) | exact HB.out))) A21.out).mono ?_); rintro e w29 ⟨rfl, hb⟩; refine ⟨_, rfl, ?_⟩; have n0_ := Aside0.mk (Kd.R_below (by (with_reducible repeat (first | apply Kd.R_alloc | apply Kd.R_drewN | apply Kd.R_drew)); exact HO154.out) hb); have n1_ := Aside0.mk (below_step (by repeat (first | (with_reducible first | exact HB.out | apply below_alloc | apply pw_below_drewN | apply below_drew1) | exact HB.out)) hb); clear HO154; clear HB; have HO154 := n0_; have HB := n1_; clear n0_ n1_; (try clear hb); (try clear hb2); (try clear hk); (try clear hi); have q30 : ((ji18) : Int) ≤ ((l0.length : Int) : Int) := of_decide_eq_true (by first | (with_reducible assumption) | assumption); obtain ⟨i030, hi030, _, hsz30, _⟩ := info_parts info28; have hroom30 : l0.length ≤ c0 := HC0.out; have hC30 : Kd.C k28 _ (some ad155) l0.length l0 := HR0.out; have hcut30 := cut_to (P := Tryz.prog) 22 28 .i64 Tryz.underlying22 hi030 (some ad155) l0.length c0 (ji18) (of_decide_eq_true (by first | (with_reducible assumption) | assumption)) q30 hroom30; have hr30 := Kd.C_take (m := ((ji18) : Int).toNat) hC30 (by omega); have hy30 : y158.length = ((ji18) : Int).toNat := (by rw [Ny158.out, List.length_take]; omega); rw [← Ny158.out] at hr30; rw [← hy30] at hcut30; have HR161 := Aside0.mk hr30; have HC161 := Aside0.mk (show y158.length ≤ c0 from by omega); clear hr30 hC30 hroom30 hi030 hsz30; have KY30 := Aside0.mk hy30; clear hy30; replace q30 := eq_true q30; obtain ⟨Ao31, co31, eo31⟩ := Kd.R_slice HO154.out; subst eo31) | ((with_reducible refine gate_callee (f := 18) rfl ?_); refine goesL_ (some 77) rfl rfl Tryz.func18 (by kernel_rfl) rfl #[.slice (some ad155) y158.length c0, .slice Ao31 t151.length co31] rfl (by (try simp only [List.map_toArray, List.map_cons, List.map_nil]); first | done | rfl | (simp only [List.length_drop, List.length_take]; rfl)) ?_; (with_reducible refine (mullionlaw03_same.calls kj4 _ _ y158 _ _ t151 true _ ?side1 ?side2 ?side3 ?side4 A24.out).mono ?_); (case side1 => repeat (first | exact (Kd.C_below HR161.out HB.out) | (with_reducible refine Kd.C_alloc ?_ _) | (with_reducible refine Kd.C_drewN ?_ _) | (with_reducible refine Kd.C_drew ?_))); (case side2 => exact HC161.out); (case side3 => repeat (first | exact (Kd.R_reads' HO154.out).2.2 | (with_reducible refine Kd.C_alloc ?_ _) | (with_reducible refine Kd.C_drewN ?_ _) | (with_reducible refine Kd.C_drew ?_))); (case side4 => exact (Kd.R_reads' HO154.out).2.1); rintro e w' ⟨rfl, ⟨nd, rfl⟩⟩; refine ⟨_, rfl, ?_⟩) | ((with_reducible refine gate_callee (f := 23) rfl ?_); refine goesL_ (some 84) rfl rfl Tryz.func23 (by kernel_rfl) rfl #[] rfl (by (try simp only [List.map_toArray, List.map_cons, List.map_nil]); first | done | rfl | (simp only [List.length_drop, List.length_take]; rfl)) ?_; (with_reducible refine (mullionlaw03_sure.calls  t163 _ (LaidW.below hL (by repeat (first | (with_reducible first | exact HB.out | apply below_alloc | apply pw_below_drewN | apply below_drew1) | exact HB.out))) A27.out).mono ?_); rintro e w32 ⟨rfl, hb⟩; refine ⟨_, rfl, ?_⟩; have n0_ := Aside0.mk (Kd.R_below (by (with_reducible repeat (first | apply Kd.R_alloc | apply Kd.R_drewN | apply Kd.R_drew)); exact HO154.out) hb); have n1_ := Aside0.mk (below_step (by repeat (first | (with_reducible first | exact HB.out | apply below_alloc | apply pw_below_drewN | apply below_drew1) | exact HB.out)) hb); clear HO154; clear HB; have HO154 := n0_; have HB := n1_; clear n0_ n1_; (try clear hb); (try clear hb2); (try clear hk); (try clear hi)))
                          go_ret
                          exact ⟨by first | rfl | (simp [errW_none, errW_some] <;> rfl) | (simp only [← hji14, ← hji18]; first | rfl | (simp [errW_none, errW_some] <;> rfl)) | (simp [*, errW_none, errW_some] <;> rfl), by repeat (first | (with_reducible first | exact HB.out | apply below_alloc | apply pw_below_drewN | apply below_drew1) | exact HB.out)⟩
                        · rw [if_neg c26] at H
                          have c26b0 : (t152.toList == t156.toList) = false := beq_eq_false_iff_ne.mpr c26
                          have c26b1 : (t152.toList != t156.toList) = true := bne_iff_ne.mpr c26
                          obtain rfl := Option.some.inj H
                          go_wp2_with (first | ((with_reducible refine gate_callee (f := 26) rfl ?_); refine goesL_ (some 58) rfl rfl Tryz.func26 (by kernel_rfl) rfl #[.string (t140.extract 0 ((ji14) : Int).toNat)] rfl (by (try simp only [List.map_toArray, List.map_cons, List.map_nil]); first | done | (simp only [hji14]; rfl) | rfl | (simp only [List.length_drop, List.length_take]; rfl)) ?_; (with_reducible refine (wire_Events.calls kj4 (t140.extract 0 ((ji14) : Int).toNat) t151 t152 _ (LaidW.below hL (by repeat (first | (with_reducible first | exact HB.out | apply below_alloc | apply pw_below_drewN | apply below_drew1) | exact HB.out))) A17.out).mono ?_); rintro e w33 ⟨v153, rfl, ho0, hb⟩; refine ⟨_, rfl, ?_⟩; have n0_ := Aside0.mk (Kd.R_lower ho0 (below_size (by repeat (first | (with_reducible first | exact HB.out | apply below_alloc | apply pw_below_drewN | apply below_drew1) | exact HB.out)))); have n1_ := Aside0.mk (below_step (by repeat (first | (with_reducible first | exact HB.out | apply below_alloc | apply pw_below_drewN | apply below_drew1) | exact HB.out)) hb); clear HB; have HO154 := n0_; have HB := n1_; clear n0_ n1_; (try clear hb); (try clear hb2); (try clear hk); (try clear hi); (try clear ho0); have p155 : 0 ≤ ((ji18) : Int) := of_decide_eq_true (by first | (with_reducible assumption) | assumption); have q155 : (ji18) < (l0.length : Int) := of_decide_eq_true (by first | (with_reducible assumption) | assumption); obtain ⟨ad155, e155, hx155_0, hx155_1, hx155_2, hx155_3, hx155_4, hx155_5, hx155_6, hx155_7, hx155_8, hx155_9, hx155_10, hx155_11, hx155_12, hx155_13⟩ := at_T28 HR0.out (ji18) p155 q155; cases e155; replace hx155_0 := (HB.out.cell (World.block_lt_of_cell? w _ hx155_0)).trans hx155_0; replace hx155_1 := (HB.out.cell (World.block_lt_of_cell? w _ hx155_1)).trans hx155_1; replace hx155_2 := (HB.out.cell (World.block_lt_of_cell? w _ hx155_2)).trans hx155_2; replace hx155_3 := (HB.out.cell (World.block_lt_of_cell? w _ hx155_3)).trans hx155_3; replace hx155_4 := (HB.out.cell (World.block_lt_of_cell? w _ hx155_4)).trans hx155_4; replace hx155_5 := (HB.out.cell (World.block_lt_of_cell? w _ hx155_5)).trans hx155_5; replace hx155_6 := (HB.out.cell (World.block_lt_of_cell? w _ hx155_6)).trans hx155_6; replace hx155_7 := (HB.out.cell (World.block_lt_of_cell? w _ hx155_7)).trans hx155_7; replace hx155_8 := (HB.out.cell (World.block_lt_of_cell? w _ hx155_8)).trans hx155_8; replace hx155_9 := (HB.out.cell (World.block_lt_of_cell? w _ hx155_9)).trans hx155_9; replace hx155_10 := (HB.out.cell (World.block_lt_of_cell? w _ hx155_10)).trans hx155_10; replace hx155_11 := (HB.out.cell (World.block_lt_of_cell? w _ hx155_11)).trans hx155_11; replace hx155_12 := (HB.out.cell (World.block_lt_of_cell? w _ hx155_12)).trans hx155_12; replace hx155_13 := (HB.out.cell (World.block_lt_of_cell? w _ hx155_13)).trans hx155_13; replace p155 := eq_true p155; replace q155 := eq_true q155) | ((with_reducible refine gate_callee (f := 21) rfl ?_); refine goesL_ (some 68) rfl rfl Tryz.func21 (by kernel_rfl) rfl #[.agg #[.int .i64 ((rd_T28 l0 (ji18)).f0), .int .i64 ((rd_T28 l0 (ji18)).f1), .int .i64 ((rd_T28 l0 (ji18)).f2), .int .i64 ((rd_T28 l0 (ji18)).f3), .int .i64 ((rd_T28 l0 (ji18)).f4), .int .i64 ((rd_T28 l0 (ji18)).f5), .int .i64 ((rd_T28 l0 (ji18)).f6), .int .i64 ((rd_T28 l0 (ji18)).f7), .int .i64 ((rd_T28 l0 (ji18)).f8), .string ((rd_T28 l0 (ji18)).f9), .string ((rd_T28 l0 (ji18)).f10), .string ((rd_T28 l0 (ji18)).f11), .string ((rd_T28 l0 (ji18)).f12), .bool ((rd_T28 l0 (ji18)).f13)]] rfl (by (try simp only [List.map_toArray, List.map_cons, List.map_nil]); first | done | (simp only [hji18]; rfl) | rfl | (simp only [List.length_drop, List.length_take]; rfl)) ?_; (with_reducible refine (given_Encode.calls ((rd_T28 l0 (ji18)).f0) ((rd_T28 l0 (ji18)).f1) ((rd_T28 l0 (ji18)).f2) ((rd_T28 l0 (ji18)).f3) ((rd_T28 l0 (ji18)).f4) ((rd_T28 l0 (ji18)).f5) ((rd_T28 l0 (ji18)).f6) ((rd_T28 l0 (ji18)).f7) ((rd_T28 l0 (ji18)).f8) ((rd_T28 l0 (ji18)).f9) ((rd_T28 l0 (ji18)).f10) ((rd_T28 l0 (ji18)).f11) ((rd_T28 l0 (ji18)).f12) ((rd_T28 l0 (ji18)).f13) t156 t157 _ (LaidW.below hL (by repeat (first | (with_reducible first | exact HB.out | apply below_alloc | apply pw_below_drewN | apply below_drew1) | exact HB.out))) A21.out).mono ?_); rintro e w34 ⟨rfl, hb⟩; refine ⟨_, rfl, ?_⟩; have n0_ := Aside0.mk (Kd.R_below (by (with_reducible repeat (first | apply Kd.R_alloc | apply Kd.R_drewN | apply Kd.R_drew)); exact HO154.out) hb); have n1_ := Aside0.mk (below_step (by repeat (first | (with_reducible first | exact HB.out | apply below_alloc | apply pw_below_drewN | apply below_drew1) | exact HB.out)) hb); clear HO154; clear HB; have HO154 := n0_; have HB := n1_; clear n0_ n1_; (try clear hb); (try clear hb2); (try clear hk); (try clear hi); have q35 : ((ji18) : Int) ≤ ((l0.length : Int) : Int) := of_decide_eq_true (by first | (with_reducible assumption) | assumption); obtain ⟨i035, hi035, _, hsz35, _⟩ := info_parts info28; have hroom35 : l0.length ≤ c0 := HC0.out; have hC35 : Kd.C k28 _ (some ad155) l0.length l0 := HR0.out; have hcut35 := cut_to (P := Tryz.prog) 22 28 .i64 Tryz.underlying22 hi035 (some ad155) l0.length c0 (ji18) (of_decide_eq_true (by first | (with_reducible assumption) | assumption)) q35 hroom35; have hr35 := Kd.C_take (m := ((ji18) : Int).toNat) hC35 (by omega); have hy35 : y158.length = ((ji18) : Int).toNat := (by rw [Ny158.out, List.length_take]; omega); rw [← Ny158.out] at hr35; rw [← hy35] at hcut35; have HR161 := Aside0.mk hr35; have HC161 := Aside0.mk (show y158.length ≤ c0 from by omega); clear hr35 hC35 hroom35 hi035 hsz35; have KY35 := Aside0.mk hy35; clear hy35; replace q35 := eq_true q35; obtain ⟨Ao36, co36, eo36⟩ := Kd.R_slice HO154.out; subst eo36) | ((with_reducible refine gate_callee (f := 18) rfl ?_); refine goesL_ (some 77) rfl rfl Tryz.func18 (by kernel_rfl) rfl #[.slice (some ad155) y158.length c0, .slice Ao36 t151.length co36] rfl (by (try simp only [List.map_toArray, List.map_cons, List.map_nil]); first | done | rfl | (simp only [List.length_drop, List.length_take]; rfl)) ?_; (with_reducible refine (mullionlaw03_same.calls kj4 _ _ y158 _ _ t151 true _ ?side1 ?side2 ?side3 ?side4 A24.out).mono ?_); (case side1 => repeat (first | exact (Kd.C_below HR161.out HB.out) | (with_reducible refine Kd.C_alloc ?_ _) | (with_reducible refine Kd.C_drewN ?_ _) | (with_reducible refine Kd.C_drew ?_))); (case side2 => exact HC161.out); (case side3 => repeat (first | exact (Kd.R_reads' HO154.out).2.2 | (with_reducible refine Kd.C_alloc ?_ _) | (with_reducible refine Kd.C_drewN ?_ _) | (with_reducible refine Kd.C_drew ?_))); (case side4 => exact (Kd.R_reads' HO154.out).2.1); rintro e w' ⟨rfl, ⟨nd, rfl⟩⟩; refine ⟨_, rfl, ?_⟩))
                          go_ret
                          exact ⟨by first | rfl | (simp [errW_none, errW_some] <;> rfl) | (simp only [← hji14, ← hji18]; first | rfl | (simp [errW_none, errW_some] <;> rfl)) | (simp [*, errW_none, errW_some] <;> rfl), by repeat (first | (with_reducible first | exact HB.out | apply below_alloc | apply pw_below_drewN | apply below_drew1) | exact HB.out)⟩
                      · replace c25 := Bool.eq_false_iff.mpr c25
                        subst c25
                        have H1 : (some false) = some r := by rw [if_neg (show ¬ (false = true) by decide)] at H; exact H
                        clear H
                        have H := H1
                        clear H1
                        obtain rfl := Option.some.inj H
                        go_wp2_with (first | ((with_reducible refine gate_callee (f := 26) rfl ?_); refine goesL_ (some 58) rfl rfl Tryz.func26 (by kernel_rfl) rfl #[.string (t140.extract 0 ((ji14) : Int).toNat)] rfl (by (try simp only [List.map_toArray, List.map_cons, List.map_nil]); first | done | (simp only [hji14]; rfl) | rfl | (simp only [List.length_drop, List.length_take]; rfl)) ?_; (with_reducible refine (wire_Events.calls kj4 (t140.extract 0 ((ji14) : Int).toNat) t151 t152 _ (LaidW.below hL (by repeat (first | (with_reducible first | exact HB.out | apply below_alloc | apply pw_below_drewN | apply below_drew1) | exact HB.out))) A17.out).mono ?_); rintro e w37 ⟨v153, rfl, ho0, hb⟩; refine ⟨_, rfl, ?_⟩; have n0_ := Aside0.mk (Kd.R_lower ho0 (below_size (by repeat (first | (with_reducible first | exact HB.out | apply below_alloc | apply pw_below_drewN | apply below_drew1) | exact HB.out)))); have n1_ := Aside0.mk (below_step (by repeat (first | (with_reducible first | exact HB.out | apply below_alloc | apply pw_below_drewN | apply below_drew1) | exact HB.out)) hb); clear HB; have HO154 := n0_; have HB := n1_; clear n0_ n1_; (try clear hb); (try clear hb2); (try clear hk); (try clear hi); (try clear ho0); have p155 : 0 ≤ ((ji18) : Int) := of_decide_eq_true (by first | (with_reducible assumption) | assumption); have q155 : (ji18) < (l0.length : Int) := of_decide_eq_true (by first | (with_reducible assumption) | assumption); obtain ⟨ad155, e155, hx155_0, hx155_1, hx155_2, hx155_3, hx155_4, hx155_5, hx155_6, hx155_7, hx155_8, hx155_9, hx155_10, hx155_11, hx155_12, hx155_13⟩ := at_T28 HR0.out (ji18) p155 q155; cases e155; replace hx155_0 := (HB.out.cell (World.block_lt_of_cell? w _ hx155_0)).trans hx155_0; replace hx155_1 := (HB.out.cell (World.block_lt_of_cell? w _ hx155_1)).trans hx155_1; replace hx155_2 := (HB.out.cell (World.block_lt_of_cell? w _ hx155_2)).trans hx155_2; replace hx155_3 := (HB.out.cell (World.block_lt_of_cell? w _ hx155_3)).trans hx155_3; replace hx155_4 := (HB.out.cell (World.block_lt_of_cell? w _ hx155_4)).trans hx155_4; replace hx155_5 := (HB.out.cell (World.block_lt_of_cell? w _ hx155_5)).trans hx155_5; replace hx155_6 := (HB.out.cell (World.block_lt_of_cell? w _ hx155_6)).trans hx155_6; replace hx155_7 := (HB.out.cell (World.block_lt_of_cell? w _ hx155_7)).trans hx155_7; replace hx155_8 := (HB.out.cell (World.block_lt_of_cell? w _ hx155_8)).trans hx155_8; replace hx155_9 := (HB.out.cell (World.block_lt_of_cell? w _ hx155_9)).trans hx155_9; replace hx155_10 := (HB.out.cell (World.block_lt_of_cell? w _ hx155_10)).trans hx155_10; replace hx155_11 := (HB.out.cell (World.block_lt_of_cell? w _ hx155_11)).trans hx155_11; replace hx155_12 := (HB.out.cell (World.block_lt_of_cell? w _ hx155_12)).trans hx155_12; replace hx155_13 := (HB.out.cell (World.block_lt_of_cell? w _ hx155_13)).trans hx155_13; replace p155 := eq_true p155; replace q155 := eq_true q155) | ((with_reducible refine gate_callee (f := 21) rfl ?_); refine goesL_ (some 68) rfl rfl Tryz.func21 (by kernel_rfl) rfl #[.agg #[.int .i64 ((rd_T28 l0 (ji18)).f0), .int .i64 ((rd_T28 l0 (ji18)).f1), .int .i64 ((rd_T28 l0 (ji18)).f2), .int .i64 ((rd_T28 l0 (ji18)).f3), .int .i64 ((rd_T28 l0 (ji18)).f4), .int .i64 ((rd_T28 l0 (ji18)).f5), .int .i64 ((rd_T28 l0 (ji18)).f6), .int .i64 ((rd_T28 l0 (ji18)).f7), .int .i64 ((rd_T28 l0 (ji18)).f8), .string ((rd_T28 l0 (ji18)).f9), .string ((rd_T28 l0 (ji18)).f10), .string ((rd_T28 l0 (ji18)).f11), .string ((rd_T28 l0 (ji18)).f12), .bool ((rd_T28 l0 (ji18)).f13)]] rfl (by (try simp only [List.map_toArray, List.map_cons, List.map_nil]); first | done | (simp only [hji18]; rfl) | rfl | (simp only [List.length_drop, List.length_take]; rfl)) ?_; (with_reducible refine (given_Encode.calls ((rd_T28 l0 (ji18)).f0) ((rd_T28 l0 (ji18)).f1) ((rd_T28 l0 (ji18)).f2) ((rd_T28 l0 (ji18)).f3) ((rd_T28 l0 (ji18)).f4) ((rd_T28 l0 (ji18)).f5) ((rd_T28 l0 (ji18)).f6) ((rd_T28 l0 (ji18)).f7) ((rd_T28 l0 (ji18)).f8) ((rd_T28 l0 (ji18)).f9) ((rd_T28 l0 (ji18)).f10) ((rd_T28 l0 (ji18)).f11) ((rd_T28 l0 (ji18)).f12) ((rd_T28 l0 (ji18)).f13) t156 t157 _ (LaidW.below hL (by repeat (first | (with_reducible first | exact HB.out | apply below_alloc | apply pw_below_drewN | apply below_drew1) | exact HB.out))) A21.out).mono ?_); rintro e w38 ⟨rfl, hb⟩; refine ⟨_, rfl, ?_⟩; have n0_ := Aside0.mk (Kd.R_below (by (with_reducible repeat (first | apply Kd.R_alloc | apply Kd.R_drewN | apply Kd.R_drew)); exact HO154.out) hb); have n1_ := Aside0.mk (below_step (by repeat (first | (with_reducible first | exact HB.out | apply below_alloc | apply pw_below_drewN | apply below_drew1) | exact HB.out)) hb); clear HO154; clear HB; have HO154 := n0_; have HB := n1_; clear n0_ n1_; (try clear hb); (try clear hb2); (try clear hk); (try clear hi); have q39 : ((ji18) : Int) ≤ ((l0.length : Int) : Int) := of_decide_eq_true (by first | (with_reducible assumption) | assumption); obtain ⟨i039, hi039, _, hsz39, _⟩ := info_parts info28; have hroom39 : l0.length ≤ c0 := HC0.out; have hC39 : Kd.C k28 _ (some ad155) l0.length l0 := HR0.out; have hcut39 := cut_to (P := Tryz.prog) 22 28 .i64 Tryz.underlying22 hi039 (some ad155) l0.length c0 (ji18) (of_decide_eq_true (by first | (with_reducible assumption) | assumption)) q39 hroom39; have hr39 := Kd.C_take (m := ((ji18) : Int).toNat) hC39 (by omega); have hy39 : y158.length = ((ji18) : Int).toNat := (by rw [Ny158.out, List.length_take]; omega); rw [← Ny158.out] at hr39; rw [← hy39] at hcut39; have HR161 := Aside0.mk hr39; have HC161 := Aside0.mk (show y158.length ≤ c0 from by omega); clear hr39 hC39 hroom39 hi039 hsz39; have KY39 := Aside0.mk hy39; clear hy39; replace q39 := eq_true q39; obtain ⟨Ao40, co40, eo40⟩ := Kd.R_slice HO154.out; subst eo40) | ((with_reducible refine gate_callee (f := 18) rfl ?_); refine goesL_ (some 77) rfl rfl Tryz.func18 (by kernel_rfl) rfl #[.slice (some ad155) y158.length c0, .slice Ao40 t151.length co40] rfl (by (try simp only [List.map_toArray, List.map_cons, List.map_nil]); first | done | rfl | (simp only [List.length_drop, List.length_take]; rfl)) ?_; (with_reducible refine (mullionlaw03_same.calls kj4 _ _ y158 _ _ t151 false _ ?side1 ?side2 ?side3 ?side4 A24.out).mono ?_); (case side1 => repeat (first | exact (Kd.C_below HR161.out HB.out) | (with_reducible refine Kd.C_alloc ?_ _) | (with_reducible refine Kd.C_drewN ?_ _) | (with_reducible refine Kd.C_drew ?_))); (case side2 => exact HC161.out); (case side3 => repeat (first | exact (Kd.R_reads' HO154.out).2.2 | (with_reducible refine Kd.C_alloc ?_ _) | (with_reducible refine Kd.C_drewN ?_ _) | (with_reducible refine Kd.C_drew ?_))); (case side4 => exact (Kd.R_reads' HO154.out).2.1); rintro e w' ⟨rfl, ⟨nd, rfl⟩⟩; refine ⟨_, rfl, ?_⟩))
                        go_ret
                        exact ⟨by first | rfl | (simp [errW_none, errW_some] <;> rfl) | (simp only [← hji14, ← hji18]; first | rfl | (simp [errW_none, errW_some] <;> rfl)) | (simp [*, errW_none, errW_some] <;> rfl), by repeat (first | (with_reducible first | exact HB.out | apply below_alloc | apply pw_below_drewN | apply below_drew1) | exact HB.out)⟩
                    · rw [if_neg c23] at H
                      exact absurd H (by simp)
                  · rw [if_neg c20] at H
                    exact absurd H (by simp)
                · rw [if_neg c19] at H
                  exact absurd H (by simp)
              · rw [if_neg c16] at H
                exact absurd H (by simp)
            · rw [if_neg c15] at H
              exact absurd H (by simp)
          · rw [if_neg c13] at H
            have c13b0 : decide (0 < (l0.length : Int)) = false := decide_eq_false c13
            have c13b1 : decide (0 < l0.length) = false := decide_eq_false (by omega)
            clear c13
            replace H := Option.bind_eq_some_iff.mp H
            obtain ⟨t164, A410, H⟩ := H
            replace H : (some t164) = some r := H
            have A41 := Aside0.mk A410
            clear A410
            obtain rfl := Option.some.inj H
            go_wp2_with (first | ((with_reducible refine gate_callee (f := 23) rfl ?_); refine goesL_ (some 84) rfl rfl Tryz.func23 (by kernel_rfl) rfl #[] rfl (by (try simp only [List.map_toArray, List.map_cons, List.map_nil]); first | done | rfl | (simp only [List.length_drop, List.length_take]; rfl)) ?_; (with_reducible refine (mullionlaw03_sure.calls  t164 _ (LaidW.below hL (by repeat (first | (with_reducible first | exact HB.out | apply below_alloc | apply pw_below_drewN | apply below_drew1) | exact HB.out))) A41.out).mono ?_); rintro e w42 ⟨rfl, hb⟩; refine ⟨_, rfl, ?_⟩; have n0_ := Aside0.mk (below_step (by repeat (first | (with_reducible first | exact HB.out | apply below_alloc | apply pw_below_drewN | apply below_drew1) | exact HB.out)) hb); clear HB; have HB := n0_; clear n0_; (try clear hb); (try clear hb2); (try clear hk); (try clear hi)))
            go_ret
            exact ⟨by first | rfl | (simp [errW_none, errW_some] <;> rfl) | (simp [*, errW_none, errW_some] <;> rfl), by repeat (first | (with_reducible first | exact HB.out | apply below_alloc | apply pw_below_drewN | apply below_drew1) | exact HB.out)⟩
  · rw [if_neg c3] at H
    have c3b0 : (t141 == 0) = false := beq_eq_false_iff_ne.mpr c3
    have c3b1 : (t141 != 0) = true := bne_iff_ne.mpr c3
    have H' := Aside0.mk H
    clear H
    go_enter Tryz.func13, Tryz.ntmps13
    go_wp2_with (first | ((with_reducible refine gate_callee (f := 17) rfl ?_); refine goesL_ (some 14) rfl rfl Tryz.func17 (by kernel_rfl) rfl #[.slice A0 l0.length c0] rfl (by (try simp only [List.map_toArray, List.map_cons, List.map_nil]); first | done | rfl | (simp only [List.length_drop, List.length_take]; rfl)) ?_; (with_reducible refine (given_Text.calls _ _ l0 t140 t141 _ ?side1 ?side2 (LaidW.below hL (by repeat (first | (with_reducible first | exact HB.out | apply below_alloc | apply pw_below_drewN | apply below_drew1) | exact HB.out))) A2.out).mono ?_); (case side1 => repeat (first | exact HR0.out | (with_reducible refine Kd.C_alloc ?_ _) | (with_reducible refine Kd.C_drewN ?_ _) | (with_reducible refine Kd.C_drew ?_))); (case side2 => exact HC0.out); rintro e w43 ⟨rfl, hb⟩; refine ⟨_, rfl, ?_⟩; have n0_ := Aside0.mk (below_step (by repeat (first | (with_reducible first | exact HB.out | apply below_alloc | apply pw_below_drewN | apply below_drew1) | exact HB.out)) hb); clear HB; have HB := n0_; clear n0_; (try clear hb); (try clear hb2); (try clear hk); (try clear hi)))
    (try simp only [Act.put, List.setIfInBounds_toArray, List.set_cons_zero, List.set_cons_succ])
    go_loopg [5] k (fun kq v5 w' => ∃ (x5_1 : Int), v5 = .int .i64 x5_1 ∧ Aside0 (mullionlaw03_WireLists.l0 kq l0 x5_1 = some r) ∧ Aside0 (kq ≤ k) ∧ Aside0 (Below w.heap.size w w'))
    case atStart => exact ⟨(0), (by first | rfl | (simp; done) | (simp [*]; done)), H', ⟨Nat.le_refl _⟩, ⟨by repeat (first | (with_reducible first | exact HB.out | apply below_alloc | apply pw_below_drewN | apply below_drew1) | exact HB.out)⟩⟩
    case round =>
      clear H'
      try clear c1
      try clear p1
      try clear q1
      try clear hx1
      try clear c2
      try clear p2
      try clear c3
      try clear c3b0
      try clear c3b1
      try clear q3
      try clear p6
      try clear c9
      try clear c12
      try clear c13
      try clear c13b0
      try clear c13b1
      try clear c15
      try clear c15b0
      try clear c15b1
      try clear p15
      try clear q15
      try clear hx15
      try clear c16
      try clear c16b0
      try clear c16b1
      try clear c17
      try clear c18
      try clear c19
      try clear c19b0
      try clear c20
      try clear c20b0
      try clear c21
      try clear c22
      try clear c22b0
      try clear c23
      try clear c23b0
      try clear c23b1
      try clear c25
      try clear c26
      try clear c26b0
      try clear c26b1
      try clear q30
      try clear q35
      try clear q39
      try clear hx155_0
      try clear hx155_1
      try clear hx155_10
      try clear hx155_11
      try clear hx155_12
      try clear hx155_13
      try clear hx155_2
      try clear hx155_3
      try clear hx155_4
      try clear hx155_5
      try clear hx155_6
      try clear hx155_7
      try clear hx155_8
      try clear hx155_9
      try clear p155
      try clear p2
      try clear q155
      try clear q30
      try clear q35
      try clear q39
      obtain ⟨x5_1, rfl, HA, HK1, HB⟩ := hrel
      cases gk with
      | zero => exact absurd HA.out (by simp [mullionlaw03_WireLists.l0])
      | succ k1 =>
        have H := HA.out
        clear HA
        simp only [mullionlaw03_WireLists.l0] at H
        by_cases c44 : x5_1 < (l0.length : Int)
        · rw [if_pos c44] at H
          have c44b0 : decide (x5_1 < (l0.length : Int)) = true := decide_eq_true c44
          clear c44
          by_cases c45 : 0 ≤ x5_1
          · rw [if_pos c45] at H
            have c45b0 : decide (0 ≤ x5_1) = true := decide_eq_true c45
            clear c45
            replace H := Option.bind_eq_some_iff.mp H
            obtain ⟨⟨t143, t144⟩, A460, H⟩ := H
            replace H : (if t144 = 0 then (mullionlaw03_WireLists.l0 k1 l0 (wrap64 (x5_1 + 1))) else ((mullionlaw03_sure.f).bind fun t145 => (some t145))) = some r := H
            have A46 := Aside0.mk A460
            clear A460
            by_cases c47 : t144 = 0
            · rw [if_pos c47] at H
              have c47b0 : (t144 == 0) = true := beq_iff_eq.mpr c47
              have c47b1 : (t144 != 0) = false := bne_eq_false_iff_eq.mpr c47
              clear c47
              have H' := Aside0.mk H
              clear H
              have p142 : 0 ≤ (x5_1 : Int) := of_decide_eq_true (by first | (with_reducible assumption) | assumption)
              have q142 : x5_1 < (l0.length : Int) := of_decide_eq_true (by first | (with_reducible assumption) | assumption)
              obtain ⟨ad142, e142, hx142_0, hx142_1, hx142_2, hx142_3, hx142_4, hx142_5, hx142_6, hx142_7, hx142_8, hx142_9, hx142_10, hx142_11, hx142_12, hx142_13⟩ := at_T28 HR0.out x5_1 p142 q142
              cases e142
              replace hx142_0 := (HB.out.cell (World.block_lt_of_cell? w _ hx142_0)).trans hx142_0
              replace hx142_1 := (HB.out.cell (World.block_lt_of_cell? w _ hx142_1)).trans hx142_1
              replace hx142_2 := (HB.out.cell (World.block_lt_of_cell? w _ hx142_2)).trans hx142_2
              replace hx142_3 := (HB.out.cell (World.block_lt_of_cell? w _ hx142_3)).trans hx142_3
              replace hx142_4 := (HB.out.cell (World.block_lt_of_cell? w _ hx142_4)).trans hx142_4
              replace hx142_5 := (HB.out.cell (World.block_lt_of_cell? w _ hx142_5)).trans hx142_5
              replace hx142_6 := (HB.out.cell (World.block_lt_of_cell? w _ hx142_6)).trans hx142_6
              replace hx142_7 := (HB.out.cell (World.block_lt_of_cell? w _ hx142_7)).trans hx142_7
              replace hx142_8 := (HB.out.cell (World.block_lt_of_cell? w _ hx142_8)).trans hx142_8
              replace hx142_9 := (HB.out.cell (World.block_lt_of_cell? w _ hx142_9)).trans hx142_9
              replace hx142_10 := (HB.out.cell (World.block_lt_of_cell? w _ hx142_10)).trans hx142_10
              replace hx142_11 := (HB.out.cell (World.block_lt_of_cell? w _ hx142_11)).trans hx142_11
              replace hx142_12 := (HB.out.cell (World.block_lt_of_cell? w _ hx142_12)).trans hx142_12
              replace hx142_13 := (HB.out.cell (World.block_lt_of_cell? w _ hx142_13)).trans hx142_13
              replace p142 := eq_true p142
              replace q142 := eq_true q142
              go_wp2_with (first | ((with_reducible refine gate_callee (f := 21) rfl ?_); refine goesL_ (some 30) rfl rfl Tryz.func21 (by kernel_rfl) rfl #[.agg #[.int .i64 ((rd_T28 l0 x5_1).f0), .int .i64 ((rd_T28 l0 x5_1).f1), .int .i64 ((rd_T28 l0 x5_1).f2), .int .i64 ((rd_T28 l0 x5_1).f3), .int .i64 ((rd_T28 l0 x5_1).f4), .int .i64 ((rd_T28 l0 x5_1).f5), .int .i64 ((rd_T28 l0 x5_1).f6), .int .i64 ((rd_T28 l0 x5_1).f7), .int .i64 ((rd_T28 l0 x5_1).f8), .string ((rd_T28 l0 x5_1).f9), .string ((rd_T28 l0 x5_1).f10), .string ((rd_T28 l0 x5_1).f11), .string ((rd_T28 l0 x5_1).f12), .bool ((rd_T28 l0 x5_1).f13)]] rfl (by (try simp only [List.map_toArray, List.map_cons, List.map_nil]); first | done | rfl | (simp only [List.length_drop, List.length_take]; rfl)) ?_; (with_reducible refine (given_Encode.calls ((rd_T28 l0 x5_1).f0) ((rd_T28 l0 x5_1).f1) ((rd_T28 l0 x5_1).f2) ((rd_T28 l0 x5_1).f3) ((rd_T28 l0 x5_1).f4) ((rd_T28 l0 x5_1).f5) ((rd_T28 l0 x5_1).f6) ((rd_T28 l0 x5_1).f7) ((rd_T28 l0 x5_1).f8) ((rd_T28 l0 x5_1).f9) ((rd_T28 l0 x5_1).f10) ((rd_T28 l0 x5_1).f11) ((rd_T28 l0 x5_1).f12) ((rd_T28 l0 x5_1).f13) t143 t144 _ (LaidW.below hL (by repeat (first | (with_reducible first | exact HB.out | apply below_alloc | apply pw_below_drewN | apply below_drew1) | exact HB.out))) A46.out).mono ?_); rintro e w48 ⟨rfl, hb⟩; refine ⟨_, rfl, ?_⟩; have n0_ := Aside0.mk (below_step (by repeat (first | (with_reducible first | exact HB.out | apply below_alloc | apply pw_below_drewN | apply below_drew1) | exact HB.out)) hb); clear HB; have HB := n0_; clear n0_; (try clear hb); (try clear hb2); (try clear hk); (try clear hi)))
              go_roundg k1
              case measure => have := HK1.out; omega
              case rel => exact ⟨(wrap64 (x5_1 + 1)), (by first | rfl | (simp; done) | (simp [*]; done)), H', ⟨by have := HK1.out; omega⟩, ⟨by repeat (first | (with_reducible first | exact HB.out | apply below_alloc | apply pw_below_drewN | apply below_drew1) | exact HB.out)⟩⟩
            · rw [if_neg c47] at H
              have c47b0 : (t144 == 0) = false := beq_eq_false_iff_ne.mpr c47
              have c47b1 : (t144 != 0) = true := bne_iff_ne.mpr c47
              replace H := Option.bind_eq_some_iff.mp H
              obtain ⟨t145, A490, H⟩ := H
              replace H : (some t145) = some r := H
              have A49 := Aside0.mk A490
              clear A490
              obtain rfl := Option.some.inj H
              have p142 : 0 ≤ (x5_1 : Int) := of_decide_eq_true (by first | (with_reducible assumption) | assumption)
              have q142 : x5_1 < (l0.length : Int) := of_decide_eq_true (by first | (with_reducible assumption) | assumption)
              obtain ⟨ad142, e142, hx142_0, hx142_1, hx142_2, hx142_3, hx142_4, hx142_5, hx142_6, hx142_7, hx142_8, hx142_9, hx142_10, hx142_11, hx142_12, hx142_13⟩ := at_T28 HR0.out x5_1 p142 q142
              cases e142
              replace hx142_0 := (HB.out.cell (World.block_lt_of_cell? w _ hx142_0)).trans hx142_0
              replace hx142_1 := (HB.out.cell (World.block_lt_of_cell? w _ hx142_1)).trans hx142_1
              replace hx142_2 := (HB.out.cell (World.block_lt_of_cell? w _ hx142_2)).trans hx142_2
              replace hx142_3 := (HB.out.cell (World.block_lt_of_cell? w _ hx142_3)).trans hx142_3
              replace hx142_4 := (HB.out.cell (World.block_lt_of_cell? w _ hx142_4)).trans hx142_4
              replace hx142_5 := (HB.out.cell (World.block_lt_of_cell? w _ hx142_5)).trans hx142_5
              replace hx142_6 := (HB.out.cell (World.block_lt_of_cell? w _ hx142_6)).trans hx142_6
              replace hx142_7 := (HB.out.cell (World.block_lt_of_cell? w _ hx142_7)).trans hx142_7
              replace hx142_8 := (HB.out.cell (World.block_lt_of_cell? w _ hx142_8)).trans hx142_8
              replace hx142_9 := (HB.out.cell (World.block_lt_of_cell? w _ hx142_9)).trans hx142_9
              replace hx142_10 := (HB.out.cell (World.block_lt_of_cell? w _ hx142_10)).trans hx142_10
              replace hx142_11 := (HB.out.cell (World.block_lt_of_cell? w _ hx142_11)).trans hx142_11
              replace hx142_12 := (HB.out.cell (World.block_lt_of_cell? w _ hx142_12)).trans hx142_12
              replace hx142_13 := (HB.out.cell (World.block_lt_of_cell? w _ hx142_13)).trans hx142_13
              replace p142 := eq_true p142
              replace q142 := eq_true q142
              go_wp2_with (first | ((with_reducible refine gate_callee (f := 21) rfl ?_); refine goesL_ (some 30) rfl rfl Tryz.func21 (by kernel_rfl) rfl #[.agg #[.int .i64 ((rd_T28 l0 x5_1).f0), .int .i64 ((rd_T28 l0 x5_1).f1), .int .i64 ((rd_T28 l0 x5_1).f2), .int .i64 ((rd_T28 l0 x5_1).f3), .int .i64 ((rd_T28 l0 x5_1).f4), .int .i64 ((rd_T28 l0 x5_1).f5), .int .i64 ((rd_T28 l0 x5_1).f6), .int .i64 ((rd_T28 l0 x5_1).f7), .int .i64 ((rd_T28 l0 x5_1).f8), .string ((rd_T28 l0 x5_1).f9), .string ((rd_T28 l0 x5_1).f10), .string ((rd_T28 l0 x5_1).f11), .string ((rd_T28 l0 x5_1).f12), .bool ((rd_T28 l0 x5_1).f13)]] rfl (by (try simp only [List.map_toArray, List.map_cons, List.map_nil]); first | done | rfl | (simp only [List.length_drop, List.length_take]; rfl)) ?_; (with_reducible refine (given_Encode.calls ((rd_T28 l0 x5_1).f0) ((rd_T28 l0 x5_1).f1) ((rd_T28 l0 x5_1).f2) ((rd_T28 l0 x5_1).f3) ((rd_T28 l0 x5_1).f4) ((rd_T28 l0 x5_1).f5) ((rd_T28 l0 x5_1).f6) ((rd_T28 l0 x5_1).f7) ((rd_T28 l0 x5_1).f8) ((rd_T28 l0 x5_1).f9) ((rd_T28 l0 x5_1).f10) ((rd_T28 l0 x5_1).f11) ((rd_T28 l0 x5_1).f12) ((rd_T28 l0 x5_1).f13) t143 t144 _ (LaidW.below hL (by repeat (first | (with_reducible first | exact HB.out | apply below_alloc | apply pw_below_drewN | apply below_drew1) | exact HB.out))) A46.out).mono ?_); rintro e w50 ⟨rfl, hb⟩; refine ⟨_, rfl, ?_⟩; have n0_ := Aside0.mk (below_step (by repeat (first | (with_reducible first | exact HB.out | apply below_alloc | apply pw_below_drewN | apply below_drew1) | exact HB.out)) hb); clear HB; have HB := n0_; clear n0_; (try clear hb); (try clear hb2); (try clear hk); (try clear hi)) | ((with_reducible refine gate_callee (f := 23) rfl ?_); refine goesL_ (some 35) rfl rfl Tryz.func23 (by kernel_rfl) rfl #[] rfl (by (try simp only [List.map_toArray, List.map_cons, List.map_nil]); first | done | rfl | (simp only [List.length_drop, List.length_take]; rfl)) ?_; (with_reducible refine (mullionlaw03_sure.calls  t145 _ (LaidW.below hL (by repeat (first | (with_reducible first | exact HB.out | apply below_alloc | apply pw_below_drewN | apply below_drew1) | exact HB.out))) A49.out).mono ?_); rintro e w51 ⟨rfl, hb⟩; refine ⟨_, rfl, ?_⟩; have n0_ := Aside0.mk (below_step (by repeat (first | (with_reducible first | exact HB.out | apply below_alloc | apply pw_below_drewN | apply below_drew1) | exact HB.out)) hb); clear HB; have HB := n0_; clear n0_; (try clear hb); (try clear hb2); (try clear hk); (try clear hi)))
              go_ret
              exact ⟨by first | rfl | (simp [errW_none, errW_some] <;> rfl) | (simp [*, errW_none, errW_some] <;> rfl), by repeat (first | (with_reducible first | exact HB.out | apply below_alloc | apply pw_below_drewN | apply below_drew1) | exact HB.out)⟩
          · rw [if_neg c45] at H
            exact absurd H (by simp)
        · rw [if_neg c44] at H
          have c44b0 : decide (x5_1 < (l0.length : Int)) = false := decide_eq_false c44
          clear c44
          obtain rfl := Option.some.inj H
          go_wp2
          go_ret
          exact ⟨by first | rfl | (simp [errW_none, errW_some] <;> rfl) | (simp [*, errW_none, errW_some] <;> rfl), by repeat (first | (with_reducible first | exact HB.out | apply below_alloc | apply pw_below_drewN | apply below_drew1) | exact HB.out)⟩

/-! ### mullionlaw03_WireOne: function 3 -/
def mullionlaw03_WireOne.f (k : Nat) (l0 : List (S28)) (l1 : List (S28)) : Option (Bool) := (given_Text.f l0).bind fun bt165 => ((given_Text.f l1).bind fun bt167 => (if bt165.2 = 0 then (if bt167.2 = 0 then ((mullionlaw03_same.f k l0 l1).bind fun t169 => (if ((bt165.1.toList == bt167.1.toList) != t169) = true then (some false) else ((given_Text.f (([(⟨24, 0, 0, 0, 0, 0, 0, 0, 0, (⟨#[]⟩ : ByteArray), (⟨#[]⟩ : ByteArray), (⟨#[]⟩ : ByteArray), (⟨#[]⟩ : ByteArray), false⟩ : S28)] : List (S28)))).bind fun bt173 => (if bt173.1.toList = ([37, 101, 120, 105, 116, 10] : List UInt8) then (some (bt173.2 == 0)) else (some false))))) else ((given_Text.f (([(⟨24, 0, 0, 0, 0, 0, 0, 0, 0, (⟨#[]⟩ : ByteArray), (⟨#[]⟩ : ByteArray), (⟨#[]⟩ : ByteArray), (⟨#[]⟩ : ByteArray), false⟩ : S28)] : List (S28)))).bind fun bt178 => (if bt178.1.toList = ([37, 101, 120, 105, 116, 10] : List UInt8) then (some (bt178.2 == 0)) else (some false)))) else ((given_Text.f (([(⟨24, 0, 0, 0, 0, 0, 0, 0, 0, (⟨#[]⟩ : ByteArray), (⟨#[]⟩ : ByteArray), (⟨#[]⟩ : ByteArray), (⟨#[]⟩ : ByteArray), false⟩ : S28)] : List (S28)))).bind fun bt183 => (if bt183.1.toList = ([37, 101, 120, 105, 116, 10] : List UInt8) then (some (bt183.2 == 0)) else (some false)))))
theorem mullionlaw03_WireOne.mono : ∀ a0 a1 k, LeO (mullionlaw03_WireOne.f k a0 a1) (mullionlaw03_WireOne.f (k + 1) a0 a1) := by
  intro a0 a1 k
  unfold mullionlaw03_WireOne.f
  repeat' first
      | (with_reducible exact mullionlaw03_same.mono _ _ _)
      | (with_reducible exact LeO.refl _)
      | (with_reducible exact LeO.none _)
      | (with_reducible refine LeO.ite ?_ ?_)
      | (with_reducible refine LeO.bind ?_ (fun _ => ?_))
      | exact mullionlaw03_same.mono _ _ _
      | exact LeO.none _
      | refine LeO.ite ?_ ?_
      | refine LeO.bind ?_ (fun _ => ?_)
set_option maxHeartbeats 8000000 in
set_option maxRecDepth 100000 in
theorem mullionlaw03_WireOne.calls (k : Nat) (A0 : Option Addr) (c0 : Nat) (l0 : List (S28)) (A1 : Option Addr) (c1 : Nat) (l1 : List (S28)) (r : Bool) (w : World) (hr0 : Kd.C k28 w A0 l0.length l0) (hc0 : l0.length ≤ c0) (hr1 : Kd.C k28 w A1 l1.length l1) (hc1 : l1.length ≤ c1) (hL : LaidW w) (h : mullionlaw03_WireOne.f k l0 l1 = some r) :
    Calls Tryz.prog 3 #[.slice A0 l0.length c0, .slice A1 l1.length c1] w fun e w' => e = .returned (.bool r) ∧ Below w.heap.size w w' := by
  have hu28 := Tryz.underlying28
  have HR0 := Aside0.mk hr0
  have HC0 := Aside0.mk hc0
  clear hr0 hc0
  have HR1 := Aside0.mk hr1
  have HC1 := Aside0.mk hc1
  clear hr1 hc1
  have HB := Aside0.mk (Below.refl w.heap.size w)
  have H : ((given_Text.f l0).bind fun bt165 => ((given_Text.f l1).bind fun bt167 => (if bt165.2 = 0 then (if bt167.2 = 0 then ((mullionlaw03_same.f k l0 l1).bind fun t169 => (if ((bt165.1.toList == bt167.1.toList) != t169) = true then (some false) else ((given_Text.f (([(⟨24, 0, 0, 0, 0, 0, 0, 0, 0, (⟨#[]⟩ : ByteArray), (⟨#[]⟩ : ByteArray), (⟨#[]⟩ : ByteArray), (⟨#[]⟩ : ByteArray), false⟩ : S28)] : List (S28)))).bind fun bt173 => (if bt173.1.toList = ([37, 101, 120, 105, 116, 10] : List UInt8) then (some (bt173.2 == 0)) else (some false))))) else ((given_Text.f (([(⟨24, 0, 0, 0, 0, 0, 0, 0, 0, (⟨#[]⟩ : ByteArray), (⟨#[]⟩ : ByteArray), (⟨#[]⟩ : ByteArray), (⟨#[]⟩ : ByteArray), false⟩ : S28)] : List (S28)))).bind fun bt178 => (if bt178.1.toList = ([37, 101, 120, 105, 116, 10] : List UInt8) then (some (bt178.2 == 0)) else (some false)))) else ((given_Text.f (([(⟨24, 0, 0, 0, 0, 0, 0, 0, 0, (⟨#[]⟩ : ByteArray), (⟨#[]⟩ : ByteArray), (⟨#[]⟩ : ByteArray), (⟨#[]⟩ : ByteArray), false⟩ : S28)] : List (S28)))).bind fun bt183 => (if bt183.1.toList = ([37, 101, 120, 105, 116, 10] : List UInt8) then (some (bt183.2 == 0)) else (some false)))))) = some r := h
  clear h
  replace H := Option.bind_eq_some_iff.mp H
  obtain ⟨⟨t165, t166⟩, A30, H⟩ := H
  replace H : ((given_Text.f l1).bind fun bt167 => (if t166 = 0 then (if bt167.2 = 0 then ((mullionlaw03_same.f k l0 l1).bind fun t169 => (if ((t165.toList == bt167.1.toList) != t169) = true then (some false) else ((given_Text.f (([(⟨24, 0, 0, 0, 0, 0, 0, 0, 0, (⟨#[]⟩ : ByteArray), (⟨#[]⟩ : ByteArray), (⟨#[]⟩ : ByteArray), (⟨#[]⟩ : ByteArray), false⟩ : S28)] : List (S28)))).bind fun bt173 => (if bt173.1.toList = ([37, 101, 120, 105, 116, 10] : List UInt8) then (some (bt173.2 == 0)) else (some false))))) else ((given_Text.f (([(⟨24, 0, 0, 0, 0, 0, 0, 0, 0, (⟨#[]⟩ : ByteArray), (⟨#[]⟩ : ByteArray), (⟨#[]⟩ : ByteArray), (⟨#[]⟩ : ByteArray), false⟩ : S28)] : List (S28)))).bind fun bt178 => (if bt178.1.toList = ([37, 101, 120, 105, 116, 10] : List UInt8) then (some (bt178.2 == 0)) else (some false)))) else ((given_Text.f (([(⟨24, 0, 0, 0, 0, 0, 0, 0, 0, (⟨#[]⟩ : ByteArray), (⟨#[]⟩ : ByteArray), (⟨#[]⟩ : ByteArray), (⟨#[]⟩ : ByteArray), false⟩ : S28)] : List (S28)))).bind fun bt183 => (if bt183.1.toList = ([37, 101, 120, 105, 116, 10] : List UInt8) then (some (bt183.2 == 0)) else (some false))))) = some r := H
  have A3 := Aside0.mk A30
  clear A30
  replace H := Option.bind_eq_some_iff.mp H
  obtain ⟨⟨t167, t168⟩, A40, H⟩ := H
  replace H : (if t166 = 0 then (if t168 = 0 then ((mullionlaw03_same.f k l0 l1).bind fun t169 => (if ((t165.toList == t167.toList) != t169) = true then (some false) else ((given_Text.f (([(⟨24, 0, 0, 0, 0, 0, 0, 0, 0, (⟨#[]⟩ : ByteArray), (⟨#[]⟩ : ByteArray), (⟨#[]⟩ : ByteArray), (⟨#[]⟩ : ByteArray), false⟩ : S28)] : List (S28)))).bind fun bt173 => (if bt173.1.toList = ([37, 101, 120, 105, 116, 10] : List UInt8) then (some (bt173.2 == 0)) else (some false))))) else ((given_Text.f (([(⟨24, 0, 0, 0, 0, 0, 0, 0, 0, (⟨#[]⟩ : ByteArray), (⟨#[]⟩ : ByteArray), (⟨#[]⟩ : ByteArray), (⟨#[]⟩ : ByteArray), false⟩ : S28)] : List (S28)))).bind fun bt178 => (if bt178.1.toList = ([37, 101, 120, 105, 116, 10] : List UInt8) then (some (bt178.2 == 0)) else (some false)))) else ((given_Text.f (([(⟨24, 0, 0, 0, 0, 0, 0, 0, 0, (⟨#[]⟩ : ByteArray), (⟨#[]⟩ : ByteArray), (⟨#[]⟩ : ByteArray), (⟨#[]⟩ : ByteArray), false⟩ : S28)] : List (S28)))).bind fun bt183 => (if bt183.1.toList = ([37, 101, 120, 105, 116, 10] : List UInt8) then (some (bt183.2 == 0)) else (some false)))) = some r := H
  have A4 := Aside0.mk A40
  clear A40
  by_cases c5 : t166 = 0
  · rw [if_pos c5] at H
    have c5b0 : (t166 == 0) = true := beq_iff_eq.mpr c5
    have c5b1 : (t166 != 0) = false := bne_eq_false_iff_eq.mpr c5
    clear c5
    by_cases c6 : t168 = 0
    · rw [if_pos c6] at H
      have c6b0 : (t168 == 0) = true := beq_iff_eq.mpr c6
      have c6b1 : (t168 != 0) = false := bne_eq_false_iff_eq.mpr c6
      clear c6
      replace H := Option.bind_eq_some_iff.mp H
      obtain ⟨t169, A70, H⟩ := H
      replace H : (if ((t165.toList == t167.toList) != t169) = true then (some false) else ((given_Text.f (([(⟨24, 0, 0, 0, 0, 0, 0, 0, 0, (⟨#[]⟩ : ByteArray), (⟨#[]⟩ : ByteArray), (⟨#[]⟩ : ByteArray), (⟨#[]⟩ : ByteArray), false⟩ : S28)] : List (S28)))).bind fun bt173 => (if bt173.1.toList = ([37, 101, 120, 105, 116, 10] : List UInt8) then (some (bt173.2 == 0)) else (some false)))) = some r := H
      have A7 := Aside0.mk A70
      clear A70
      by_cases c8 : ((t165.toList == t167.toList) != t169) = true
      · rw [if_pos c8] at H
        have c8b0 : ((t165.toList == t167.toList) != t169) = true := c8
        (try (have c8b1 : decide ((t165.toList == t167.toList) = t169) = false := by simpa using c8))
        (try (have c8b2 : ((t165.toList == t167.toList) == t169) = false := by simpa using c8))
        (try (have c8b3 : ¬ ((t165.toList == t167.toList) = t169) := by simpa using c8))
        clear c8
        obtain rfl := Option.some.inj H
        go_enter Tryz.func3, Tryz.ntmps3
        go_wp2_with (first | ((with_reducible refine gate_callee (f := 17) rfl ?_); refine goesL_ (some 13) rfl rfl Tryz.func17 (by kernel_rfl) rfl #[.slice A0 l0.length c0] rfl (by (try simp only [List.map_toArray, List.map_cons, List.map_nil]); first | done | rfl | (simp only [List.length_drop, List.length_take]; rfl)) ?_; (with_reducible refine (given_Text.calls _ _ l0 t165 t166 _ ?side1 ?side2 (LaidW.below hL (by repeat (first | (with_reducible first | exact HB.out | apply below_alloc | apply pw_below_drewN | apply below_drew1) | exact HB.out))) A3.out).mono ?_); (case side1 => repeat (first | exact HR0.out | (with_reducible refine Kd.C_alloc ?_ _) | (with_reducible refine Kd.C_drewN ?_ _) | (with_reducible refine Kd.C_drew ?_))); (case side2 => exact HC0.out); rintro e w9 ⟨rfl, hb⟩; refine ⟨_, rfl, ?_⟩; have n0_ := Aside0.mk (below_step (by repeat (first | (with_reducible first | exact HB.out | apply below_alloc | apply pw_below_drewN | apply below_drew1) | exact HB.out)) hb); clear HB; have HB := n0_; clear n0_; (try clear hb); (try clear hb2); (try clear hk); (try clear hi)) | ((with_reducible refine gate_callee (f := 17) rfl ?_); refine goesL_ (some 18) rfl rfl Tryz.func17 (by kernel_rfl) rfl #[.slice A1 l1.length c1] rfl (by (try simp only [List.map_toArray, List.map_cons, List.map_nil]); first | done | rfl | (simp only [List.length_drop, List.length_take]; rfl)) ?_; (with_reducible refine (given_Text.calls _ _ l1 t167 t168 _ ?side1 ?side2 (LaidW.below hL (by repeat (first | (with_reducible first | exact HB.out | apply below_alloc | apply pw_below_drewN | apply below_drew1) | exact HB.out))) A4.out).mono ?_); (case side1 => repeat (first | exact (Kd.C_below HR1.out HB.out) | (with_reducible refine Kd.C_alloc ?_ _) | (with_reducible refine Kd.C_drewN ?_ _) | (with_reducible refine Kd.C_drew ?_))); (case side2 => exact HC1.out); rintro e w10 ⟨rfl, hb⟩; refine ⟨_, rfl, ?_⟩; have n0_ := Aside0.mk (below_step (by repeat (first | (with_reducible first | exact HB.out | apply below_alloc | apply pw_below_drewN | apply below_drew1) | exact HB.out)) hb); clear HB; have HB := n0_; clear n0_; (try clear hb); (try clear hb2); (try clear hk); (try clear hi)) | (go_at_call 18; (with_reducible refine (mullionlaw03_same.calls k _ _ l0 _ _ l1 t169 _ ?side1 ?side2 ?side3 ?side4 A7.out).mono ?_); (case side1 => repeat (first | exact (Kd.C_below HR0.out HB.out) | (with_reducible refine Kd.C_alloc ?_ _) | (with_reducible refine Kd.C_drewN ?_ _) | (with_reducible refine Kd.C_drew ?_))); (case side2 => exact HC0.out); (case side3 => repeat (first | exact (Kd.C_below HR1.out HB.out) | (with_reducible refine Kd.C_alloc ?_ _) | (with_reducible refine Kd.C_drewN ?_ _) | (with_reducible refine Kd.C_drew ?_))); (case side4 => exact HC1.out); rintro e w' ⟨rfl, ⟨nd, rfl⟩⟩))
        go_ret
        exact ⟨by first | rfl | (simp [errW_none, errW_some] <;> rfl) | (simp [*, errW_none, errW_some] <;> rfl), by repeat (first | (with_reducible first | exact HB.out | apply below_alloc | apply pw_below_drewN | apply below_drew1) | exact HB.out)⟩
      · rw [if_neg c8] at H
        have c8b0 : ((t165.toList == t167.toList) != t169) = false := by simpa using c8
        (try (have c8b1 : decide ((t165.toList == t167.toList) = t169) = true := by simpa using c8))
        (try (have c8b2 : ((t165.toList == t167.toList) == t169) = true := by simpa using c8))
        clear c8
        obtain ⟨y170, hy170⟩ : ∃ y_ : List (S28), y_ = (([(⟨24, 0, 0, 0, 0, 0, 0, 0, 0, (⟨#[]⟩ : ByteArray), (⟨#[]⟩ : ByteArray), (⟨#[]⟩ : ByteArray), (⟨#[]⟩ : ByteArray), false⟩ : S28)] : List (S28))) := ⟨_, rfl⟩
        replace H : ((given_Text.f y170).bind fun bt173 => (if bt173.1.toList = ([37, 101, 120, 105, 116, 10] : List UInt8) then (some (bt173.2 == 0)) else (some false))) = some r := by first | (rw [hy170]; with_reducible exact H) | (have H2_ := (Option.bind_some _ _).symm.trans H; rw [hy170]; with_reducible exact H2_) | (have H2_ := (Option.bind_some _ _).symm.trans H; with_reducible exact H2_) | with_reducible exact H | (rw [hy170]; exact H) | exact H
        have Ny170 := Aside0.mk hy170
        clear hy170
        replace H := Option.bind_eq_some_iff.mp H
        obtain ⟨⟨t173, t174⟩, A110, H⟩ := H
        replace H : (if t173.toList = ([37, 101, 120, 105, 116, 10] : List UInt8) then (some (t174 == 0)) else (some false)) = some r := H
        have A11 := Aside0.mk A110
        clear A110
        by_cases c12 : t173.toList = ([37, 101, 120, 105, 116, 10] : List UInt8)
        · rw [if_pos c12] at H
          have c12b0 : (t173.toList == ([37, 101, 120, 105, 116, 10] : List UInt8)) = true := beq_iff_eq.mpr c12
          have c12b1 : (t173.toList != ([37, 101, 120, 105, 116, 10] : List UInt8)) = false := bne_eq_false_iff_eq.mpr c12
          clear c12
          obtain rfl := Option.some.inj H
          go_enter Tryz.func3, Tryz.ntmps3
          go_wp2_with (first | ((with_reducible refine gate_callee (f := 17) rfl ?_); refine goesL_ (some 13) rfl rfl Tryz.func17 (by kernel_rfl) rfl #[.slice A0 l0.length c0] rfl (by (try simp only [List.map_toArray, List.map_cons, List.map_nil]); first | done | rfl | (simp only [List.length_drop, List.length_take]; rfl)) ?_; (with_reducible refine (given_Text.calls _ _ l0 t165 t166 _ ?side1 ?side2 (LaidW.below hL (by repeat (first | (with_reducible first | exact HB.out | apply below_alloc | apply pw_below_drewN | apply below_drew1) | exact HB.out))) A3.out).mono ?_); (case side1 => repeat (first | exact HR0.out | (with_reducible refine Kd.C_alloc ?_ _) | (with_reducible refine Kd.C_drewN ?_ _) | (with_reducible refine Kd.C_drew ?_))); (case side2 => exact HC0.out); rintro e w13 ⟨rfl, hb⟩; refine ⟨_, rfl, ?_⟩; have n0_ := Aside0.mk (below_step (by repeat (first | (with_reducible first | exact HB.out | apply below_alloc | apply pw_below_drewN | apply below_drew1) | exact HB.out)) hb); clear HB; have HB := n0_; clear n0_; (try clear hb); (try clear hb2); (try clear hk); (try clear hi)) | ((with_reducible refine gate_callee (f := 17) rfl ?_); refine goesL_ (some 18) rfl rfl Tryz.func17 (by kernel_rfl) rfl #[.slice A1 l1.length c1] rfl (by (try simp only [List.map_toArray, List.map_cons, List.map_nil]); first | done | rfl | (simp only [List.length_drop, List.length_take]; rfl)) ?_; (with_reducible refine (given_Text.calls _ _ l1 t167 t168 _ ?side1 ?side2 (LaidW.below hL (by repeat (first | (with_reducible first | exact HB.out | apply below_alloc | apply pw_below_drewN | apply below_drew1) | exact HB.out))) A4.out).mono ?_); (case side1 => repeat (first | exact (Kd.C_below HR1.out HB.out) | (with_reducible refine Kd.C_alloc ?_ _) | (with_reducible refine Kd.C_drewN ?_ _) | (with_reducible refine Kd.C_drew ?_))); (case side2 => exact HC1.out); rintro e w14 ⟨rfl, hb⟩; refine ⟨_, rfl, ?_⟩; have n0_ := Aside0.mk (below_step (by repeat (first | (with_reducible first | exact HB.out | apply below_alloc | apply pw_below_drewN | apply below_drew1) | exact HB.out)) hb); clear HB; have HB := n0_; clear n0_; (try clear hb); (try clear hb2); (try clear hk); (try clear hi)) | (go_at_call 18; (with_reducible refine (mullionlaw03_same.calls k _ _ l0 _ _ l1 t169 _ ?side1 ?side2 ?side3 ?side4 A7.out).mono ?_); (case side1 => repeat (first | exact (Kd.C_below HR0.out HB.out) | (with_reducible refine Kd.C_alloc ?_ _) | (with_reducible refine Kd.C_drewN ?_ _) | (with_reducible refine Kd.C_drew ?_))); (case side2 => exact HC0.out); (case side3 => repeat (first | exact (Kd.C_below HR1.out HB.out) | (with_reducible refine Kd.C_alloc ?_ _) | (with_reducible refine Kd.C_drewN ?_ _) | (with_reducible refine Kd.C_drew ?_))); (case side4 => exact HC1.out); rintro e w' ⟨rfl, ⟨nd, rfl⟩⟩) | ((with_reducible refine gate_dst (N := 38) rfl ?_); refine Kd.R_lit k28 _ 28 ?hg (N := 38) ?hd (xs := ([(⟨24, 0, 0, 0, 0, 0, 0, 0, 0, (⟨#[]⟩ : ByteArray), (⟨#[]⟩ : ByteArray), (⟨#[]⟩ : ByteArray), (⟨#[]⟩ : ByteArray), false⟩ : S28)] : List (S28))) (inner := [.int .i64 24, .int .i64 0, .int .i64 0, .int .i64 0, .int .i64 0, .int .i64 0, .int .i64 0, .int .i64 0, .int .i64 0, .string (⟨#[]⟩ : ByteArray), .string (⟨#[]⟩ : ByteArray), .string (⟨#[]⟩ : ByteArray), .string (⟨#[]⟩ : ByteArray), .bool false]) (ok := fun _ => True) (okp := fun _ => True) ?hr ?hp (fun _ hk => hk) trivial (Below.refl _ _) (Nat.le_refl _) (by simp) ?_; (case hd => rfl); (case hg => rfl); (case hr => first | (go_simp; done) | (go_simp; rfl)); (case hp => exact (Reps.front (show Kd.M k28 _ _ _ (⟨24, 0, 0, 0, 0, 0, 0, 0, 0, (⟨#[]⟩ : ByteArray), (⟨#[]⟩ : ByteArray), (⟨#[]⟩ : ByteArray), (⟨#[]⟩ : ByteArray), false⟩ : S28) [.int .i64 24, .int .i64 0, .int .i64 0, .int .i64 0, .int .i64 0, .int .i64 0, .int .i64 0, .int .i64 0, .int .i64 0, .string (⟨#[]⟩ : ByteArray), .string (⟨#[]⟩ : ByteArray), .string (⟨#[]⟩ : ByteArray), .string (⟨#[]⟩ : ByteArray), .bool false] from (k28_mkM _ _ _ (⟨24, 0, 0, 0, 0, 0, 0, 0, 0, (⟨#[]⟩ : ByteArray), (⟨#[]⟩ : ByteArray), (⟨#[]⟩ : ByteArray), (⟨#[]⟩ : ByteArray), false⟩ : S28) )) rfl (Reps.none _ _) rfl)); intro v171 w15 ho16 hb hg_ hnew_; clear hg_ hnew_; (first | rw [← Ny170.out] at ho16 | (simp only [Int.reduceToNat] at ho16; rw [← Ny170.out] at ho16)); have n0_ := Aside0.mk (Kd.R_lower ho16 (below_size (by repeat (first | (with_reducible first | exact HB.out | apply below_alloc | apply pw_below_drewN | apply below_drew1) | exact HB.out)))); have n1_ := Aside0.mk (below_step (by repeat (first | (with_reducible first | exact HB.out | apply below_alloc | apply pw_below_drewN | apply below_drew1) | exact HB.out)) hb); clear HB; have HO172 := n0_; have HB := n1_; clear n0_ n1_; clear hb ho16; obtain ⟨Ao17, co17, eo17⟩ := Kd.R_slice HO172.out; subst eo17) | ((with_reducible refine gate_callee (f := 17) rfl ?_); refine goesL_ (some 39) rfl rfl Tryz.func17 (by kernel_rfl) rfl #[.slice Ao17 y170.length co17] rfl (by (try simp only [List.map_toArray, List.map_cons, List.map_nil]); first | done | rfl | (simp only [List.length_drop, List.length_take]; rfl)) ?_; (with_reducible refine (given_Text.calls _ _ y170 t173 t174 _ ?side1 ?side2 (LaidW.below hL (by repeat (first | (with_reducible first | exact HB.out | apply below_alloc | apply pw_below_drewN | apply below_drew1) | exact HB.out))) A11.out).mono ?_); (case side1 => repeat (first | exact (Kd.R_reads' HO172.out).2.2 | (with_reducible refine Kd.C_alloc ?_ _) | (with_reducible refine Kd.C_drewN ?_ _) | (with_reducible refine Kd.C_drew ?_))); (case side2 => exact (Kd.R_reads' HO172.out).2.1); rintro e w18 ⟨rfl, hb⟩; refine ⟨_, rfl, ?_⟩; have n0_ := Aside0.mk (Kd.R_below (by (with_reducible repeat (first | apply Kd.R_alloc | apply Kd.R_drewN | apply Kd.R_drew)); exact HO172.out) hb); have n1_ := Aside0.mk (below_step (by repeat (first | (with_reducible first | exact HB.out | apply below_alloc | apply pw_below_drewN | apply below_drew1) | exact HB.out)) hb); clear HO172; clear HB; have HO172 := n0_; have HB := n1_; clear n0_ n1_; (try clear hb); (try clear hb2); (try clear hk); (try clear hi)))
          go_ret
          exact ⟨by first | rfl | (simp [errW_none, errW_some] <;> rfl) | (simp [*, errW_none, errW_some] <;> rfl), by repeat (first | (with_reducible first | exact HB.out | apply below_alloc | apply pw_below_drewN | apply below_drew1) | exact HB.out)⟩
        · rw [if_neg c12] at H
          have c12b0 : (t173.toList == ([37, 101, 120, 105, 116, 10] : List UInt8)) = false := beq_eq_false_iff_ne.mpr c12
          have c12b1 : (t173.toList != ([37, 101, 120, 105, 116, 10] : List UInt8)) = true := bne_iff_ne.mpr c12
          obtain rfl := Option.some.inj H
          go_enter Tryz.func3, Tryz.ntmps3
          go_wp2_with (first | ((with_reducible refine gate_callee (f := 17) rfl ?_); refine goesL_ (some 13) rfl rfl Tryz.func17 (by kernel_rfl) rfl #[.slice A0 l0.length c0] rfl (by (try simp only [List.map_toArray, List.map_cons, List.map_nil]); first | done | rfl | (simp only [List.length_drop, List.length_take]; rfl)) ?_; (with_reducible refine (given_Text.calls _ _ l0 t165 t166 _ ?side1 ?side2 (LaidW.below hL (by repeat (first | (with_reducible first | exact HB.out | apply below_alloc | apply pw_below_drewN | apply below_drew1) | exact HB.out))) A3.out).mono ?_); (case side1 => repeat (first | exact HR0.out | (with_reducible refine Kd.C_alloc ?_ _) | (with_reducible refine Kd.C_drewN ?_ _) | (with_reducible refine Kd.C_drew ?_))); (case side2 => exact HC0.out); rintro e w19 ⟨rfl, hb⟩; refine ⟨_, rfl, ?_⟩; have n0_ := Aside0.mk (below_step (by repeat (first | (with_reducible first | exact HB.out | apply below_alloc | apply pw_below_drewN | apply below_drew1) | exact HB.out)) hb); clear HB; have HB := n0_; clear n0_; (try clear hb); (try clear hb2); (try clear hk); (try clear hi)) | ((with_reducible refine gate_callee (f := 17) rfl ?_); refine goesL_ (some 18) rfl rfl Tryz.func17 (by kernel_rfl) rfl #[.slice A1 l1.length c1] rfl (by (try simp only [List.map_toArray, List.map_cons, List.map_nil]); first | done | rfl | (simp only [List.length_drop, List.length_take]; rfl)) ?_; (with_reducible refine (given_Text.calls _ _ l1 t167 t168 _ ?side1 ?side2 (LaidW.below hL (by repeat (first | (with_reducible first | exact HB.out | apply below_alloc | apply pw_below_drewN | apply below_drew1) | exact HB.out))) A4.out).mono ?_); (case side1 => repeat (first | exact (Kd.C_below HR1.out HB.out) | (with_reducible refine Kd.C_alloc ?_ _) | (with_reducible refine Kd.C_drewN ?_ _) | (with_reducible refine Kd.C_drew ?_))); (case side2 => exact HC1.out); rintro e w20 ⟨rfl, hb⟩; refine ⟨_, rfl, ?_⟩; have n0_ := Aside0.mk (below_step (by repeat (first | (with_reducible first | exact HB.out | apply below_alloc | apply pw_below_drewN | apply below_drew1) | exact HB.out)) hb); clear HB; have HB := n0_; clear n0_; (try clear hb); (try clear hb2); (try clear hk); (try clear hi)) | (go_at_call 18; (with_reducible refine (mullionlaw03_same.calls k _ _ l0 _ _ l1 t169 _ ?side1 ?side2 ?side3 ?side4 A7.out).mono ?_); (case side1 => repeat (first | exact (Kd.C_below HR0.out HB.out) | (with_reducible refine Kd.C_alloc ?_ _) | (with_reducible refine Kd.C_drewN ?_ _) | (with_reducible refine Kd.C_drew ?_))); (case side2 => exact HC0.out); (case side3 => repeat (first | exact (Kd.C_below HR1.out HB.out) | (with_reducible refine Kd.C_alloc ?_ _) | (with_reducible refine Kd.C_drewN ?_ _) | (with_reducible refine Kd.C_drew ?_))); (case side4 => exact HC1.out); rintro e w' ⟨rfl, ⟨nd, rfl⟩⟩) | ((with_reducible refine gate_dst (N := 38) rfl ?_); refine Kd.R_lit k28 _ 28 ?hg (N := 38) ?hd (xs := ([(⟨24, 0, 0, 0, 0, 0, 0, 0, 0, (⟨#[]⟩ : ByteArray), (⟨#[]⟩ : ByteArray), (⟨#[]⟩ : ByteArray), (⟨#[]⟩ : ByteArray), false⟩ : S28)] : List (S28))) (inner := [.int .i64 24, .int .i64 0, .int .i64 0, .int .i64 0, .int .i64 0, .int .i64 0, .int .i64 0, .int .i64 0, .int .i64 0, .string (⟨#[]⟩ : ByteArray), .string (⟨#[]⟩ : ByteArray), .string (⟨#[]⟩ : ByteArray), .string (⟨#[]⟩ : ByteArray), .bool false]) (ok := fun _ => True) (okp := fun _ => True) ?hr ?hp (fun _ hk => hk) trivial (Below.refl _ _) (Nat.le_refl _) (by simp) ?_; (case hd => rfl); (case hg => rfl); (case hr => first | (go_simp; done) | (go_simp; rfl)); (case hp => exact (Reps.front (show Kd.M k28 _ _ _ (⟨24, 0, 0, 0, 0, 0, 0, 0, 0, (⟨#[]⟩ : ByteArray), (⟨#[]⟩ : ByteArray), (⟨#[]⟩ : ByteArray), (⟨#[]⟩ : ByteArray), false⟩ : S28) [.int .i64 24, .int .i64 0, .int .i64 0, .int .i64 0, .int .i64 0, .int .i64 0, .int .i64 0, .int .i64 0, .int .i64 0, .string (⟨#[]⟩ : ByteArray), .string (⟨#[]⟩ : ByteArray), .string (⟨#[]⟩ : ByteArray), .string (⟨#[]⟩ : ByteArray), .bool false] from (k28_mkM _ _ _ (⟨24, 0, 0, 0, 0, 0, 0, 0, 0, (⟨#[]⟩ : ByteArray), (⟨#[]⟩ : ByteArray), (⟨#[]⟩ : ByteArray), (⟨#[]⟩ : ByteArray), false⟩ : S28) )) rfl (Reps.none _ _) rfl)); intro v171 w21 ho22 hb hg_ hnew_; clear hg_ hnew_; (first | rw [← Ny170.out] at ho22 | (simp only [Int.reduceToNat] at ho22; rw [← Ny170.out] at ho22)); have n0_ := Aside0.mk (Kd.R_lower ho22 (below_size (by repeat (first | (with_reducible first | exact HB.out | apply below_alloc | apply pw_below_drewN | apply below_drew1) | exact HB.out)))); have n1_ := Aside0.mk (below_step (by repeat (first | (with_reducible first | exact HB.out | apply below_alloc | apply pw_below_drewN | apply below_drew1) | exact HB.out)) hb); clear HB; have HO172 := n0_; have HB := n1_; clear n0_ n1_; clear hb ho22; obtain ⟨Ao23, co23, eo23⟩ := Kd.R_slice HO172.out; subst eo23) | ((with_reducible refine gate_callee (f := 17) rfl ?_); refine goesL_ (some 39) rfl rfl Tryz.func17 (by kernel_rfl) rfl #[.slice Ao23 y170.length co23] rfl (by (try simp only [List.map_toArray, List.map_cons, List.map_nil]); first | done | rfl | (simp only [List.length_drop, List.length_take]; rfl)) ?_; (with_reducible refine (given_Text.calls _ _ y170 t173 t174 _ ?side1 ?side2 (LaidW.below hL (by repeat (first | (with_reducible first | exact HB.out | apply below_alloc | apply pw_below_drewN | apply below_drew1) | exact HB.out))) A11.out).mono ?_); (case side1 => repeat (first | exact (Kd.R_reads' HO172.out).2.2 | (with_reducible refine Kd.C_alloc ?_ _) | (with_reducible refine Kd.C_drewN ?_ _) | (with_reducible refine Kd.C_drew ?_))); (case side2 => exact (Kd.R_reads' HO172.out).2.1); rintro e w24 ⟨rfl, hb⟩; refine ⟨_, rfl, ?_⟩; have n0_ := Aside0.mk (Kd.R_below (by (with_reducible repeat (first | apply Kd.R_alloc | apply Kd.R_drewN | apply Kd.R_drew)); exact HO172.out) hb); have n1_ := Aside0.mk (below_step (by repeat (first | (with_reducible first | exact HB.out | apply below_alloc | apply pw_below_drewN | apply below_drew1) | exact HB.out)) hb); clear HO172; clear HB; have HO172 := n0_; have HB := n1_; clear n0_ n1_; (try clear hb); (try clear hb2); (try clear hk); (try clear hi)))
          go_ret
          exact ⟨by first | rfl | (simp [errW_none, errW_some] <;> rfl) | (simp [*, errW_none, errW_some] <;> rfl), by repeat (first | (with_reducible first | exact HB.out | apply below_alloc | apply pw_below_drewN | apply below_drew1) | exact HB.out)⟩
    · rw [if_neg c6] at H
      have c6b0 : (t168 == 0) = false := beq_eq_false_iff_ne.mpr c6
      have c6b1 : (t168 != 0) = true := bne_iff_ne.mpr c6
      obtain ⟨y175, hy175⟩ : ∃ y_ : List (S28), y_ = (([(⟨24, 0, 0, 0, 0, 0, 0, 0, 0, (⟨#[]⟩ : ByteArray), (⟨#[]⟩ : ByteArray), (⟨#[]⟩ : ByteArray), (⟨#[]⟩ : ByteArray), false⟩ : S28)] : List (S28))) := ⟨_, rfl⟩
      replace H : ((given_Text.f y175).bind fun bt178 => (if bt178.1.toList = ([37, 101, 120, 105, 116, 10] : List UInt8) then (some (bt178.2 == 0)) else (some false))) = some r := by first | (rw [hy175]; with_reducible exact H) | (have H2_ := (Option.bind_some _ _).symm.trans H; rw [hy175]; with_reducible exact H2_) | (have H2_ := (Option.bind_some _ _).symm.trans H; with_reducible exact H2_) | with_reducible exact H | (rw [hy175]; exact H) | exact H
      have Ny175 := Aside0.mk hy175
      clear hy175
      replace H := Option.bind_eq_some_iff.mp H
      obtain ⟨⟨t178, t179⟩, A250, H⟩ := H
      replace H : (if t178.toList = ([37, 101, 120, 105, 116, 10] : List UInt8) then (some (t179 == 0)) else (some false)) = some r := H
      have A25 := Aside0.mk A250
      clear A250
      by_cases c26 : t178.toList = ([37, 101, 120, 105, 116, 10] : List UInt8)
      · rw [if_pos c26] at H
        have c26b0 : (t178.toList == ([37, 101, 120, 105, 116, 10] : List UInt8)) = true := beq_iff_eq.mpr c26
        have c26b1 : (t178.toList != ([37, 101, 120, 105, 116, 10] : List UInt8)) = false := bne_eq_false_iff_eq.mpr c26
        clear c26
        obtain rfl := Option.some.inj H
        go_enter Tryz.func3, Tryz.ntmps3
        go_wp2_with (first | ((with_reducible refine gate_callee (f := 17) rfl ?_); refine goesL_ (some 13) rfl rfl Tryz.func17 (by kernel_rfl) rfl #[.slice A0 l0.length c0] rfl (by (try simp only [List.map_toArray, List.map_cons, List.map_nil]); first | done | rfl | (simp only [List.length_drop, List.length_take]; rfl)) ?_; (with_reducible refine (given_Text.calls _ _ l0 t165 t166 _ ?side1 ?side2 (LaidW.below hL (by repeat (first | (with_reducible first | exact HB.out | apply below_alloc | apply pw_below_drewN | apply below_drew1) | exact HB.out))) A3.out).mono ?_); (case side1 => repeat (first | exact HR0.out | (with_reducible refine Kd.C_alloc ?_ _) | (with_reducible refine Kd.C_drewN ?_ _) | (with_reducible refine Kd.C_drew ?_))); (case side2 => exact HC0.out); rintro e w27 ⟨rfl, hb⟩; refine ⟨_, rfl, ?_⟩; have n0_ := Aside0.mk (below_step (by repeat (first | (with_reducible first | exact HB.out | apply below_alloc | apply pw_below_drewN | apply below_drew1) | exact HB.out)) hb); clear HB; have HB := n0_; clear n0_; (try clear hb); (try clear hb2); (try clear hk); (try clear hi)) | ((with_reducible refine gate_callee (f := 17) rfl ?_); refine goesL_ (some 18) rfl rfl Tryz.func17 (by kernel_rfl) rfl #[.slice A1 l1.length c1] rfl (by (try simp only [List.map_toArray, List.map_cons, List.map_nil]); first | done | rfl | (simp only [List.length_drop, List.length_take]; rfl)) ?_; (with_reducible refine (given_Text.calls _ _ l1 t167 t168 _ ?side1 ?side2 (LaidW.below hL (by repeat (first | (with_reducible first | exact HB.out | apply below_alloc | apply pw_below_drewN | apply below_drew1) | exact HB.out))) A4.out).mono ?_); (case side1 => repeat (first | exact (Kd.C_below HR1.out HB.out) | (with_reducible refine Kd.C_alloc ?_ _) | (with_reducible refine Kd.C_drewN ?_ _) | (with_reducible refine Kd.C_drew ?_))); (case side2 => exact HC1.out); rintro e w28 ⟨rfl, hb⟩; refine ⟨_, rfl, ?_⟩; have n0_ := Aside0.mk (below_step (by repeat (first | (with_reducible first | exact HB.out | apply below_alloc | apply pw_below_drewN | apply below_drew1) | exact HB.out)) hb); clear HB; have HB := n0_; clear n0_; (try clear hb); (try clear hb2); (try clear hk); (try clear hi)) | ((with_reducible refine gate_dst (N := 38) rfl ?_); refine Kd.R_lit k28 _ 28 ?hg (N := 38) ?hd (xs := ([(⟨24, 0, 0, 0, 0, 0, 0, 0, 0, (⟨#[]⟩ : ByteArray), (⟨#[]⟩ : ByteArray), (⟨#[]⟩ : ByteArray), (⟨#[]⟩ : ByteArray), false⟩ : S28)] : List (S28))) (inner := [.int .i64 24, .int .i64 0, .int .i64 0, .int .i64 0, .int .i64 0, .int .i64 0, .int .i64 0, .int .i64 0, .int .i64 0, .string (⟨#[]⟩ : ByteArray), .string (⟨#[]⟩ : ByteArray), .string (⟨#[]⟩ : ByteArray), .string (⟨#[]⟩ : ByteArray), .bool false]) (ok := fun _ => True) (okp := fun _ => True) ?hr ?hp (fun _ hk => hk) trivial (Below.refl _ _) (Nat.le_refl _) (by simp) ?_; (case hd => rfl); (case hg => rfl); (case hr => first | (go_simp; done) | (go_simp; rfl)); (case hp => exact (Reps.front (show Kd.M k28 _ _ _ (⟨24, 0, 0, 0, 0, 0, 0, 0, 0, (⟨#[]⟩ : ByteArray), (⟨#[]⟩ : ByteArray), (⟨#[]⟩ : ByteArray), (⟨#[]⟩ : ByteArray), false⟩ : S28) [.int .i64 24, .int .i64 0, .int .i64 0, .int .i64 0, .int .i64 0, .int .i64 0, .int .i64 0, .int .i64 0, .int .i64 0, .string (⟨#[]⟩ : ByteArray), .string (⟨#[]⟩ : ByteArray), .string (⟨#[]⟩ : ByteArray), .string (⟨#[]⟩ : ByteArray), .bool false] from (k28_mkM _ _ _ (⟨24, 0, 0, 0, 0, 0, 0, 0, 0, (⟨#[]⟩ : ByteArray), (⟨#[]⟩ : ByteArray), (⟨#[]⟩ : ByteArray), (⟨#[]⟩ : ByteArray), false⟩ : S28) )) rfl (Reps.none _ _) rfl)); intro v176 w29 ho30 hb hg_ hnew_; clear hg_ hnew_; (first | rw [← Ny175.out] at ho30 | (simp only [Int.reduceToNat] at ho30; rw [← Ny175.out] at ho30)); have n0_ := Aside0.mk (Kd.R_lower ho30 (below_size (by repeat (first | (with_reducible first | exact HB.out | apply below_alloc | apply pw_below_drewN | apply below_drew1) | exact HB.out)))); have n1_ := Aside0.mk (below_step (by repeat (first | (with_reducible first | exact HB.out | apply below_alloc | apply pw_below_drewN | apply below_drew1) | exact HB.out)) hb); clear HB; have HO177 := n0_; have HB := n1_; clear n0_ n1_; clear hb ho30; obtain ⟨Ao31, co31, eo31⟩ := Kd.R_slice HO177.out; subst eo31) | ((with_reducible refine gate_callee (f := 17) rfl ?_); refine goesL_ (some 39) rfl rfl Tryz.func17 (by kernel_rfl) rfl #[.slice Ao31 y175.length co31] rfl (by (try simp only [List.map_toArray, List.map_cons, List.map_nil]); first | done | rfl | (simp only [List.length_drop, List.length_take]; rfl)) ?_; (with_reducible refine (given_Text.calls _ _ y175 t178 t179 _ ?side1 ?side2 (LaidW.below hL (by repeat (first | (with_reducible first | exact HB.out | apply below_alloc | apply pw_below_drewN | apply below_drew1) | exact HB.out))) A25.out).mono ?_); (case side1 => repeat (first | exact (Kd.R_reads' HO177.out).2.2 | (with_reducible refine Kd.C_alloc ?_ _) | (with_reducible refine Kd.C_drewN ?_ _) | (with_reducible refine Kd.C_drew ?_))); (case side2 => exact (Kd.R_reads' HO177.out).2.1); rintro e w32 ⟨rfl, hb⟩; refine ⟨_, rfl, ?_⟩; have n0_ := Aside0.mk (Kd.R_below (by (with_reducible repeat (first | apply Kd.R_alloc | apply Kd.R_drewN | apply Kd.R_drew)); exact HO177.out) hb); have n1_ := Aside0.mk (below_step (by repeat (first | (with_reducible first | exact HB.out | apply below_alloc | apply pw_below_drewN | apply below_drew1) | exact HB.out)) hb); clear HO177; clear HB; have HO177 := n0_; have HB := n1_; clear n0_ n1_; (try clear hb); (try clear hb2); (try clear hk); (try clear hi)))
        go_ret
        exact ⟨by first | rfl | (simp [errW_none, errW_some] <;> rfl) | (simp [*, errW_none, errW_some] <;> rfl), by repeat (first | (with_reducible first | exact HB.out | apply below_alloc | apply pw_below_drewN | apply below_drew1) | exact HB.out)⟩
      · rw [if_neg c26] at H
        have c26b0 : (t178.toList == ([37, 101, 120, 105, 116, 10] : List UInt8)) = false := beq_eq_false_iff_ne.mpr c26
        have c26b1 : (t178.toList != ([37, 101, 120, 105, 116, 10] : List UInt8)) = true := bne_iff_ne.mpr c26
        obtain rfl := Option.some.inj H
        go_enter Tryz.func3, Tryz.ntmps3
        go_wp2_with (first | ((with_reducible refine gate_callee (f := 17) rfl ?_); refine goesL_ (some 13) rfl rfl Tryz.func17 (by kernel_rfl) rfl #[.slice A0 l0.length c0] rfl (by (try simp only [List.map_toArray, List.map_cons, List.map_nil]); first | done | rfl | (simp only [List.length_drop, List.length_take]; rfl)) ?_; (with_reducible refine (given_Text.calls _ _ l0 t165 t166 _ ?side1 ?side2 (LaidW.below hL (by repeat (first | (with_reducible first | exact HB.out | apply below_alloc | apply pw_below_drewN | apply below_drew1) | exact HB.out))) A3.out).mono ?_); (case side1 => repeat (first | exact HR0.out | (with_reducible refine Kd.C_alloc ?_ _) | (with_reducible refine Kd.C_drewN ?_ _) | (with_reducible refine Kd.C_drew ?_))); (case side2 => exact HC0.out); rintro e w33 ⟨rfl, hb⟩; refine ⟨_, rfl, ?_⟩; have n0_ := Aside0.mk (below_step (by repeat (first | (with_reducible first | exact HB.out | apply below_alloc | apply pw_below_drewN | apply below_drew1) | exact HB.out)) hb); clear HB; have HB := n0_; clear n0_; (try clear hb); (try clear hb2); (try clear hk); (try clear hi)) | ((with_reducible refine gate_callee (f := 17) rfl ?_); refine goesL_ (some 18) rfl rfl Tryz.func17 (by kernel_rfl) rfl #[.slice A1 l1.length c1] rfl (by (try simp only [List.map_toArray, List.map_cons, List.map_nil]); first | done | rfl | (simp only [List.length_drop, List.length_take]; rfl)) ?_; (with_reducible refine (given_Text.calls _ _ l1 t167 t168 _ ?side1 ?side2 (LaidW.below hL (by repeat (first | (with_reducible first | exact HB.out | apply below_alloc | apply pw_below_drewN | apply below_drew1) | exact HB.out))) A4.out).mono ?_); (case side1 => repeat (first | exact (Kd.C_below HR1.out HB.out) | (with_reducible refine Kd.C_alloc ?_ _) | (with_reducible refine Kd.C_drewN ?_ _) | (with_reducible refine Kd.C_drew ?_))); (case side2 => exact HC1.out); rintro e w34 ⟨rfl, hb⟩; refine ⟨_, rfl, ?_⟩; have n0_ := Aside0.mk (below_step (by repeat (first | (with_reducible first | exact HB.out | apply below_alloc | apply pw_below_drewN | apply below_drew1) | exact HB.out)) hb); clear HB; have HB := n0_; clear n0_; (try clear hb); (try clear hb2); (try clear hk); (try clear hi)) | ((with_reducible refine gate_dst (N := 38) rfl ?_); refine Kd.R_lit k28 _ 28 ?hg (N := 38) ?hd (xs := ([(⟨24, 0, 0, 0, 0, 0, 0, 0, 0, (⟨#[]⟩ : ByteArray), (⟨#[]⟩ : ByteArray), (⟨#[]⟩ : ByteArray), (⟨#[]⟩ : ByteArray), false⟩ : S28)] : List (S28))) (inner := [.int .i64 24, .int .i64 0, .int .i64 0, .int .i64 0, .int .i64 0, .int .i64 0, .int .i64 0, .int .i64 0, .int .i64 0, .string (⟨#[]⟩ : ByteArray), .string (⟨#[]⟩ : ByteArray), .string (⟨#[]⟩ : ByteArray), .string (⟨#[]⟩ : ByteArray), .bool false]) (ok := fun _ => True) (okp := fun _ => True) ?hr ?hp (fun _ hk => hk) trivial (Below.refl _ _) (Nat.le_refl _) (by simp) ?_; (case hd => rfl); (case hg => rfl); (case hr => first | (go_simp; done) | (go_simp; rfl)); (case hp => exact (Reps.front (show Kd.M k28 _ _ _ (⟨24, 0, 0, 0, 0, 0, 0, 0, 0, (⟨#[]⟩ : ByteArray), (⟨#[]⟩ : ByteArray), (⟨#[]⟩ : ByteArray), (⟨#[]⟩ : ByteArray), false⟩ : S28) [.int .i64 24, .int .i64 0, .int .i64 0, .int .i64 0, .int .i64 0, .int .i64 0, .int .i64 0, .int .i64 0, .int .i64 0, .string (⟨#[]⟩ : ByteArray), .string (⟨#[]⟩ : ByteArray), .string (⟨#[]⟩ : ByteArray), .string (⟨#[]⟩ : ByteArray), .bool false] from (k28_mkM _ _ _ (⟨24, 0, 0, 0, 0, 0, 0, 0, 0, (⟨#[]⟩ : ByteArray), (⟨#[]⟩ : ByteArray), (⟨#[]⟩ : ByteArray), (⟨#[]⟩ : ByteArray), false⟩ : S28) )) rfl (Reps.none _ _) rfl)); intro v176 w35 ho36 hb hg_ hnew_; clear hg_ hnew_; (first | rw [← Ny175.out] at ho36 | (simp only [Int.reduceToNat] at ho36; rw [← Ny175.out] at ho36)); have n0_ := Aside0.mk (Kd.R_lower ho36 (below_size (by repeat (first | (with_reducible first | exact HB.out | apply below_alloc | apply pw_below_drewN | apply below_drew1) | exact HB.out)))); have n1_ := Aside0.mk (below_step (by repeat (first | (with_reducible first | exact HB.out | apply below_alloc | apply pw_below_drewN | apply below_drew1) | exact HB.out)) hb); clear HB; have HO177 := n0_; have HB := n1_; clear n0_ n1_; clear hb ho36; obtain ⟨Ao37, co37, eo37⟩ := Kd.R_slice HO177.out; subst eo37) | ((with_reducible refine gate_callee (f := 17) rfl ?_); refine goesL_ (some 39) rfl rfl Tryz.func17 (by kernel_rfl) rfl #[.slice Ao37 y175.length co37] rfl (by (try simp only [List.map_toArray, List.map_cons, List.map_nil]); first | done | rfl | (simp only [List.length_drop, List.length_take]; rfl)) ?_; (with_reducible refine (given_Text.calls _ _ y175 t178 t179 _ ?side1 ?side2 (LaidW.below hL (by repeat (first | (with_reducible first | exact HB.out | apply below_alloc | apply pw_below_drewN | apply below_drew1) | exact HB.out))) A25.out).mono ?_); (case side1 => repeat (first | exact (Kd.R_reads' HO177.out).2.2 | (with_reducible refine Kd.C_alloc ?_ _) | (with_reducible refine Kd.C_drewN ?_ _) | (with_reducible refine Kd.C_drew ?_))); (case side2 => exact (Kd.R_reads' HO177.out).2.1); rintro e w38 ⟨rfl, hb⟩; refine ⟨_, rfl, ?_⟩; have n0_ := Aside0.mk (Kd.R_below (by (with_reducible repeat (first | apply Kd.R_alloc | apply Kd.R_drewN | apply Kd.R_drew)); exact HO177.out) hb); have n1_ := Aside0.mk (below_step (by repeat (first | (with_reducible first | exact HB.out | apply below_alloc | apply pw_below_drewN | apply below_drew1) | exact HB.out)) hb); clear HO177; clear HB; have HO177 := n0_; have HB := n1_; clear n0_ n1_; (try clear hb); (try clear hb2); (try clear hk); (try clear hi)))
        go_ret
        exact ⟨by first | rfl | (simp [errW_none, errW_some] <;> rfl) | (simp [*, errW_none, errW_some] <;> rfl), by repeat (first | (with_reducible first | exact HB.out | apply below_alloc | apply pw_below_drewN | apply below_drew1) | exact HB.out)⟩
  · rw [if_neg c5] at H
    have c5b0 : (t166 == 0) = false := beq_eq_false_iff_ne.mpr c5
    have c5b1 : (t166 != 0) = true := bne_iff_ne.mpr c5
    obtain ⟨y180, hy180⟩ : ∃ y_ : List (S28), y_ = (([(⟨24, 0, 0, 0, 0, 0, 0, 0, 0, (⟨#[]⟩ : ByteArray), (⟨#[]⟩ : ByteArray), (⟨#[]⟩ : ByteArray), (⟨#[]⟩ : ByteArray), false⟩ : S28)] : List (S28))) := ⟨_, rfl⟩
    replace H : ((given_Text.f y180).bind fun bt183 => (if bt183.1.toList = ([37, 101, 120, 105, 116, 10] : List UInt8) then (some (bt183.2 == 0)) else (some false))) = some r := by first | (rw [hy180]; with_reducible exact H) | (have H2_ := (Option.bind_some _ _).symm.trans H; rw [hy180]; with_reducible exact H2_) | (have H2_ := (Option.bind_some _ _).symm.trans H; with_reducible exact H2_) | with_reducible exact H | (rw [hy180]; exact H) | exact H
    have Ny180 := Aside0.mk hy180
    clear hy180
    replace H := Option.bind_eq_some_iff.mp H
    obtain ⟨⟨t183, t184⟩, A390, H⟩ := H
    replace H : (if t183.toList = ([37, 101, 120, 105, 116, 10] : List UInt8) then (some (t184 == 0)) else (some false)) = some r := H
    have A39 := Aside0.mk A390
    clear A390
    by_cases c40 : t183.toList = ([37, 101, 120, 105, 116, 10] : List UInt8)
    · rw [if_pos c40] at H
      have c40b0 : (t183.toList == ([37, 101, 120, 105, 116, 10] : List UInt8)) = true := beq_iff_eq.mpr c40
      have c40b1 : (t183.toList != ([37, 101, 120, 105, 116, 10] : List UInt8)) = false := bne_eq_false_iff_eq.mpr c40
      clear c40
      obtain rfl := Option.some.inj H
      go_enter Tryz.func3, Tryz.ntmps3
      go_wp2_with (first | ((with_reducible refine gate_callee (f := 17) rfl ?_); refine goesL_ (some 13) rfl rfl Tryz.func17 (by kernel_rfl) rfl #[.slice A0 l0.length c0] rfl (by (try simp only [List.map_toArray, List.map_cons, List.map_nil]); first | done | rfl | (simp only [List.length_drop, List.length_take]; rfl)) ?_; (with_reducible refine (given_Text.calls _ _ l0 t165 t166 _ ?side1 ?side2 (LaidW.below hL (by repeat (first | (with_reducible first | exact HB.out | apply below_alloc | apply pw_below_drewN | apply below_drew1) | exact HB.out))) A3.out).mono ?_); (case side1 => repeat (first | exact HR0.out | (with_reducible refine Kd.C_alloc ?_ _) | (with_reducible refine Kd.C_drewN ?_ _) | (with_reducible refine Kd.C_drew ?_))); (case side2 => exact HC0.out); rintro e w41 ⟨rfl, hb⟩; refine ⟨_, rfl, ?_⟩; have n0_ := Aside0.mk (below_step (by repeat (first | (with_reducible first | exact HB.out | apply below_alloc | apply pw_below_drewN | apply below_drew1) | exact HB.out)) hb); clear HB; have HB := n0_; clear n0_; (try clear hb); (try clear hb2); (try clear hk); (try clear hi)) | ((with_reducible refine gate_callee (f := 17) rfl ?_); refine goesL_ (some 18) rfl rfl Tryz.func17 (by kernel_rfl) rfl #[.slice A1 l1.length c1] rfl (by (try simp only [List.map_toArray, List.map_cons, List.map_nil]); first | done | rfl | (simp only [List.length_drop, List.length_take]; rfl)) ?_; (with_reducible refine (given_Text.calls _ _ l1 t167 t168 _ ?side1 ?side2 (LaidW.below hL (by repeat (first | (with_reducible first | exact HB.out | apply below_alloc | apply pw_below_drewN | apply below_drew1) | exact HB.out))) A4.out).mono ?_); (case side1 => repeat (first | exact (Kd.C_below HR1.out HB.out) | (with_reducible refine Kd.C_alloc ?_ _) | (with_reducible refine Kd.C_drewN ?_ _) | (with_reducible refine Kd.C_drew ?_))); (case side2 => exact HC1.out); rintro e w42 ⟨rfl, hb⟩; refine ⟨_, rfl, ?_⟩; have n0_ := Aside0.mk (below_step (by repeat (first | (with_reducible first | exact HB.out | apply below_alloc | apply pw_below_drewN | apply below_drew1) | exact HB.out)) hb); clear HB; have HB := n0_; clear n0_; (try clear hb); (try clear hb2); (try clear hk); (try clear hi)) | ((with_reducible refine gate_dst (N := 38) rfl ?_); refine Kd.R_lit k28 _ 28 ?hg (N := 38) ?hd (xs := ([(⟨24, 0, 0, 0, 0, 0, 0, 0, 0, (⟨#[]⟩ : ByteArray), (⟨#[]⟩ : ByteArray), (⟨#[]⟩ : ByteArray), (⟨#[]⟩ : ByteArray), false⟩ : S28)] : List (S28))) (inner := [.int .i64 24, .int .i64 0, .int .i64 0, .int .i64 0, .int .i64 0, .int .i64 0, .int .i64 0, .int .i64 0, .int .i64 0, .string (⟨#[]⟩ : ByteArray), .string (⟨#[]⟩ : ByteArray), .string (⟨#[]⟩ : ByteArray), .string (⟨#[]⟩ : ByteArray), .bool false]) (ok := fun _ => True) (okp := fun _ => True) ?hr ?hp (fun _ hk => hk) trivial (Below.refl _ _) (Nat.le_refl _) (by simp) ?_; (case hd => rfl); (case hg => rfl); (case hr => first | (go_simp; done) | (go_simp; rfl)); (case hp => exact (Reps.front (show Kd.M k28 _ _ _ (⟨24, 0, 0, 0, 0, 0, 0, 0, 0, (⟨#[]⟩ : ByteArray), (⟨#[]⟩ : ByteArray), (⟨#[]⟩ : ByteArray), (⟨#[]⟩ : ByteArray), false⟩ : S28) [.int .i64 24, .int .i64 0, .int .i64 0, .int .i64 0, .int .i64 0, .int .i64 0, .int .i64 0, .int .i64 0, .int .i64 0, .string (⟨#[]⟩ : ByteArray), .string (⟨#[]⟩ : ByteArray), .string (⟨#[]⟩ : ByteArray), .string (⟨#[]⟩ : ByteArray), .bool false] from (k28_mkM _ _ _ (⟨24, 0, 0, 0, 0, 0, 0, 0, 0, (⟨#[]⟩ : ByteArray), (⟨#[]⟩ : ByteArray), (⟨#[]⟩ : ByteArray), (⟨#[]⟩ : ByteArray), false⟩ : S28) )) rfl (Reps.none _ _) rfl)); intro v181 w43 ho44 hb hg_ hnew_; clear hg_ hnew_; (first | rw [← Ny180.out] at ho44 | (simp only [Int.reduceToNat] at ho44; rw [← Ny180.out] at ho44)); have n0_ := Aside0.mk (Kd.R_lower ho44 (below_size (by repeat (first | (with_reducible first | exact HB.out | apply below_alloc | apply pw_below_drewN | apply below_drew1) | exact HB.out)))); have n1_ := Aside0.mk (below_step (by repeat (first | (with_reducible first | exact HB.out | apply below_alloc | apply pw_below_drewN | apply below_drew1) | exact HB.out)) hb); clear HB; have HO182 := n0_; have HB := n1_; clear n0_ n1_; clear hb ho44; obtain ⟨Ao45, co45, eo45⟩ := Kd.R_slice HO182.out; subst eo45) | ((with_reducible refine gate_callee (f := 17) rfl ?_); refine goesL_ (some 39) rfl rfl Tryz.func17 (by kernel_rfl) rfl #[.slice Ao45 y180.length co45] rfl (by (try simp only [List.map_toArray, List.map_cons, List.map_nil]); first | done | rfl | (simp only [List.length_drop, List.length_take]; rfl)) ?_; (with_reducible refine (given_Text.calls _ _ y180 t183 t184 _ ?side1 ?side2 (LaidW.below hL (by repeat (first | (with_reducible first | exact HB.out | apply below_alloc | apply pw_below_drewN | apply below_drew1) | exact HB.out))) A39.out).mono ?_); (case side1 => repeat (first | exact (Kd.R_reads' HO182.out).2.2 | (with_reducible refine Kd.C_alloc ?_ _) | (with_reducible refine Kd.C_drewN ?_ _) | (with_reducible refine Kd.C_drew ?_))); (case side2 => exact (Kd.R_reads' HO182.out).2.1); rintro e w46 ⟨rfl, hb⟩; refine ⟨_, rfl, ?_⟩; have n0_ := Aside0.mk (Kd.R_below (by (with_reducible repeat (first | apply Kd.R_alloc | apply Kd.R_drewN | apply Kd.R_drew)); exact HO182.out) hb); have n1_ := Aside0.mk (below_step (by repeat (first | (with_reducible first | exact HB.out | apply below_alloc | apply pw_below_drewN | apply below_drew1) | exact HB.out)) hb); clear HO182; clear HB; have HO182 := n0_; have HB := n1_; clear n0_ n1_; (try clear hb); (try clear hb2); (try clear hk); (try clear hi)))
      go_ret
      exact ⟨by first | rfl | (simp [errW_none, errW_some] <;> rfl) | (simp [*, errW_none, errW_some] <;> rfl), by repeat (first | (with_reducible first | exact HB.out | apply below_alloc | apply pw_below_drewN | apply below_drew1) | exact HB.out)⟩
    · rw [if_neg c40] at H
      have c40b0 : (t183.toList == ([37, 101, 120, 105, 116, 10] : List UInt8)) = false := beq_eq_false_iff_ne.mpr c40
      have c40b1 : (t183.toList != ([37, 101, 120, 105, 116, 10] : List UInt8)) = true := bne_iff_ne.mpr c40
      obtain rfl := Option.some.inj H
      go_enter Tryz.func3, Tryz.ntmps3
      go_wp2_with (first | ((with_reducible refine gate_callee (f := 17) rfl ?_); refine goesL_ (some 13) rfl rfl Tryz.func17 (by kernel_rfl) rfl #[.slice A0 l0.length c0] rfl (by (try simp only [List.map_toArray, List.map_cons, List.map_nil]); first | done | rfl | (simp only [List.length_drop, List.length_take]; rfl)) ?_; (with_reducible refine (given_Text.calls _ _ l0 t165 t166 _ ?side1 ?side2 (LaidW.below hL (by repeat (first | (with_reducible first | exact HB.out | apply below_alloc | apply pw_below_drewN | apply below_drew1) | exact HB.out))) A3.out).mono ?_); (case side1 => repeat (first | exact HR0.out | (with_reducible refine Kd.C_alloc ?_ _) | (with_reducible refine Kd.C_drewN ?_ _) | (with_reducible refine Kd.C_drew ?_))); (case side2 => exact HC0.out); rintro e w47 ⟨rfl, hb⟩; refine ⟨_, rfl, ?_⟩; have n0_ := Aside0.mk (below_step (by repeat (first | (with_reducible first | exact HB.out | apply below_alloc | apply pw_below_drewN | apply below_drew1) | exact HB.out)) hb); clear HB; have HB := n0_; clear n0_; (try clear hb); (try clear hb2); (try clear hk); (try clear hi)) | ((with_reducible refine gate_callee (f := 17) rfl ?_); refine goesL_ (some 18) rfl rfl Tryz.func17 (by kernel_rfl) rfl #[.slice A1 l1.length c1] rfl (by (try simp only [List.map_toArray, List.map_cons, List.map_nil]); first | done | rfl | (simp only [List.length_drop, List.length_take]; rfl)) ?_; (with_reducible refine (given_Text.calls _ _ l1 t167 t168 _ ?side1 ?side2 (LaidW.below hL (by repeat (first | (with_reducible first | exact HB.out | apply below_alloc | apply pw_below_drewN | apply below_drew1) | exact HB.out))) A4.out).mono ?_); (case side1 => repeat (first | exact (Kd.C_below HR1.out HB.out) | (with_reducible refine Kd.C_alloc ?_ _) | (with_reducible refine Kd.C_drewN ?_ _) | (with_reducible refine Kd.C_drew ?_))); (case side2 => exact HC1.out); rintro e w48 ⟨rfl, hb⟩; refine ⟨_, rfl, ?_⟩; have n0_ := Aside0.mk (below_step (by repeat (first | (with_reducible first | exact HB.out | apply below_alloc | apply pw_below_drewN | apply below_drew1) | exact HB.out)) hb); clear HB; have HB := n0_; clear n0_; (try clear hb); (try clear hb2); (try clear hk); (try clear hi)) | ((with_reducible refine gate_dst (N := 38) rfl ?_); refine Kd.R_lit k28 _ 28 ?hg (N := 38) ?hd (xs := ([(⟨24, 0, 0, 0, 0, 0, 0, 0, 0, (⟨#[]⟩ : ByteArray), (⟨#[]⟩ : ByteArray), (⟨#[]⟩ : ByteArray), (⟨#[]⟩ : ByteArray), false⟩ : S28)] : List (S28))) (inner := [.int .i64 24, .int .i64 0, .int .i64 0, .int .i64 0, .int .i64 0, .int .i64 0, .int .i64 0, .int .i64 0, .int .i64 0, .string (⟨#[]⟩ : ByteArray), .string (⟨#[]⟩ : ByteArray), .string (⟨#[]⟩ : ByteArray), .string (⟨#[]⟩ : ByteArray), .bool false]) (ok := fun _ => True) (okp := fun _ => True) ?hr ?hp (fun _ hk => hk) trivial (Below.refl _ _) (Nat.le_refl _) (by simp) ?_; (case hd => rfl); (case hg => rfl); (case hr => first | (go_simp; done) | (go_simp; rfl)); (case hp => exact (Reps.front (show Kd.M k28 _ _ _ (⟨24, 0, 0, 0, 0, 0, 0, 0, 0, (⟨#[]⟩ : ByteArray), (⟨#[]⟩ : ByteArray), (⟨#[]⟩ : ByteArray), (⟨#[]⟩ : ByteArray), false⟩ : S28) [.int .i64 24, .int .i64 0, .int .i64 0, .int .i64 0, .int .i64 0, .int .i64 0, .int .i64 0, .int .i64 0, .int .i64 0, .string (⟨#[]⟩ : ByteArray), .string (⟨#[]⟩ : ByteArray), .string (⟨#[]⟩ : ByteArray), .string (⟨#[]⟩ : ByteArray), .bool false] from (k28_mkM _ _ _ (⟨24, 0, 0, 0, 0, 0, 0, 0, 0, (⟨#[]⟩ : ByteArray), (⟨#[]⟩ : ByteArray), (⟨#[]⟩ : ByteArray), (⟨#[]⟩ : ByteArray), false⟩ : S28) )) rfl (Reps.none _ _) rfl)); intro v181 w49 ho50 hb hg_ hnew_; clear hg_ hnew_; (first | rw [← Ny180.out] at ho50 | (simp only [Int.reduceToNat] at ho50; rw [← Ny180.out] at ho50)); have n0_ := Aside0.mk (Kd.R_lower ho50 (below_size (by repeat (first | (with_reducible first | exact HB.out | apply below_alloc | apply pw_below_drewN | apply below_drew1) | exact HB.out)))); have n1_ := Aside0.mk (below_step (by repeat (first | (with_reducible first | exact HB.out | apply below_alloc | apply pw_below_drewN | apply below_drew1) | exact HB.out)) hb); clear HB; have HO182 := n0_; have HB := n1_; clear n0_ n1_; clear hb ho50; obtain ⟨Ao51, co51, eo51⟩ := Kd.R_slice HO182.out; subst eo51) | ((with_reducible refine gate_callee (f := 17) rfl ?_); refine goesL_ (some 39) rfl rfl Tryz.func17 (by kernel_rfl) rfl #[.slice Ao51 y180.length co51] rfl (by (try simp only [List.map_toArray, List.map_cons, List.map_nil]); first | done | rfl | (simp only [List.length_drop, List.length_take]; rfl)) ?_; (with_reducible refine (given_Text.calls _ _ y180 t183 t184 _ ?side1 ?side2 (LaidW.below hL (by repeat (first | (with_reducible first | exact HB.out | apply below_alloc | apply pw_below_drewN | apply below_drew1) | exact HB.out))) A39.out).mono ?_); (case side1 => repeat (first | exact (Kd.R_reads' HO182.out).2.2 | (with_reducible refine Kd.C_alloc ?_ _) | (with_reducible refine Kd.C_drewN ?_ _) | (with_reducible refine Kd.C_drew ?_))); (case side2 => exact (Kd.R_reads' HO182.out).2.1); rintro e w52 ⟨rfl, hb⟩; refine ⟨_, rfl, ?_⟩; have n0_ := Aside0.mk (Kd.R_below (by (with_reducible repeat (first | apply Kd.R_alloc | apply Kd.R_drewN | apply Kd.R_drew)); exact HO182.out) hb); have n1_ := Aside0.mk (below_step (by repeat (first | (with_reducible first | exact HB.out | apply below_alloc | apply pw_below_drewN | apply below_drew1) | exact HB.out)) hb); clear HO182; clear HB; have HO182 := n0_; have HB := n1_; clear n0_ n1_; (try clear hb); (try clear hb2); (try clear hk); (try clear hi)))
      go_ret
      exact ⟨by first | rfl | (simp [errW_none, errW_some] <;> rfl) | (simp [*, errW_none, errW_some] <;> rfl), by repeat (first | (with_reducible first | exact HB.out | apply below_alloc | apply pw_below_drewN | apply below_drew1) | exact HB.out)⟩

end Go.Proofs.YtnblabfkkcohgaaGreatDoor.PLwB
end
section
-- Printed by a program of this session (wip/fork) out of the translation. Lean checks it.
namespace Go.Proofs.YtnblabfkkcohgaaGreatDoor.PLwB
open Go.Proofs.YtnblabfkkcohgaaGreatDoor.LawG Go.Proofs.YtnblabfkkcohgaaGreatDoor.CutG Go.Proofs.YtnblabfkkcohgaaGreatDoor.Given Go.Proofs.YtnblabfkkcohgaaGreatDoor.TxtG
open Go.RowKit Go.Proofs.YtnblabfkkcohgaaGreatDoorW.PrintWords Go.Proofs.YtnblabfkkcohgaaGreatDoorW.PrintLast Go.Proofs.YtnblabfkkcohgaaGreatDoorW.PrintMore
attribute [local go_sem] max2_int min2_int max_two min_two max_three min_three max_four min_four   -- for this text's walks alone
open Go.Proofs.YtnblabfkkcohgaaGreatDoor.PWireOne (S28 z28 k28 k28_open k28_mk k28_mkM rd_T28 at_T28)
set_option linter.unusedVariables false
set_option linter.unusedSimpArgs false
attribute [local go_sem high] field28

end Go.Proofs.YtnblabfkkcohgaaGreatDoor.PLwB
end
section
/- WireLists, WireOne: what the laws reckon is true. -/
namespace Go.Proofs.YtnblabfkkcohgaaGreatDoor.LawR
set_option linter.unusedVariables false
set_option linter.unusedSimpArgs false
open Go Go.Shelf Go.RowKit Go.Proofs.YtnblabfkkcohgaaGreatDoor.Wire Go.Proofs.YtnblabfkkcohgaaGreatDoor.LawG Go.Proofs.YtnblabfkkcohgaaGreatDoor.CutG Go.Proofs.YtnblabfkkcohgaaGreatDoor.Given Go.Proofs.YtnblabfkkcohgaaGreatDoor.LawP
open Go.Proofs.YtnblabfkkcohgaaGreatDoor.TxtG
open Go.Proofs.YtnblabfkkcohgaaGreatDoor.PWireOne (S28 k28 z28 rd_T28)
open Go.Proofs.YtnblabfkkcohgaaGreatDoor.PLwB
def toS (e : Evt) : S28 := ⟨e.kind, e.session, e.window, e.pane, e.index, e.offset, e.tick, e.number, e.flag, e.name, e.text, e.layout, e.visible, e.zoom⟩
theorem ev_toS (e : Evt) : evOf (toS e) = e := rfl
theorem events_loop : ∀ (n : Nat) (l : List UInt8) (acc : List S28), l.length ≤ n → l.length ≤ 1099511627776 → acc.length + l.length < 977343669134 → wire_Events.l0 (n + 1) (ofL l) acc = some (acc ++ (evsN l).1.map toS, ofL (evsN l).2) := by
  intro n
  induction n with
  | zero =>
    intro l acc hn hs ha
    obtain rfl : l = [] := List.length_eq_zero_iff.1 (by omega)
    unfold wire_Events.l0 given_Cut.f
    rw [if_pos (by rw [ofL_size]; simp)]
    simp [cutN, evsN, evF, ofL_data]
  | succ n ih =>
    intro l acc hn hs ha
    unfold wire_Events.l0 given_Cut.f
    rw [if_pos (by rw [ofL_size]; omega)]
    simp only [ofL_data, Option.bind_some]
    rcases cut_split 10 l with h | ⟨a, r, rfl, hna⟩
    · rw [cutN_all h, evs_end h]
      simp
    · simp only [List.length_append, List.length_cons] at hn hs ha
      rw [cutN_app hna, evs_cons hna]
      simp only [if_pos]
      rw [dec_val (by rw [ofL_size]; omega)]
      simp only [Option.bind_some]
      rw [if_pos (by omega), ih r _ (by omega) (by omega) (by rw [List.length_append]; simp; omega)]
      simp [toS]
theorem events_val (s : ByteArray) (hs : s.size ≤ 1099511627775 / 2) (n : Nat) (hn : s.size ≤ n) : wire_Events.f (n + 1) s = some ((evsN s.data.toList).1.map toS, ofL (evsN s.data.toList).2) := by
  unfold wire_Events.f
  have := events_loop n s.data.toList [] (by rw [dlen]; exact hn) (by rw [dlen]; omega) (by rw [dlen]; simp; omega)
  rw [ofL_list] at this
  rw [this]
  rfl
theorem s28_ne (x y : S28) : (!(x.f0 == y.f0) || (!(x.f1 == y.f1) || (!(x.f2 == y.f2) || (!(x.f3 == y.f3) || (!(x.f4 == y.f4) || (!(x.f5 == y.f5) || (!(x.f6 == y.f6) || (!(x.f7 == y.f7) || (!(x.f8 == y.f8) || (!(x.f9.toList == y.f9.toList) || (!(x.f10.toList == y.f10.toList) || (!(x.f11.toList == y.f11.toList) || (!(x.f12.toList == y.f12.toList) || (!(x.f13 == y.f13))))))))))))))) = decide (evOf x ≠ evOf y) := by
  simp only [list_beq, int_beq, bool_beq, evOf, ne_eq, Evt.mk.injEq]
  rw [Bool.eq_iff_iff]
  simp only [Bool.or_eq_true, Bool.not_eq_true', decide_eq_false_iff_not, decide_eq_true_eq, Classical.not_and_iff_not_or_not]
theorem same_loop : ∀ (d : Nat) (a b : List S28) (x : Int), 0 ≤ x → x.toNat + d = a.length → a.length = b.length → a.length ≤ 1099511627776 → mullionlaw03_same.l0 (d + 1) a b x = some (decide ((a.drop x.toNat).map evOf = (b.drop x.toNat).map evOf)) := by
  intro d
  induction d with
  | zero =>
    intro a b x h0 hd hl hs
    unfold mullionlaw03_same.l0
    rw [if_neg (by omega), List.drop_eq_nil_of_le (by omega), List.drop_eq_nil_of_le (by omega)]
    simp
  | succ d ih =>
    intro a b x h0 hd hl hs
    have e1 := drop_rd (l := a) h0 (by omega)
    have e2 := drop_rd (l := b) h0 (by omega)
    unfold mullionlaw03_same.l0
    rw [if_pos (by omega), if_pos h0, if_pos (by omega), s28_ne, e1, e2]
    by_cases he : evOf (rd_T28 a x) = evOf (rd_T28 b x)
    · rw [if_neg (by simp [he]), wrap_in (by omega) (by omega), ih a b (x + 1) (by omega) (by omega) hl hs, he]
      rw [show (x + 1).toNat = x.toNat + 1 by omega]
      simp
    · rw [if_pos (by simp [he])]
      simp [he]
theorem same_val (a b : List S28) (hs : a.length ≤ 1099511627776) (n : Nat) (hn : a.length ≤ n) : ∃ k, k ≤ n + 1 ∧ mullionlaw03_same.f k a b = some (decide (a.map evOf = b.map evOf)) := by
  by_cases hl : a.length = b.length
  · refine ⟨a.length + 1, by omega, ?_⟩
    unfold mullionlaw03_same.f
    rw [if_pos (by omega), same_loop a.length a b 0 (Int.le_refl _) (by simp) hl hs]
    rfl
  · refine ⟨0, by omega, ?_⟩
    unfold mullionlaw03_same.f
    rw [if_neg (by omega)]
    have : ¬ a.map evOf = b.map evOf := fun e => hl (by simpa using congrArg List.length e)
    simp [this]
theorem same_more (a b : List S28) (hs : a.length ≤ 1099511627776) (n : Nat) (hn : a.length + 1 ≤ n) : mullionlaw03_same.f n a b = some (decide (a.map evOf = b.map evOf)) := by
  obtain ⟨k, hk, h⟩ := same_val a b hs a.length (Nat.le_refl _)
  obtain ⟨d, rfl⟩ : ∃ d, n = k + d := ⟨n - k, by omega⟩
  clear hk hn
  induction d with
  | zero => exact h
  | succ d ih => exact mullionlaw03_same.mono a b (k + d) _ ih
theorem sureV : mullionlaw03_sure.f = some true := LawP.sure_val
theorem map_toS (l : List Evt) : (l.map toS).map evOf = l := by
  rw [List.map_map]
  simp [Function.comp_def, ev_toS]
theorem text_val {l : List S28} (h : l.all smallE = true) (hl : l.length ≤ 1048576) : given_Text.f l = some (textN (l.map evOf) []) := by
  unfold given_Text.f
  rw [if_pos ⟨h, hl⟩]
theorem exit_text : given_Text.f [(⟨24, 0, 0, 0, 0, 0, 0, 0, 0, (⟨#[]⟩ : ByteArray), (⟨#[]⟩ : ByteArray), (⟨#[]⟩ : ByteArray), (⟨#[]⟩ : ByteArray), false⟩ : S28)] = some (ofL [37, 101, 120, 105, 116, 10], 0) := by
  rw [text_val (by decide) (by decide)]
  have e : encN (bareEv 24) = (kwN 24, 0) := by decide +kernel
  have k : (kwN 24).data.toList = [37, 101, 120, 105, 116] := by decide +kernel
  show some (textN [bareEv 24] []) = _
  unfold textN
  rw [if_pos (by rw [e]), e]
  unfold textN
  rw [k]
  rfl
theorem textN_eq {a b : List Evt} (ha : (textN a []).2 = 0) (hb : (textN b []).2 = 0) (h : (textN a []).1 = (textN b []).1) : a = b := by
  have h1 := evs_text ha
  have h2 := evs_text hb
  rw [h, h2] at h1
  exact (Prod.mk.inj h1).1.symm
theorem one_val {a b : List S28} (ha : a.all smallE = true) (hb : b.all smallE = true) (la : a.length ≤ 1048576) (lb : b.length ≤ 1048576) : mullionlaw03_WireOne.f 1048577 a b = some true := by
  unfold mullionlaw03_WireOne.f
  rw [text_val ha la, text_val hb lb]
  simp only [Option.bind_some, exit_text, ofL_toList, if_pos]
  by_cases h1 : (textN (a.map evOf) []).2 = 0
  · rw [if_pos h1]
    by_cases h2 : (textN (b.map evOf) []).2 = 0
    · rw [if_pos h2, same_more a b (by omega) _ (by omega)]
      simp only [Option.bind_some]
      have : ((textN (a.map evOf) []).1.toList == (textN (b.map evOf) []).1.toList) = decide (a.map evOf = b.map evOf) := by
        rw [list_beq]
        by_cases he : a.map evOf = b.map evOf
        · simp [he]
        · have : ¬ (textN (a.map evOf) []).1 = (textN (b.map evOf) []).1 := fun e => he (textN_eq h1 h2 e)
          simp [he, this]
      rw [this]
      simp
    · rw [if_neg h2]
      simp
  · rw [if_neg h1]
    simp
theorem one_calls {w : World} (hL : LaidW w) (A : Option Addr) (c : Nat) (a : List S28) (hC : Proofs.YtnblabfkkcohgaaGreatDoorW.PrintWords.Kd.C k28 w A a.length a) (hc : a.length ≤ c) (ha : a.all smallE = true) (la : a.length ≤ 1048576)
    (B : Option Addr) (d : Nat) (b : List S28) (hD : Proofs.YtnblabfkkcohgaaGreatDoorW.PrintWords.Kd.C k28 w B b.length b) (hd : b.length ≤ d) (hb : b.all smallE = true) (lb : b.length ≤ 1048576) :
    Calls Tryz.prog 3 #[.slice A a.length c, .slice B b.length d] w fun r w' => r = .returned (.bool true) ∧ Below w.heap.size w w' :=
  mullionlaw03_WireOne.calls 1048577 A c a B d b true w hC hc hD hd hL (one_val ha hb la lb)
end Go.Proofs.YtnblabfkkcohgaaGreatDoor.LawR
end
section
/- WireLists: what the law reckons is true. -/
namespace Go.Proofs.YtnblabfkkcohgaaGreatDoor.LawR
set_option linter.unusedVariables false
set_option linter.unusedSimpArgs false
open Go Go.Shelf Go.RowKit Go.Proofs.YtnblabfkkcohgaaGreatDoor.Wire Go.Proofs.YtnblabfkkcohgaaGreatDoor.LawG Go.Proofs.YtnblabfkkcohgaaGreatDoor.CutG Go.Proofs.YtnblabfkkcohgaaGreatDoor.Given Go.Proofs.YtnblabfkkcohgaaGreatDoor.LawP
open Go.Proofs.YtnblabfkkcohgaaGreatDoor.TxtG
open Go.Proofs.YtnblabfkkcohgaaGreatDoor.PWireOne (S28 k28 z28 rd_T28)
open Go.Proofs.YtnblabfkkcohgaaGreatDoor.PLwB
theorem rd_at {l : List S28} {i : Nat} {e : Evt} (h : (l.map evOf)[i]? = some e) : evOf (rd_T28 l (i : Int)) = e ∧ i < l.length := by
  rw [List.getElem?_map] at h
  obtain ⟨x, hx, rfl⟩ := Option.map_eq_some_iff.1 h
  refine ⟨?_, (List.getElem?_eq_some_iff.1 hx).1⟩
  unfold rd_T28
  rw [List.getD_eq_getElem?_getD, Int.toNat_natCast, hx]
  rfl
theorem enc_rd {l : List S28} (hs : l.all smallE = true) (x : Int) : given_Encode.f (rd_T28 l x).f0 (rd_T28 l x).f1 (rd_T28 l x).f2 (rd_T28 l x).f3 (rd_T28 l x).f4 (rd_T28 l x).f5 (rd_T28 l x).f6 (rd_T28 l x).f7 (rd_T28 l x).f8 (rd_T28 l x).f9 (rd_T28 l x).f10 (rd_T28 l x).f11 (rd_T28 l x).f12 (rd_T28 l x).f13 = some (encN (evOf (rd_T28 l x))) :=
  enc_val (e := evOf (rd_T28 l x)) (rd_small hs x) (by omega)
theorem lists_bad {l : List S28} (hs : l.all smallE = true) (hl : l.length ≤ 1048576) {i : Nat} (hi : i < l.length) (he : (encN (evOf (rd_T28 l (i : Int)))).2 ≠ 0) : ∀ (d : Nat) (x : Int), 0 ≤ x → x.toNat + d = i → mullionlaw03_WireLists.l0 (d + 1) l x = some true := by
  intro d
  induction d with
  | zero =>
    intro x h0 hd
    have hx : x = (i : Int) := by omega
    subst hx
    simp only [mullionlaw03_WireLists.l0]
    rw [if_pos (by omega), if_pos h0, enc_rd hs]
    simp only [Option.bind_some]
    rw [if_neg he, sureV]
    rfl
  | succ d ih =>
    intro x h0 hd
    have e1 := ih (x + 1) (by omega) (by omega)
    rw [mullionlaw03_WireLists.l0]
    rw [if_pos (by omega), if_pos h0, enc_rd hs]
    simp only [Option.bind_some]
    by_cases hz : (encN (evOf (rd_T28 l x))).2 = 0
    · rw [if_pos hz, wrap_in (by omega) (by omega)]
      exact e1
    · rw [if_neg hz, sureV]
      rfl
theorem l0_more (k d : Nat) (l : List S28) (x : Int) (h : mullionlaw03_WireLists.l0 k l x = some true) : mullionlaw03_WireLists.l0 (k + d) l x = some true := by
  induction d with
  | zero => exact h
  | succ d ih => exact (mullionlaw03_WireLists.mono_l (k + d)).2 l x _ ih
theorem rd_last {l : List S28} (a : List S28) (x : S28) (h : l = a ++ [x]) : rd_T28 l ((l.length : Int) - 1) = x := by
  subst h
  unfold rd_T28
  rw [List.getD_eq_getElem?_getD, show ((((a ++ [x]).length : Nat) : Int) - 1).toNat = a.length by simp]
  simp
theorem lists_val {l : List S28} (hs : l.all smallE = true) (hl : l.length ≤ 1048576) (ht : (linesL (l.map evOf)).length ≤ 400000000) (k : Nat) (hk : 400000005 ≤ k) : mullionlaw03_WireLists.f k l = some true := by
  unfold mullionlaw03_WireLists.f
  rw [text_val hs hl]
  simp only [Option.bind_some]
  by_cases hz : (textN (l.map evOf) []).2 = 0
  · rw [if_pos hz]
    have ha := text_all hz
    have hsz : (textN (l.map evOf) []).1.size = (linesL (l.map evOf)).length := by rw [text_ok ha, ofL_size]; rfl
    have hev := evs_text hz
    obtain ⟨m, rfl⟩ : ∃ m, k = m + 1 := ⟨k - 1, by omega⟩
    rw [events_val _ (by omega) m (by omega), hev]
    simp only [Option.bind_some]
    rw [same_more _ _ (by omega) _ (by omega), map_toS]
    simp only [Option.bind_some, decide_true]
    rw [if_pos trivial, show ((ofL []).toList != ([] : List UInt8)) = false by rw [ofL_toList]; rfl]
    rw [mullionlaw03_WireLists.j1, if_neg (by simp)]
    rcases List.eq_nil_or_concat l with hn | ⟨a, x, hax⟩
    · subst hn
      rw [if_neg (by simp), sureV]
      rfl
    · rw [List.concat_eq_append] at hax
      have hlen : l.length = a.length + 1 := by rw [hax]; simp
      have hmap : l.map evOf = a.map evOf ++ [evOf x] := by rw [hax]; simp
      have hpos : 0 < (textN (l.map evOf) []).1.size := by
        rw [hsz, hmap]
        unfold linesL
        rw [List.flatMap_append]
        simp
        omega
      have hw1 : wrap64 (((textN (l.map evOf) []).1.size : Int) - 1) = ((textN (l.map evOf) []).1.size : Int) - 1 := wrap_in (by omega) (by omega)
      have hw2 : wrap64 ((l.length : Int) - 1) = (l.length : Int) - 1 := wrap_in (by omega) (by omega)
      rw [if_pos (by omega), hw1, hw2, if_pos (by omega), if_pos (by omega)]
      have hz2 := hz
      rw [hmap] at hz2
      have hles := evs_less hz2
      rw [← hmap] at hles
      have hx0 : ((textN (l.map evOf) []).1.extract 0 (((textN (l.map evOf) []).1.size : Int) - 1).toNat).data.toList = (textN (l.map evOf) []).1.data.toList.dropLast := by
        have h := ofL_extract (textN (l.map evOf) []).1.data.toList 0 (((textN (l.map evOf) []).1.size : Int) - 1).toNat
        rw [ofL_list] at h
        rw [h, ofL_data, List.drop_zero, List.dropLast_eq_take, dlen]
        congr 1
        omega
      have hx1 : ((textN (l.map evOf) []).1.extract 0 (((textN (l.map evOf) []).1.size : Int) - 1).toNat).size ≤ (textN (l.map evOf) []).1.size := by simp
      obtain ⟨n, rfl⟩ : ∃ n, m = n + 1 := ⟨m - 1, by omega⟩
      rw [events_val _ (by omega) n (by omega), hx0, hles.1, hles.2]
      simp only [Option.bind_some]
      rw [if_pos (by omega), if_pos (by omega), enc_rd hs, rd_last a x hax]
      simp only [Option.bind_some]
      rw [if_pos (by omega), same_more _ _ (by rw [List.length_take]; omega) _ (by rw [List.length_take]; omega)]
      have htk : l.take ((l.length : Int) - 1).toNat = a := by
        rw [show ((l.length : Int) - 1).toNat = a.length by omega, hax]
        simp
      rw [htk, map_toS]
      simp only [Option.bind_some, decide_true, ofL_toList, ByteArray.toList_eq, sureV]
      rw [if_pos trivial, if_pos (by rw [ofL_data])]
  · rw [if_neg hz]
    obtain ⟨i, e, hi, he⟩ := text_bad hz
    obtain ⟨h1, h2⟩ := rd_at hi
    rw [← h1] at he
    have h3 := lists_bad hs hl h2 he i 0 (Int.le_refl _) (by simp)
    obtain ⟨d, rfl⟩ : ∃ d, k = i + 1 + d := ⟨k - (i + 1), by omega⟩
    exact l0_more _ _ _ _ h3
theorem lists_calls {w : World} (hL : LaidW w) (A : Option Addr) (c : Nat) (a : List S28) (hC : Proofs.YtnblabfkkcohgaaGreatDoorW.PrintWords.Kd.C k28 w A a.length a) (hc : a.length ≤ c) (ha : a.all smallE = true) (la : a.length ≤ 1048576) (ht : (linesL (a.map evOf)).length ≤ 400000000) :
    Calls Tryz.prog 13 #[.slice A a.length c] w fun r w' => r = .returned (.bool true) ∧ Below w.heap.size w w' :=
  mullionlaw03_WireLists.calls 400000005 A c a true w hC hc hL (lists_val ha la ht _ (Nat.le_refl _))
end Go.Proofs.YtnblabfkkcohgaaGreatDoor.LawR
end
