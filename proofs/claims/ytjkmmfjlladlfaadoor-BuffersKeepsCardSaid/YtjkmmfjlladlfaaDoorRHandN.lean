/- The statements' own function BuffersKeeps, walked: it tells true. Conditions: the tables lie as they are laid, names and texts have less than 2^62 bytes. -/
import Derived.Test.YtjkmmfjlladlfaaDoorRHandM
namespace Go.Proofs.YtjkmmfjlladlfaaDoor.Hand
set_option linter.unusedVariables false
set_option linter.unusedSimpArgs false
open Go.RowKit Go.Proofs.YtjkmmfjlladlfaaDoor.PBuf Go.Proofs.YtjkmmfjlladlfaaDoor.Given Go.Proofs.YtjkmmfjlladlfaaDoorW.PrintWords Go.Proofs.YtjkmmfjlladlfaaDoorW.PrintLast

theorem add_zero2 (a : Addr) : a.add (0 * 2) = a := by simp [Addr.add]
theorem keep_list : (⟨#[107, 101, 101, 112]⟩ : ByteArray).toList = [107, 101, 101, 112] := by rw [ByteArray.toList_eq]
theorem few_none : Few (([] : List S68).map tr) 0 20 := few_new
theorem good_none : Good none (([] : List S68).map tr) := good_nil none
theorem rd_list (D : List S79) (i : Int) : rd_T36 (listN D) i = ⟨(rd_T79 D i).f0, (rd_T79 D i).f1⟩ := by
  unfold rd_T36 rd_T79 listN
  rw [List.getD_eq_getElem?_getD, List.getD_eq_getElem?_getD, List.getElem?_map]
  cases D[i.toNat]? <;> rfl
theorem rd_mem (D : List S79) (i : Nat) (hi : i < D.length) : rd_T79 D i ∈ D := by
  unfold rd_T79
  rw [List.getD_eq_getElem?_getD, Int.toNat_natCast, List.getElem?_eq_getElem hi]
  exact List.getElem_mem hi
/-- A name and a text of the list that was handed out. -/
theorem list_at {w w' : World} {base cap : Nat} {A : Option Addr} {D : List S79} {n : Nat} (hr : Kd.R k36 36 w base (fun _ => True) (.slice A n cap) (listN D)) (hn : n = (listN D).length) (hb : Below w.heap.size w w') (i : Nat) (hi : i < n) :
    ∃ ad, A = some ad ∧ w'.cell? (ad.add (i * 2)) = some (.string (rd_T79 D i).f0) ∧ w'.cell? ⟨(ad.add (i * 2)).block, (ad.add (i * 2)).off + 1, none⟩ = some (.string (rd_T79 D i).f1) := by
  subst hn
  obtain ⟨ad, e, h0, h1⟩ := at_T36 (Kd.R_reads' hr).2.2 (i : Int) (by omega) (by omega)
  rw [rd_list] at h0 h1
  rw [Int.toNat_natCast] at h0 h1
  exact ⟨ad, e, pw_cell_below hb h0, pw_cell_below hb h1⟩

theorem list_blk {w w' : World} {base cap : Nat} {A : Option Addr} {D : List S79} {n : Nat} (hr : Kd.R k36 36 w base (fun _ => True) (.slice A n cap) (listN D)) (hn : n = (listN D).length) (hbs : base ≤ w.heap.size) (hb : Below w.heap.size w w') (i : Nat) (hi : i < n) :
    ∃ b, A = some ⟨b, 0, none⟩ ∧ b < w'.heap.size ∧ w'.cell? ⟨b, i * 2, none⟩ = some (.string (rd_T79 D i).f0) ∧ w'.cell? ⟨b, i * 2 + 1, none⟩ = some (.string (rd_T79 D i).f1) := by
  obtain ⟨ad, e, h0, h1⟩ := list_at hr hn hb i hi
  obtain ⟨b, _, hA⟩ := row_of hr hbs
  obtain ⟨e2, cs, hcs, _⟩ := hA (by omega)
  obtain rfl : ad = ⟨b, 0, none⟩ := Option.some.inj (e.symm.trans e2)
  have e3 : (⟨b, 0, none⟩ : Addr).add (i * 2) = ⟨b, i * 2, none⟩ := by
    unfold Addr.add
    split
    · rename_i h; rw [h]
    · simp
  rw [e3] at h0 h1
  exact ⟨b, e2, Nat.lt_of_lt_of_le (blk_lt hcs) hb.size, h0, h1⟩

set_option maxHeartbeats 16000000 in
set_option maxRecDepth 100000 in
theorem keeps_calls {W0 : World} (hL : LaidW W0) (A0 : Option Addr) (cap0 : Nat) (xs0 : List S48) (hC0 : Kd.C k48 W0 A0 xs0.length xs0) (hcap0 : xs0.length ≤ cap0) (hs0 : ∀ i : Int, (rd_T48 xs0 i).f2.size ≤ 4611686018427387904 ∧ (rd_T48 xs0 i).f3.size ≤ 4611686018427387904)
    (A1 : Option Addr) (cap1 : Nat) (xs1 : List S48) (hC1 : Kd.C k48 W0 A1 xs1.length xs1) (hcap1 : xs1.length ≤ cap1) (hs1 : ∀ i : Int, (rd_T48 xs1 i).f2.size ≤ 4611686018427387904 ∧ (rd_T48 xs1 i).f3.size ≤ 4611686018427387904) (text : ByteArray) :
    Calls Tryd.prog 5 #[.slice A0 xs0.length cap0, .slice A1 xs1.length cap1, .string text] W0 fun e W' => e = .returned (.bool true) ∧ Below W0.heap.size W0 W' := by
  have HL := Lib.hid hL
  have HC0 := Lib.hid hC0
  have HS0 := Lib.hid hs0
  have HC1m := Lib.hid hC1
  have HS1 := Lib.hid hs1
  clear hL hC0 hs0 hC1 hs1
  go_enter Tryd.func5, Tryd.ntmps5
  go_upto_if 23 with (first | ((go_at_call 9); (with_reducible refine (new_calls _).mono ?_); rintro e w1 ⟨g, rfl, hg, hB, ha, hb⟩; have HO := Lib.hid (show Own W0 w1 g [] 0 20 from ⟨hb, hg, fun k hk => absurd (ha.symm.trans hk) (by simp), hB⟩); clear hg hB ha hb) | ((go_at_call 10); (with_reducible refine (steps_calls HL.out HO.out few_none none good_none (by omega) A0 cap0 xs0 HC0.out hcap0 HS0.out (⟨#[]⟩ : ByteArray) (.inl ⟨emp, rfl⟩)).mono ?_); rintro e w2 ⟨rfl, l1, c1, m1, hO, hF, hG, hc1⟩; have HO1 := Lib.hid hO; have HF1 := Lib.hid hF; have HG1 := Lib.hid hG; have HC1 := Lib.hid hc1; clear hO hF hG hc1))
  by_cases ht : (text.size : Int) > 65536
  · go_wp2_with ((go_at_call 11); (with_reducible refine (sure_calls (LaidW.below HL.out HO1.out.below)).mono ?_); rintro e wz ⟨rfl, hbz⟩; have HZ := Lib.hid (below_step HO1.out.below hbz); clear hbz)
    all_goals go_returns
    all_goals exact ⟨rfl, HZ.out⟩
  · have HTX := Lib.hid (show text.size ≤ 65536 by omega)
    have HLEN1 := Lib.hid (show l1.length ≤ 900 by have := HF1.out.len; rw [List.length_map] at this; omega)
    obtain ⟨D2, c2, nm, er, hr⟩ : ∃ D2 c2 nm er, setN (l1.map tr) c1 m1 (⟨#[107, 101, 101, 112]⟩ : ByteArray) text = (D2, c2, nm, er) := ⟨_, _, _, _, rfl⟩
    have HFE := few_set HF1.out (⟨#[107, 101, 101, 112]⟩ : ByteArray) text
    have HGE := fun he => HG1.out.keep c1 m1 HF1.out.c0 text HTX.out he
    have HGF := fun he => keep_full (D := l1.map tr) (c := c1) (m := m1) HTX.out he
    unfold keepB at HGE HGF
    rw [hr] at HFE HGE HGF
    simp only at HFE HGE HGF
    have HR := Lib.hid hr
    clear hr
    by_cases he : er = 0
    · subst he
      obtain ⟨hG2, rfl, b2, r2, rfl⟩ := HGE rfl
      have HF2 := Lib.hid HFE.1
      have HC2 := Lib.hid (show c2 ≤ 100000 by have := HFE.2; have := HC1.out; omega)
      have HG2 := Lib.hid hG2
      clear HFE HGE HGF hG2
      obtain ⟨D2, HD2⟩ : ∃ D2, Aside0 (D2 = (⟨(⟨#[107, 101, 101, 112]⟩ : ByteArray), text, b2⟩ : S79) :: r2) := ⟨_, ⟨rfl⟩⟩
      rw [← HD2.out] at HR HF2 HG2
      have HLEN2 : Aside0 (D2.length ≤ 40) := ⟨HF2.out.len⟩
      go_wp2_with (first | ((go_at_call 12); (with_reducible refine (own_set HL.out HO1.out HLEN1.out HF1.out.c0 (by have := HC1.out; omega) (by have := HF1.out.m1; omega) HF1.out.m2 (⟨#[107, 101, 101, 112]⟩ : ByteArray) text (by decide) (D2, c2, (⟨#[107, 101, 101, 112]⟩ : ByteArray), 0) HR.out).mono ?_); rintro e w3 ⟨l2, hl2, rfl, hO, _⟩; have HO2 := Lib.hid hO; have HL2 := Lib.hid hl2; clear hO hl2) | ((go_at_call 13); (with_reducible refine (num_calls 0 _).mono ?_); rintro e w4 ⟨rfl, hbn⟩; have HO2n := Lib.hid (HO2.out.on hbn); clear hbn) | ((go_at_call 14); (with_reducible refine (list_calls HO2n.out.buf (by have := congrArg List.length HL2.out; rw [List.length_map] at this; have := HLEN2.out; omega)).mono ?_); rintro e w5 ⟨v, rfl, hr, hb⟩; rw [HL2.out] at hr; obtain ⟨A5, cap5, rfl⟩ := Kd.R_slice hr; have HR5 := Lib.hid hr; have HO2nl := Lib.hid (HO2n.out.on hb); obtain ⟨n5, HN5⟩ : ∃ n5, Aside0 (n5 = (listN D2).length) := ⟨_, ⟨rfl⟩⟩; rw [← HN5.out] at hr ⊢; have hn50 : (0 : Int) < (n5 : Int) := (by rw [HN5.out, HD2.out]; simp [listN] <;> omega); have hn51 : ((n5 : Int) == 0) = false := beq_eq_false_iff_ne.2 (by omega); obtain ⟨ad5, rfl, hy0, hy1⟩ := list_at hr HN5.out (Below.refl _ _) 0 (by omega); rw [HD2.out, add_zero2] at hy0 hy1; replace hy0 : w5.cell? ad5 = some (.string (⟨#[107, 101, 101, 112]⟩ : ByteArray)) := hy0; replace hy1 : w5.cell? ⟨ad5.block, ad5.off + 1, none⟩ = some (.string text) := hy1; clear hr hb) | ((go_at_call 10); (with_reducible refine (steps_calls HL.out HO2nl.out (by rw [HL2.out]; exact HF2.out) (some text) (by rw [HL2.out]; exact HG2.out) (by have := HC2.out; omega) A1 cap1 xs1 HC1m.out hcap1 HS1.out (⟨#[107, 101, 101, 112]⟩ : ByteArray) (.inr ⟨rfl, by simp⟩)).mono ?_); rintro e w6 ⟨rfl, l3, c3, m3, hO, hF, hG, hc3⟩; have HO3 := Lib.hid hO; have HF3 := Lib.hid hF; have HG3 := Lib.hid hG; obtain ⟨D, HD⟩ : ∃ D, Aside0 (l3.map tr = D) := ⟨_, ⟨rfl⟩⟩; have HLEN3 := Lib.hid (show l3.length ≤ 40 by have := HF3.out.len; rw [List.length_map] at this; exact this); clear hO hF hG hc3) | ((go_at_call 14); (with_reducible refine (list_calls HO3.out.buf (by have := HLEN3.out; omega)).mono ?_); rintro e w7 ⟨v, rfl, hr, hb⟩; rw [HD.out] at hr; obtain ⟨A7, cap7, rfl⟩ := Kd.R_slice hr; have HO7 := Lib.hid (HO3.out.on hb); have HB7 := Lib.hid hb.size; obtain ⟨n, HN⟩ : ∃ n, Aside0 (n = (listN D).length) := ⟨_, ⟨rfl⟩⟩; rw [← HN.out] at hr ⊢; have HR7 := Lib.hid hr; have HND := Lib.hid (show n = D.length by rw [HN.out]; simp [listN]); have hn40 : ¬ (n : Int) > 40 := (by have := HND.out; have := HLEN3.out; have q := congrArg List.length HD.out; rw [List.length_map] at q; omega); clear hr hb))
      (try simp only [Act.put, List.setIfInBounds_toArray, List.set_cons_zero, List.set_cons_succ])
      obtain ⟨w7o, rfl⟩ : ∃ w7o : World, w7o = w7 := ⟨_, rfl⟩
      clear hy0 hy1 hn50 hn51
      go_loopg [11] n (fun kq v11 w' => ∃ i : Nat, v11 = .int .i64 i ∧ Aside0 (i + kq = n) ∧ Aside0 (Below w7o.heap.size w7o w'))
      case atStart => exact ⟨0, rfl, ⟨by omega⟩, ⟨Below.refl _ _⟩⟩
      case round =>
        obtain ⟨i, rfl, HI, HW⟩ := hrel
        obtain ⟨wo, rfl⟩ : ∃ wo : World, wo = wr := ⟨_, rfl⟩
        by_cases hin : i < n
        · obtain ⟨n1, rfl⟩ : ∃ n1, gk = n1 + 1 := ⟨gk - 1, by have := HI.out; omega⟩
          have hin' : (i : Int) < (n : Int) := by omega
          have hip : (0 : Int) ≤ (i : Int) := by omega
          go_wp2
          go_loopg [12] i (fun kq v12 w' => ∃ k : Nat, v12 = .int .i64 k ∧ Aside0 (k + kq = i) ∧ Aside0 (Below w7o.heap.size w7o w'))
          case atStart => exact ⟨0, rfl, ⟨by omega⟩, ⟨HW.out⟩⟩
          case round =>
            obtain ⟨k, rfl, HK, HWk⟩ := hrel
            obtain ⟨wi, rfl⟩ : ∃ wi : World, wi = wr := ⟨_, rfl⟩
            by_cases hki : k < i
            · have hki' : (k : Int) < (i : Int) := by omega
              have hkp : (0 : Int) ≤ (k : Int) := by omega
              have hkn : (k : Int) < (n : Int) := by omega
              obtain ⟨ad, rfl, ha0, ha1⟩ := list_at HR7.out HN.out HWk.out i hin
              obtain ⟨ad2, e2, hb0, hb1⟩ := list_at HR7.out HN.out HWk.out k (by omega)
              obtain rfl := Option.some.inj e2
              have hne : ((rd_T79 D i).f0.toList == (rd_T79 D k).f0.toList) = false := by
                have q : (rd_T79 D i).f0 ≠ (rd_T79 D k).f0 := by rw [← HD.out]; exact HG3.out.apart i k (by rw [HD.out, ← HND.out]; exact hin) hki
                simp only [beq_eq_false_iff_ne, ne_eq]
                exact fun e => q (toList_inj e)
              clear e2 ha1 hb1
              generalize (rd_T79 D i).f0 = x at ha0 hne
              generalize (rd_T79 D k).f0 = y at hb0 hne
              go_wp2
              repeat (go_quiet (fail); try go_wp2)
              (try simp only [Act.put, List.setIfInBounds_toArray, List.set_cons_zero, List.set_cons_succ])
              go_roundg (i - k - 1)
              case measure => have := HK.out; omega
              case rel => exact ⟨k + 1, by first | rfl | (congr 1; omega) | (rw [wrap_in (by omega) (by omega)]; rfl), ⟨by have := HK.out; omega⟩, ⟨by repeat (first | exact HWk.out | apply pw_below_drewN | apply below_drew1)⟩⟩
            · have hki' : ¬ (k : Int) < (i : Int) := by omega
              obtain ⟨b, rfl, hbl, ha0, ha1⟩ := list_blk HR7.out HN.out HB7.out HWk.out i hin
              have HGET := Lib.hid (show getN D (rd_T79 D i).f0 = ((rd_T79 D i).f0, (rd_T79 D i).f1, 0) by rw [← HD.out]; exact HG3.out.get i (by rw [HD.out, ← HND.out]; exact hin))
              have HKP : Aside0 ((rd_T79 D i).f0 = keepB → (rd_T79 D i).f1 = text) := ⟨fun q => HG3.out.kp text rfl (rd_T79 D i) (by rw [HD.out]; exact rd_mem D i (by rw [← HND.out]; exact hin)) q⟩
              have HBL := Lib.hid hbl
              clear hki hbl
              generalize (rd_T79 D i).f0 = x at ha0 HGET HKP
              generalize (rd_T79 D i).f1 = y at ha1 HGET HKP
              have HA0 := Lib.hid ha0
              have HA1 := Lib.hid ha1
              by_cases hk : x = (⟨#[107, 101, 101, 112]⟩ : ByteArray)
              · have hy : y = text := HKP.out hk
                subst hk hy
                go_wp2_with (first | ((go_at_call 15); (with_reducible refine (get_calls (HO7.out.on HWk.out).buf (by have := HLEN3.out; omega) _).mono ?_); rintro e w8 ⟨rfl, hb⟩; rw [HD.out, HGET.out]; have HW8 := Lib.hid (below_step HWk.out hb); have HL8 := Lib.hid (Nat.lt_of_lt_of_le HBL.out hb.size); have HA0b := Lib.hid (pw_cell_below hb HA0.out); have HA1b := Lib.hid (pw_cell_below hb HA1.out); clear hb ha0 ha1) | ((with_reducible refine gate_dst (N := 13) rfl ?_); refine box_event ?hg (N := 13) ?hd (cs := #[.string (⟨#[]⟩ : ByteArray), .string (⟨#[]⟩ : ByteArray)]) (t := 36) ?hr ?_; (case hd => rfl); (case hg => rfl); (case hr => first | (go_simp; done) | (go_simp; rfl)); intro gb13 hgb w9 hbox hbb; have HG13 := Lib.hid (show w8.heap.size ≤ gb13 by rw [hgb]; exact Nat.le_refl _); have HW9 := Lib.hid (below_step HW8.out hbb); have hn3 : gb13 ≠ b := (by have := HG13.out; have := HL8.out; omega); have hn4 : b ≠ gb13 := fun e => hn3 e.symm; have ha0 := pw_cell_below hbb HA0b.out; have ha1 := pw_cell_below hbb HA1b.out; have HG7 := Lib.hid (Nat.le_trans HW8.out.size HG13.out); have HBX := Lib.hid hbox; have HBB := Lib.hid hbb; have hq0 : w9.cell? ⟨gb13, 0, none⟩ = some (.string (⟨#[]⟩ : ByteArray)) := (blk_cell hbox 0).trans rfl; have hz0 := blk_frozen hbox 0; have hq1 : w9.cell? ⟨gb13, 1, none⟩ = some (.string (⟨#[]⟩ : ByteArray)) := (blk_cell hbox 1).trans rfl; have hz1 := blk_frozen hbox 1; clear hgb hbox hbb))
                obtain ⟨wb, hwb⟩ : ∃ wb, wb = ((w9.setCell ⟨gb13, 0, none⟩ (.string (⟨#[107, 101, 101, 112]⟩ : ByteArray))).setCell ⟨gb13, 1, none⟩ (.string y)) := ⟨_, rfl⟩
                rw [← hwb]
                have HWb : Aside0 (Below w7o.heap.size w7o wb) := ⟨by rw [hwb]; exact below_set (below_set HW9.out HG7.out) HG7.out⟩
                have hb8 : Below w8.heap.size w8 wb := by rw [hwb]; exact below_set (below_set HBB.out HG13.out) HG13.out
                have hk13 : wb.heap[gb13]? = some (.cells #[.string (⟨#[107, 101, 101, 112]⟩ : ByteArray), .string y] 36 (0, 0)) := by rw [hwb]; exact blk_put (blk_put HBX.out 0 _ rfl) 1 _ rfl
                clear ha0 ha1 hq0 hq1 hz0 hz1
                have hq0 : wb.cell? ⟨gb13, 0, none⟩ = some (.string (⟨#[107, 101, 101, 112]⟩ : ByteArray)) := (blk_cell hk13 0).trans rfl
                have hq1 : wb.cell? ⟨gb13, 1, none⟩ = some (.string y) := (blk_cell hk13 1).trans rfl
                have ha0 := pw_cell_below hb8 HA0b.out
                have ha1 := pw_cell_below hb8 HA1b.out
                clear hwb hb8 hk13
                have HQ := Lib.hid (show ∀ n, Calls Tryd.prog 13 #[.int .i64 0] (wb.drewN n) (fun e w'' => e = .returned (.int .i64 0) ∧ ∃ m, w'' = wb.drewN m) from fun n => Calls.quiet_of ((mullionlaw24_num.calls 0 0 _ rfl).mono fun e w' h => ⟨h.1, h.2.out⟩))
                go_quiet (first | ((go_at_call 13); (exact HQ.out _)))
                go_wp2
                (try simp only [Act.put, List.setIfInBounds_toArray, List.set_cons_zero, List.set_cons_succ])
                go_roundg n1
                case measure => have := HI.out; omega
                case rel => exact ⟨i + 1, by first | rfl | (congr 1; omega), ⟨by have := HI.out; omega⟩, ⟨by repeat (first | exact HWb.out | apply pw_below_drewN | apply below_drew1)⟩⟩
              · have hkb : (x.toList == ((⟨#[107, 101, 101, 112]⟩ : ByteArray)).toList) = false := by
                  simp only [beq_eq_false_iff_ne, ne_eq]
                  exact fun e => hk (toList_inj e)
                have hkc : (x.toList == ([107, 101, 101, 112] : List UInt8)) = false := by rw [← keep_list]; exact hkb
                have hkd : ¬ x.toList = ([107, 101, 101, 112] : List UInt8) := by rw [← keep_list]; exact fun e => hk (toList_inj e)
                go_wp2_with (first | ((go_at_call 15); (with_reducible refine (get_calls (HO7.out.on HWk.out).buf (by have := HLEN3.out; omega) _).mono ?_); rintro e w8 ⟨rfl, hb⟩; rw [HD.out, HGET.out]; have HW8 := Lib.hid (below_step HWk.out hb); have HL8 := Lib.hid (Nat.lt_of_lt_of_le HBL.out hb.size); have HA0b := Lib.hid (pw_cell_below hb HA0.out); have HA1b := Lib.hid (pw_cell_below hb HA1.out); clear hb ha0 ha1) | ((with_reducible refine gate_dst (N := 13) rfl ?_); refine box_event ?hg (N := 13) ?hd (cs := #[.string (⟨#[]⟩ : ByteArray), .string (⟨#[]⟩ : ByteArray)]) (t := 36) ?hr ?_; (case hd => rfl); (case hg => rfl); (case hr => first | (go_simp; done) | (go_simp; rfl)); intro gb13 hgb w9 hbox hbb; have HG13 := Lib.hid (show w8.heap.size ≤ gb13 by rw [hgb]; exact Nat.le_refl _); have HW9 := Lib.hid (below_step HW8.out hbb); have hn3 : gb13 ≠ b := (by have := HG13.out; have := HL8.out; omega); have hn4 : b ≠ gb13 := fun e => hn3 e.symm; have ha0 := pw_cell_below hbb HA0b.out; have ha1 := pw_cell_below hbb HA1b.out; have HG7 := Lib.hid (Nat.le_trans HW8.out.size HG13.out); have HBX := Lib.hid hbox; have HBB := Lib.hid hbb; have hq0 : w9.cell? ⟨gb13, 0, none⟩ = some (.string (⟨#[]⟩ : ByteArray)) := (blk_cell hbox 0).trans rfl; have hz0 := blk_frozen hbox 0; have hq1 : w9.cell? ⟨gb13, 1, none⟩ = some (.string (⟨#[]⟩ : ByteArray)) := (blk_cell hbox 1).trans rfl; have hz1 := blk_frozen hbox 1; clear hgb hbox hbb))
                obtain ⟨wb, hwb⟩ : ∃ wb, wb = ((w9.setCell ⟨gb13, 0, none⟩ (.string x)).setCell ⟨gb13, 1, none⟩ (.string y)) := ⟨_, rfl⟩
                rw [← hwb]
                have HWb : Aside0 (Below w7o.heap.size w7o wb) := ⟨by rw [hwb]; exact below_set (below_set HW9.out HG7.out) HG7.out⟩
                have hb8 : Below w8.heap.size w8 wb := by rw [hwb]; exact below_set (below_set HBB.out HG13.out) HG13.out
                have hk13 : wb.heap[gb13]? = some (.cells #[.string x, .string y] 36 (0, 0)) := by rw [hwb]; exact blk_put (blk_put HBX.out 0 _ rfl) 1 _ rfl
                clear ha0 ha1 hq0 hq1 hz0 hz1
                have hq0 : wb.cell? ⟨gb13, 0, none⟩ = some (.string x) := (blk_cell hk13 0).trans rfl
                have hq1 : wb.cell? ⟨gb13, 1, none⟩ = some (.string y) := (blk_cell hk13 1).trans rfl
                have ha0 := pw_cell_below hb8 HA0b.out
                have ha1 := pw_cell_below hb8 HA1b.out
                clear hwb hb8 hk13
                have HQ := Lib.hid (show ∀ n, Calls Tryd.prog 13 #[.int .i64 0] (wb.drewN n) (fun e w'' => e = .returned (.int .i64 0) ∧ ∃ m, w'' = wb.drewN m) from fun n => Calls.quiet_of ((mullionlaw24_num.calls 0 0 _ rfl).mono fun e w' h => ⟨h.1, h.2.out⟩))
                go_quiet (first | ((go_at_call 13); (exact HQ.out _)))
                go_wp2
                (try simp only [Act.put, List.setIfInBounds_toArray, List.set_cons_zero, List.set_cons_succ])
                go_roundg n1
                case measure => have := HI.out; omega
                case rel => exact ⟨i + 1, by first | rfl | (congr 1; omega), ⟨by have := HI.out; omega⟩, ⟨by repeat (first | exact HWb.out | apply pw_below_drewN | apply below_drew1)⟩⟩
        · have hin' : ¬ (i : Int) < (n : Int) := by omega
          go_wp2_with ((go_at_call 11); (with_reducible refine (sure_calls (LaidW.below HL.out (HO7.out.on HW.out).below)).mono ?_); rintro e wz ⟨rfl, hbz⟩; have HZ := Lib.hid (below_step (HO7.out.on HW.out).below hbz); clear hbz)
          all_goals go_returns
          all_goals exact ⟨rfl, HZ.out⟩
    · have hD2 : D2.length ≤ 40 := HFE.1.len
      have HD2 := Lib.hid hD2
      have HN2 := Lib.hid (HGF he)
      have hee : (er != 0) = true := by simpa using he
      clear HFE HGE HGF
      go_wp2_with (first | ((go_at_call 12); (with_reducible refine (own_set HL.out HO1.out HLEN1.out HF1.out.c0 (by have := HC1.out; omega) (by have := HF1.out.m1; omega) HF1.out.m2 (⟨#[107, 101, 101, 112]⟩ : ByteArray) text (by decide) (D2, c2, nm, er) HR.out).mono ?_); rintro e w3 ⟨l2, hl2, rfl, hO, _⟩; have HO2 := Lib.hid hO; have HL2 := Lib.hid hl2; clear hO hl2) | ((go_at_call 13); (with_reducible refine (num_calls er _).mono ?_); rintro e w4 ⟨rfl, hbn⟩; have HO2n := Lib.hid (HO2.out.on hbn); clear hbn) | ((go_at_call 14); (with_reducible refine (list_calls HO2n.out.buf (by have := congrArg List.length HL2.out; rw [List.length_map] at this; have := HD2.out; omega)).mono ?_); rintro e w5 ⟨v, rfl, hr, hb⟩; rw [HL2.out] at hr; obtain ⟨A5, cap5, rfl⟩ := Kd.R_slice hr; have HO3 := Lib.hid (HO2n.out.on hb); obtain ⟨n5, HN5⟩ : ∃ n5, Aside0 (n5 = (listN D2).length) := ⟨_, ⟨rfl⟩⟩; rw [← HN5.out]; have hn5 : (20 : Int) ≤ (n5 : Int) := (by rw [HN5.out]; have := HN2.out; simp [listN] <;> omega); have hn5d := decide_eq_true hn5; clear hr hb) | ((go_at_call 11); (with_reducible refine (sure_calls (LaidW.below HL.out HO3.out.below)).mono ?_); rintro e wz ⟨rfl, hbz⟩; have HZ := Lib.hid (below_step HO3.out.below hbz); clear hbz))
      all_goals go_returns
      all_goals exact ⟨rfl, HZ.out⟩
end Go.Proofs.YtjkmmfjlladlfaaDoor.Hand
