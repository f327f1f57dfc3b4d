/- The statements' own function steps, walked: whatever the steps are, the buffers stay as they may be, and the kept text stays. Conditions: the tables lie as they are laid, names and texts have less than 2^62 bytes. -/
import Derived.Test.YtjkmmfjlladlfaaDoorRHandL
import Derived.Test.YtjkmmfjlladlfaaDoorRHandJ
namespace Go.Proofs.YtjkmmfjlladlfaaDoor.Hand
set_option linter.unusedVariables false
set_option linter.unusedSimpArgs false
open Go.RowKit Go.Proofs.YtjkmmfjlladlfaaDoor.PBuf Go.Proofs.YtjkmmfjlladlfaaDoor.Given Go.Proofs.YtjkmmfjlladlfaaDoorW.PrintWords Go.Proofs.YtjkmmfjlladlfaaDoorW.PrintLast

set_option maxHeartbeats 16000000 in
set_option maxRecDepth 100000 in
theorem steps_calls {W0 W : World} (hL : LaidW W0) {g : Nat} {l0 : List S68} {c0 m0 : Int} (hO : Own W0 W g l0 c0 m0) (hF : Few (l0.map tr) c0 m0) (t : Option ByteArray) (hG : Good t (l0.map tr)) (hc : c0 ≤ 1000000)
    (A : Option Addr) (cap : Nat) (xs : List S48) (hC : Kd.C k48 W0 A xs.length xs) (hcap : xs.length ≤ cap) (hs : ∀ i : Int, (rd_T48 xs i).f2.size ≤ 4611686018427387904 ∧ (rd_T48 xs i).f3.size ≤ 4611686018427387904)
    (but : ByteArray) (hbt : (but.toList = ([] : List UInt8) ∧ t = none) ∨ (but = keepB ∧ t ≠ none)) :
    Calls Tryd.prog 10 #[.pointer (some ⟨g, 0, none⟩), .slice A xs.length cap, .string but] W fun e W' => e = .returned (.tuple #[]) ∧ ∃ l' c' m', Own W0 W' g l' c' m' ∧ Few (l'.map tr) c' m' ∧ Good t (l'.map tr) ∧ c' ≤ c0 + 12642 := by
  have HL := Lib.hid hL
  have HC := Lib.hid hC
  have HS := Lib.hid hs
  have HBT := Lib.hid hbt
  have HO0 := Lib.hid hO
  have HF0 := Lib.hid hF
  have HGD0 := Lib.hid hG
  have HC0 := Lib.hid hc
  clear hL hC hs hbt hO hF hG hc
  go_enter Tryd.func10, Tryd.ntmps10
  go_wp2
  go_loopg [6] 301 (fun kq v6 w' => ∃ (i : Nat) (l : List S68) (c m : Int), v6 = .int .i64 i ∧ Aside0 (i + kq = 301) ∧ Aside0 (Own W0 w' g l c m) ∧ Aside0 (Few (l.map tr) c m) ∧ Aside0 (Good t (l.map tr)) ∧ Aside0 (c ≤ c0 + 42 * i))
  case atStart => exact ⟨0, l0, c0, m0, rfl, ⟨by omega⟩, ⟨HO0.out⟩, ⟨HF0.out⟩, ⟨HGD0.out⟩, ⟨by omega⟩⟩
  case round =>
    obtain ⟨i, l, c, m, rfl, HI, HO, HFl, HGDl, HCC⟩ := hrel
    obtain ⟨wo, rfl⟩ : ∃ wo : World, wo = wr := ⟨_, rfl⟩
    by_cases hgo : i < xs.length ∧ i < 300
    · obtain ⟨n1, rfl⟩ : ∃ n1, gk = n1 + 1 := ⟨gk - 1, by have := HI.out; omega⟩
      obtain ⟨D, HD⟩ : ∃ D, Aside0 (D = l.map tr) := ⟨_, ⟨rfl⟩⟩
      have HF : Aside0 (Few D c m) := ⟨by rw [HD.out]; exact HFl.out⟩
      have HGD : Aside0 (Good t D) := ⟨by rw [HD.out]; exact HGDl.out⟩
      have HLEN := Lib.hid (show l.length ≤ 900 by have := HF.out.len; rw [HD.out, List.length_map] at this; omega)
      obtain ⟨hg1, hg2⟩ := hgo
      have hg1' : (i : Int) < (xs.length : Int) := by omega
      have hg2' : (i : Int) < 300 := by omega
      have hp : (0 : Int) ≤ (i : Int) := by omega
      obtain ⟨ad, rfl, hx0, hx1, hx2, hx3⟩ := at_T48 HC.out (i : Int) (by omega) hg1'
      replace hx0 := pw_cell_below HO.out.below hx0
      replace hx1 := pw_cell_below HO.out.below hx1
      replace hx2 := pw_cell_below HO.out.below hx2
      replace hx3 := pw_cell_below HO.out.below hx3
      have hs1 := HS.out i
      generalize rd_T48 xs i = X at hx0 hx1 hx2 hx3 hs1
      obtain ⟨kd, nn, nm, tx⟩ := X
      simp only at hx0 hx1 hx2 hx3 hs1
      rw [Int.toNat_natCast] at hx0 hx1 hx2 hx3
      have HNM := Lib.hid hs1.1
      have HTX := Lib.hid hs1.2
      clear hs1
      by_cases b0 : but.toList = ([] : List UInt8)
      · have HT : t = none := by rcases HBT.out with q | q; exact q.2; exact absurd b0 (by rw [q.1]; exact word_ne word_keep)
        subst HT
        by_cases k1 : kd = 1
        · subst k1
          go_wp2_with (first | ((with_reducible refine gate_dst (N := 7) rfl ?_); refine box_event ?hg (N := 7) ?hd (cs := #[.int .i64 0, .int .i64 0, .string (⟨#[]⟩ : ByteArray), .string (⟨#[]⟩ : ByteArray)]) (t := 48) ?hr ?_; (case hd => rfl); (case hg => rfl); (case hr => first | (go_simp; done) | (go_simp; rfl)); intro gb7 hgb w5 hbox hbb; have HG7 := Lib.hid (show wo.heap.size ≤ gb7 by rw [hgb]; exact Nat.le_refl _); have HW5 := Lib.hid hbb; have HBX := Lib.hid hbox; have hq0 : w5.cell? ⟨gb7, 0, none⟩ = some (.int .i64 0) := (blk_cell hbox 0).trans rfl; have hz0 := blk_frozen hbox 0; have hq1 : w5.cell? ⟨gb7, 1, none⟩ = some (.int .i64 0) := (blk_cell hbox 1).trans rfl; have hz1 := blk_frozen hbox 1; have hq2 : w5.cell? ⟨gb7, 2, none⟩ = some (.string (⟨#[]⟩ : ByteArray)) := (blk_cell hbox 2).trans rfl; have hz2 := blk_frozen hbox 2; have hq3 : w5.cell? ⟨gb7, 3, none⟩ = some (.string (⟨#[]⟩ : ByteArray)) := (blk_cell hbox 3).trans rfl; have hz3 := blk_frozen hbox 3; clear hgb hbox hbb) | ((go_at_call 12); (with_reducible refine (own_set HL.out (HO.out.on (below_set (below_set (below_set (below_set HW5.out HG7.out) HG7.out) HG7.out) HG7.out)) HLEN.out HF.out.c0 (by have := HC0.out; have := HCC.out; have := HI.out; omega) (by have := HF.out.m1; omega) HF.out.m2 nm tx HNM.out (setN D c m nm tx) (by rw [HD.out])).mono ?_); rintro e w6 ⟨l', hl', rfl, hO6, hF6⟩; have HO6 := Lib.hid hO6; have HL6 := Lib.hid hl'; clear hO6 hl' hF6))
          go_roundg n1
          case measure => have := HI.out; omega
          case rel => exact ⟨i + 1, l', _, m, by first | rfl | (congr 1; omega), ⟨by have := HI.out; omega⟩, ⟨HO6.out⟩, ⟨by rw [HL6.out]; exact few_set HF.out nm tx |>.1⟩, ⟨by rw [HL6.out]; exact HGD.out.set c m HF.out.c0 nm tx (fun _ q => by cases q)⟩, ⟨by have q := (few_set HF.out nm tx).2; have := HCC.out; omega⟩⟩
        · have k1b : (kd == 1) = false := by simpa using k1
          by_cases k3 : kd = 3
          · subst k3
            go_wp2_with (first | ((with_reducible refine gate_dst (N := 7) rfl ?_); refine box_event ?hg (N := 7) ?hd (cs := #[.int .i64 0, .int .i64 0, .string (⟨#[]⟩ : ByteArray), .string (⟨#[]⟩ : ByteArray)]) (t := 48) ?hr ?_; (case hd => rfl); (case hg => rfl); (case hr => first | (go_simp; done) | (go_simp; rfl)); intro gb7 hgb w5 hbox hbb; have HG7 := Lib.hid (show wo.heap.size ≤ gb7 by rw [hgb]; exact Nat.le_refl _); have HW5 := Lib.hid hbb; have HBX := Lib.hid hbox; have hq0 : w5.cell? ⟨gb7, 0, none⟩ = some (.int .i64 0) := (blk_cell hbox 0).trans rfl; have hz0 := blk_frozen hbox 0; have hq1 : w5.cell? ⟨gb7, 1, none⟩ = some (.int .i64 0) := (blk_cell hbox 1).trans rfl; have hz1 := blk_frozen hbox 1; have hq2 : w5.cell? ⟨gb7, 2, none⟩ = some (.string (⟨#[]⟩ : ByteArray)) := (blk_cell hbox 2).trans rfl; have hz2 := blk_frozen hbox 2; have hq3 : w5.cell? ⟨gb7, 3, none⟩ = some (.string (⟨#[]⟩ : ByteArray)) := (blk_cell hbox 3).trans rfl; have hz3 := blk_frozen hbox 3; clear hgb hbox hbb) | ((go_at_call 22); (with_reducible refine (delete_calls (HO.out.on (below_set (below_set (below_set (below_set HW5.out HG7.out) HG7.out) HG7.out) HG7.out)).buf (by have := HLEN.out; omega) nm).mono ?_); rintro e w6 ⟨l', hl', rfl, hB', hF'⟩; rw [← HD.out] at hl' ⊢; have HO6 := Lib.hid ((HO.out.on (below_set (below_set (below_set (below_set HW5.out HG7.out) HG7.out) HG7.out) HG7.out)).next hF' hB'); have HL6 := Lib.hid hl'; clear hl' hB' hF'))
            go_roundg n1
            case measure => have := HI.out; omega
            case rel => exact ⟨i + 1, l', _, m, by first | rfl | (congr 1; omega), ⟨by have := HI.out; omega⟩, ⟨HO6.out⟩, ⟨by rw [HL6.out]; exact few_delete HF.out nm⟩, ⟨by rw [HL6.out]; exact HGD.out.delete nm⟩, ⟨by have := HCC.out; omega⟩⟩
          · have k3b : (kd == 3) = false := by simpa using k3
            by_cases k4 : kd = 4
            · subst k4
              go_wp2_with (first | ((with_reducible refine gate_dst (N := 7) rfl ?_); refine box_event ?hg (N := 7) ?hd (cs := #[.int .i64 0, .int .i64 0, .string (⟨#[]⟩ : ByteArray), .string (⟨#[]⟩ : ByteArray)]) (t := 48) ?hr ?_; (case hd => rfl); (case hg => rfl); (case hr => first | (go_simp; done) | (go_simp; rfl)); intro gb7 hgb w5 hbox hbb; have HG7 := Lib.hid (show wo.heap.size ≤ gb7 by rw [hgb]; exact Nat.le_refl _); have HW5 := Lib.hid hbb; have HBX := Lib.hid hbox; have hq0 : w5.cell? ⟨gb7, 0, none⟩ = some (.int .i64 0) := (blk_cell hbox 0).trans rfl; have hz0 := blk_frozen hbox 0; have hq1 : w5.cell? ⟨gb7, 1, none⟩ = some (.int .i64 0) := (blk_cell hbox 1).trans rfl; have hz1 := blk_frozen hbox 1; have hq2 : w5.cell? ⟨gb7, 2, none⟩ = some (.string (⟨#[]⟩ : ByteArray)) := (blk_cell hbox 2).trans rfl; have hz2 := blk_frozen hbox 2; have hq3 : w5.cell? ⟨gb7, 3, none⟩ = some (.string (⟨#[]⟩ : ByteArray)) := (blk_cell hbox 3).trans rfl; have hz3 := blk_frozen hbox 3; clear hgb hbox hbb) | ((go_at_call 24); (with_reducible refine (rename_calls (HO.out.on (below_set (below_set (below_set (below_set HW5.out HG7.out) HG7.out) HG7.out) HG7.out)).buf (by have := HLEN.out; omega) nm tx HTX.out).mono ?_); rintro e w6 ⟨l', hl', rfl, hB', hF'⟩; rw [← HD.out] at hl' ⊢; have HO6 := Lib.hid ((HO.out.on (below_set (below_set (below_set (below_set HW5.out HG7.out) HG7.out) HG7.out) HG7.out)).next hF' hB'); have HL6 := Lib.hid hl'; clear hl' hB' hF'))
              go_roundg n1
              case measure => have := HI.out; omega
              case rel => exact ⟨i + 1, l', _, m, by first | rfl | (congr 1; omega), ⟨by have := HI.out; omega⟩, ⟨HO6.out⟩, ⟨by rw [HL6.out]; exact few_rename HF.out nm tx⟩, ⟨by rw [HL6.out]; exact HGD.out.rename nm tx (.inl rfl)⟩, ⟨by have := HCC.out; omega⟩⟩
            · have k4b : (kd == 4) = false := by simpa using k4
              by_cases k6 : kd = 6
              · subst k6
                go_wp2_with (first | ((with_reducible refine gate_dst (N := 7) rfl ?_); refine box_event ?hg (N := 7) ?hd (cs := #[.int .i64 0, .int .i64 0, .string (⟨#[]⟩ : ByteArray), .string (⟨#[]⟩ : ByteArray)]) (t := 48) ?hr ?_; (case hd => rfl); (case hg => rfl); (case hr => first | (go_simp; done) | (go_simp; rfl)); intro gb7 hgb w5 hbox hbb; have HG7 := Lib.hid (show wo.heap.size ≤ gb7 by rw [hgb]; exact Nat.le_refl _); have HW5 := Lib.hid hbb; have HBX := Lib.hid hbox; have hq0 : w5.cell? ⟨gb7, 0, none⟩ = some (.int .i64 0) := (blk_cell hbox 0).trans rfl; have hz0 := blk_frozen hbox 0; have hq1 : w5.cell? ⟨gb7, 1, none⟩ = some (.int .i64 0) := (blk_cell hbox 1).trans rfl; have hz1 := blk_frozen hbox 1; have hq2 : w5.cell? ⟨gb7, 2, none⟩ = some (.string (⟨#[]⟩ : ByteArray)) := (blk_cell hbox 2).trans rfl; have hz2 := blk_frozen hbox 2; have hq3 : w5.cell? ⟨gb7, 3, none⟩ = some (.string (⟨#[]⟩ : ByteArray)) := (blk_cell hbox 3).trans rfl; have hz3 := blk_frozen hbox 3; clear hgb hbox hbb) | ((go_at_call 26); (with_reducible refine (limit_calls (HO.out.on (below_set (below_set (below_set (below_set HW5.out HG7.out) HG7.out) HG7.out) HG7.out)).buf (by have := HLEN.out; omega) nn).mono ?_); rintro e w6 ⟨l', hl', rfl, hB', hF'⟩; rw [← HD.out] at hl' ⊢; (try rw [← HD.out] at hB'); have HO6 := Lib.hid ((HO.out.on (below_set (below_set (below_set (below_set HW5.out HG7.out) HG7.out) HG7.out) HG7.out)).next hF' hB'); have HL6 := Lib.hid hl'; clear hl' hB' hF'))
                go_roundg n1
                case measure => have := HI.out; omega
                case rel => exact ⟨i + 1, l', _, _, by first | rfl | (congr 1; omega), ⟨by have := HI.out; omega⟩, ⟨HO6.out⟩, ⟨by rw [HL6.out]; exact few_limit HF.out nn⟩, ⟨by rw [HL6.out]; exact HGD.out.limit m nn⟩, ⟨by have := HCC.out; omega⟩⟩
              · have k6b : (kd == 6) = false := by simpa using k6
                go_wp2_with (first | ((with_reducible refine gate_dst (N := 7) rfl ?_); refine box_event ?hg (N := 7) ?hd (cs := #[.int .i64 0, .int .i64 0, .string (⟨#[]⟩ : ByteArray), .string (⟨#[]⟩ : ByteArray)]) (t := 48) ?hr ?_; (case hd => rfl); (case hg => rfl); (case hr => first | (go_simp; done) | (go_simp; rfl)); intro gb7 hgb w5 hbox hbb; have HG7 := Lib.hid (show wo.heap.size ≤ gb7 by rw [hgb]; exact Nat.le_refl _); have HW5 := Lib.hid hbb; have HBX := Lib.hid hbox; have hq0 : w5.cell? ⟨gb7, 0, none⟩ = some (.int .i64 0) := (blk_cell hbox 0).trans rfl; have hz0 := blk_frozen hbox 0; have hq1 : w5.cell? ⟨gb7, 1, none⟩ = some (.int .i64 0) := (blk_cell hbox 1).trans rfl; have hz1 := blk_frozen hbox 1; have hq2 : w5.cell? ⟨gb7, 2, none⟩ = some (.string (⟨#[]⟩ : ByteArray)) := (blk_cell hbox 2).trans rfl; have hz2 := blk_frozen hbox 2; have hq3 : w5.cell? ⟨gb7, 3, none⟩ = some (.string (⟨#[]⟩ : ByteArray)) := (blk_cell hbox 3).trans rfl; have hz3 := blk_frozen hbox 3; clear hgb hbox hbb))
                go_roundg n1
                case measure => have := HI.out; omega
                case rel => exact ⟨i + 1, l, c, m, by first | rfl | (congr 1; omega), ⟨by have := HI.out; omega⟩, ⟨HO.out.on (below_set (below_set (below_set (below_set HW5.out HG7.out) HG7.out) HG7.out) HG7.out)⟩, ⟨by rw [← HD.out]; exact HF.out⟩, ⟨by rw [← HD.out]; exact HGD.out⟩, ⟨by have := HCC.out; omega⟩⟩
      · have b0e : but.toList.isEmpty = false := by simpa using b0
        have HKB : Aside0 (but = keepB) := ⟨by rcases HBT.out with q | q; exact absurd q.1 b0; exact q.1⟩
        by_cases b1 : nm.toList = but.toList
        · have b1' := b1
          go_wp2_with (first | ((with_reducible refine gate_dst (N := 7) rfl ?_); refine box_event ?hg (N := 7) ?hd (cs := #[.int .i64 0, .int .i64 0, .string (⟨#[]⟩ : ByteArray), .string (⟨#[]⟩ : ByteArray)]) (t := 48) ?hr ?_; (case hd => rfl); (case hg => rfl); (case hr => first | (go_simp; done) | (go_simp; rfl)); intro gb7 hgb w5 hbox hbb; have HG7 := Lib.hid (show wo.heap.size ≤ gb7 by rw [hgb]; exact Nat.le_refl _); have HW5 := Lib.hid hbb; have HBX := Lib.hid hbox; have hq0 : w5.cell? ⟨gb7, 0, none⟩ = some (.int .i64 0) := (blk_cell hbox 0).trans rfl; have hz0 := blk_frozen hbox 0; have hq1 : w5.cell? ⟨gb7, 1, none⟩ = some (.int .i64 0) := (blk_cell hbox 1).trans rfl; have hz1 := blk_frozen hbox 1; have hq2 : w5.cell? ⟨gb7, 2, none⟩ = some (.string (⟨#[]⟩ : ByteArray)) := (blk_cell hbox 2).trans rfl; have hz2 := blk_frozen hbox 2; have hq3 : w5.cell? ⟨gb7, 3, none⟩ = some (.string (⟨#[]⟩ : ByteArray)) := (blk_cell hbox 3).trans rfl; have hz3 := blk_frozen hbox 3; clear hgb hbox hbb))
          go_roundg n1
          case measure => have := HI.out; omega
          case rel => exact ⟨i + 1, l, c, m, by first | rfl | (congr 1; omega), ⟨by have := HI.out; omega⟩, ⟨HO.out.on (below_set (below_set (below_set (below_set HW5.out HG7.out) HG7.out) HG7.out) HG7.out)⟩, ⟨by rw [← HD.out]; exact HF.out⟩, ⟨by rw [← HD.out]; exact HGD.out⟩, ⟨by have := HCC.out; omega⟩⟩
        · have b1e : (nm.toList == but.toList) = false := by simpa using b1
          have HNK : Aside0 (nm ≠ keepB) := ⟨fun q => b1 (by rw [q, HKB.out])⟩
          by_cases b2 : nm.toList = ([] : List UInt8)
          · by_cases k1 : kd = 1
            · subst k1
              go_wp2_with (first | ((with_reducible refine gate_dst (N := 7) rfl ?_); refine box_event ?hg (N := 7) ?hd (cs := #[.int .i64 0, .int .i64 0, .string (⟨#[]⟩ : ByteArray), .string (⟨#[]⟩ : ByteArray)]) (t := 48) ?hr ?_; (case hd => rfl); (case hg => rfl); (case hr => first | (go_simp; done) | (go_simp; rfl)); intro gb7 hgb w5 hbox hbb; have HG7 := Lib.hid (show wo.heap.size ≤ gb7 by rw [hgb]; exact Nat.le_refl _); have HW5 := Lib.hid hbb; have HBX := Lib.hid hbox; have hq0 : w5.cell? ⟨gb7, 0, none⟩ = some (.int .i64 0) := (blk_cell hbox 0).trans rfl; have hz0 := blk_frozen hbox 0; have hq1 : w5.cell? ⟨gb7, 1, none⟩ = some (.int .i64 0) := (blk_cell hbox 1).trans rfl; have hz1 := blk_frozen hbox 1; have hq2 : w5.cell? ⟨gb7, 2, none⟩ = some (.string (⟨#[]⟩ : ByteArray)) := (blk_cell hbox 2).trans rfl; have hz2 := blk_frozen hbox 2; have hq3 : w5.cell? ⟨gb7, 3, none⟩ = some (.string (⟨#[]⟩ : ByteArray)) := (blk_cell hbox 3).trans rfl; have hz3 := blk_frozen hbox 3; clear hgb hbox hbb) | ((go_at_call 12); (with_reducible refine (own_set HL.out (HO.out.on (below_set (below_set (below_set (below_set HW5.out HG7.out) HG7.out) HG7.out) HG7.out)) HLEN.out HF.out.c0 (by have := HC0.out; have := HCC.out; have := HI.out; omega) (by have := HF.out.m1; omega) HF.out.m2 nm tx HNM.out (setN D c m nm tx) (by rw [HD.out])).mono ?_); rintro e w6 ⟨l', hl', rfl, hO6, hF6⟩; have HO6 := Lib.hid hO6; have HL6 := Lib.hid hl'; clear hO6 hl' hF6))
              go_roundg n1
              case measure => have := HI.out; omega
              case rel => exact ⟨i + 1, l', _, m, by first | rfl | (congr 1; omega), ⟨by have := HI.out; omega⟩, ⟨HO6.out⟩, ⟨by rw [HL6.out]; exact few_set HF.out nm tx |>.1⟩, ⟨by rw [HL6.out]; exact HGD.out.set c m HF.out.c0 nm tx (fun _ _ q => absurd q HNK.out)⟩, ⟨by have q := (few_set HF.out nm tx).2; have := HCC.out; omega⟩⟩
            · have k1b : (kd == 1) = false := by simpa using k1
              go_wp2_with (first | ((with_reducible refine gate_dst (N := 7) rfl ?_); refine box_event ?hg (N := 7) ?hd (cs := #[.int .i64 0, .int .i64 0, .string (⟨#[]⟩ : ByteArray), .string (⟨#[]⟩ : ByteArray)]) (t := 48) ?hr ?_; (case hd => rfl); (case hg => rfl); (case hr => first | (go_simp; done) | (go_simp; rfl)); intro gb7 hgb w5 hbox hbb; have HG7 := Lib.hid (show wo.heap.size ≤ gb7 by rw [hgb]; exact Nat.le_refl _); have HW5 := Lib.hid hbb; have HBX := Lib.hid hbox; have hq0 : w5.cell? ⟨gb7, 0, none⟩ = some (.int .i64 0) := (blk_cell hbox 0).trans rfl; have hz0 := blk_frozen hbox 0; have hq1 : w5.cell? ⟨gb7, 1, none⟩ = some (.int .i64 0) := (blk_cell hbox 1).trans rfl; have hz1 := blk_frozen hbox 1; have hq2 : w5.cell? ⟨gb7, 2, none⟩ = some (.string (⟨#[]⟩ : ByteArray)) := (blk_cell hbox 2).trans rfl; have hz2 := blk_frozen hbox 2; have hq3 : w5.cell? ⟨gb7, 3, none⟩ = some (.string (⟨#[]⟩ : ByteArray)) := (blk_cell hbox 3).trans rfl; have hz3 := blk_frozen hbox 3; clear hgb hbox hbb))
              go_roundg n1
              case measure => have := HI.out; omega
              case rel => exact ⟨i + 1, l, c, m, by first | rfl | (congr 1; omega), ⟨by have := HI.out; omega⟩, ⟨HO.out.on (below_set (below_set (below_set (below_set HW5.out HG7.out) HG7.out) HG7.out) HG7.out)⟩, ⟨by rw [← HD.out]; exact HF.out⟩, ⟨by rw [← HD.out]; exact HGD.out⟩, ⟨by have := HCC.out; omega⟩⟩
          · have b2e : nm.toList.isEmpty = false := by simpa using b2
            by_cases k1 : kd = 1
            · subst k1
              go_wp2_with (first | ((with_reducible refine gate_dst (N := 7) rfl ?_); refine box_event ?hg (N := 7) ?hd (cs := #[.int .i64 0, .int .i64 0, .string (⟨#[]⟩ : ByteArray), .string (⟨#[]⟩ : ByteArray)]) (t := 48) ?hr ?_; (case hd => rfl); (case hg => rfl); (case hr => first | (go_simp; done) | (go_simp; rfl)); intro gb7 hgb w5 hbox hbb; have HG7 := Lib.hid (show wo.heap.size ≤ gb7 by rw [hgb]; exact Nat.le_refl _); have HW5 := Lib.hid hbb; have HBX := Lib.hid hbox; have hq0 : w5.cell? ⟨gb7, 0, none⟩ = some (.int .i64 0) := (blk_cell hbox 0).trans rfl; have hz0 := blk_frozen hbox 0; have hq1 : w5.cell? ⟨gb7, 1, none⟩ = some (.int .i64 0) := (blk_cell hbox 1).trans rfl; have hz1 := blk_frozen hbox 1; have hq2 : w5.cell? ⟨gb7, 2, none⟩ = some (.string (⟨#[]⟩ : ByteArray)) := (blk_cell hbox 2).trans rfl; have hz2 := blk_frozen hbox 2; have hq3 : w5.cell? ⟨gb7, 3, none⟩ = some (.string (⟨#[]⟩ : ByteArray)) := (blk_cell hbox 3).trans rfl; have hz3 := blk_frozen hbox 3; clear hgb hbox hbb) | ((go_at_call 12); (with_reducible refine (own_set HL.out (HO.out.on (below_set (below_set (below_set (below_set HW5.out HG7.out) HG7.out) HG7.out) HG7.out)) HLEN.out HF.out.c0 (by have := HC0.out; have := HCC.out; have := HI.out; omega) (by have := HF.out.m1; omega) HF.out.m2 nm tx HNM.out (setN D c m nm tx) (by rw [HD.out])).mono ?_); rintro e w6 ⟨l', hl', rfl, hO6, hF6⟩; have HO6 := Lib.hid hO6; have HL6 := Lib.hid hl'; clear hO6 hl' hF6))
              go_roundg n1
              case measure => have := HI.out; omega
              case rel => exact ⟨i + 1, l', _, m, by first | rfl | (congr 1; omega), ⟨by have := HI.out; omega⟩, ⟨HO6.out⟩, ⟨by rw [HL6.out]; exact few_set HF.out nm tx |>.1⟩, ⟨by rw [HL6.out]; exact HGD.out.set c m HF.out.c0 nm tx (fun _ _ q => absurd q HNK.out)⟩, ⟨by have q := (few_set HF.out nm tx).2; have := HCC.out; omega⟩⟩
            · have k1b : (kd == 1) = false := by simpa using k1
              by_cases k3 : kd = 3
              · subst k3
                go_wp2_with (first | ((with_reducible refine gate_dst (N := 7) rfl ?_); refine box_event ?hg (N := 7) ?hd (cs := #[.int .i64 0, .int .i64 0, .string (⟨#[]⟩ : ByteArray), .string (⟨#[]⟩ : ByteArray)]) (t := 48) ?hr ?_; (case hd => rfl); (case hg => rfl); (case hr => first | (go_simp; done) | (go_simp; rfl)); intro gb7 hgb w5 hbox hbb; have HG7 := Lib.hid (show wo.heap.size ≤ gb7 by rw [hgb]; exact Nat.le_refl _); have HW5 := Lib.hid hbb; have HBX := Lib.hid hbox; have hq0 : w5.cell? ⟨gb7, 0, none⟩ = some (.int .i64 0) := (blk_cell hbox 0).trans rfl; have hz0 := blk_frozen hbox 0; have hq1 : w5.cell? ⟨gb7, 1, none⟩ = some (.int .i64 0) := (blk_cell hbox 1).trans rfl; have hz1 := blk_frozen hbox 1; have hq2 : w5.cell? ⟨gb7, 2, none⟩ = some (.string (⟨#[]⟩ : ByteArray)) := (blk_cell hbox 2).trans rfl; have hz2 := blk_frozen hbox 2; have hq3 : w5.cell? ⟨gb7, 3, none⟩ = some (.string (⟨#[]⟩ : ByteArray)) := (blk_cell hbox 3).trans rfl; have hz3 := blk_frozen hbox 3; clear hgb hbox hbb) | ((go_at_call 22); (with_reducible refine (delete_calls (HO.out.on (below_set (below_set (below_set (below_set HW5.out HG7.out) HG7.out) HG7.out) HG7.out)).buf (by have := HLEN.out; omega) nm).mono ?_); rintro e w6 ⟨l', hl', rfl, hB', hF'⟩; rw [← HD.out] at hl' ⊢; have HO6 := Lib.hid ((HO.out.on (below_set (below_set (below_set (below_set HW5.out HG7.out) HG7.out) HG7.out) HG7.out)).next hF' hB'); have HL6 := Lib.hid hl'; clear hl' hB' hF'))
                go_roundg n1
                case measure => have := HI.out; omega
                case rel => exact ⟨i + 1, l', _, m, by first | rfl | (congr 1; omega), ⟨by have := HI.out; omega⟩, ⟨HO6.out⟩, ⟨by rw [HL6.out]; exact few_delete HF.out nm⟩, ⟨by rw [HL6.out]; exact HGD.out.delete nm⟩, ⟨by have := HCC.out; omega⟩⟩
              · have k3b : (kd == 3) = false := by simpa using k3
                by_cases k4 : kd = 4
                · subst k4
                  by_cases b3 : tx.toList = but.toList
                  · have b3' := b3
                    go_wp2_with (first | ((with_reducible refine gate_dst (N := 7) rfl ?_); refine box_event ?hg (N := 7) ?hd (cs := #[.int .i64 0, .int .i64 0, .string (⟨#[]⟩ : ByteArray), .string (⟨#[]⟩ : ByteArray)]) (t := 48) ?hr ?_; (case hd => rfl); (case hg => rfl); (case hr => first | (go_simp; done) | (go_simp; rfl)); intro gb7 hgb w5 hbox hbb; have HG7 := Lib.hid (show wo.heap.size ≤ gb7 by rw [hgb]; exact Nat.le_refl _); have HW5 := Lib.hid hbb; have HBX := Lib.hid hbox; have hq0 : w5.cell? ⟨gb7, 0, none⟩ = some (.int .i64 0) := (blk_cell hbox 0).trans rfl; have hz0 := blk_frozen hbox 0; have hq1 : w5.cell? ⟨gb7, 1, none⟩ = some (.int .i64 0) := (blk_cell hbox 1).trans rfl; have hz1 := blk_frozen hbox 1; have hq2 : w5.cell? ⟨gb7, 2, none⟩ = some (.string (⟨#[]⟩ : ByteArray)) := (blk_cell hbox 2).trans rfl; have hz2 := blk_frozen hbox 2; have hq3 : w5.cell? ⟨gb7, 3, none⟩ = some (.string (⟨#[]⟩ : ByteArray)) := (blk_cell hbox 3).trans rfl; have hz3 := blk_frozen hbox 3; clear hgb hbox hbb))
                    go_roundg n1
                    case measure => have := HI.out; omega
                    case rel => exact ⟨i + 1, l, c, m, by first | rfl | (congr 1; omega), ⟨by have := HI.out; omega⟩, ⟨HO.out.on (below_set (below_set (below_set (below_set HW5.out HG7.out) HG7.out) HG7.out) HG7.out)⟩, ⟨by rw [← HD.out]; exact HF.out⟩, ⟨by rw [← HD.out]; exact HGD.out⟩, ⟨by have := HCC.out; omega⟩⟩
                  · have b3e : (tx.toList == but.toList) = false := by simpa using b3
                    go_wp2_with (first | ((with_reducible refine gate_dst (N := 7) rfl ?_); refine box_event ?hg (N := 7) ?hd (cs := #[.int .i64 0, .int .i64 0, .string (⟨#[]⟩ : ByteArray), .string (⟨#[]⟩ : ByteArray)]) (t := 48) ?hr ?_; (case hd => rfl); (case hg => rfl); (case hr => first | (go_simp; done) | (go_simp; rfl)); intro gb7 hgb w5 hbox hbb; have HG7 := Lib.hid (show wo.heap.size ≤ gb7 by rw [hgb]; exact Nat.le_refl _); have HW5 := Lib.hid hbb; have HBX := Lib.hid hbox; have hq0 : w5.cell? ⟨gb7, 0, none⟩ = some (.int .i64 0) := (blk_cell hbox 0).trans rfl; have hz0 := blk_frozen hbox 0; have hq1 : w5.cell? ⟨gb7, 1, none⟩ = some (.int .i64 0) := (blk_cell hbox 1).trans rfl; have hz1 := blk_frozen hbox 1; have hq2 : w5.cell? ⟨gb7, 2, none⟩ = some (.string (⟨#[]⟩ : ByteArray)) := (blk_cell hbox 2).trans rfl; have hz2 := blk_frozen hbox 2; have hq3 : w5.cell? ⟨gb7, 3, none⟩ = some (.string (⟨#[]⟩ : ByteArray)) := (blk_cell hbox 3).trans rfl; have hz3 := blk_frozen hbox 3; clear hgb hbox hbb) | ((go_at_call 24); (with_reducible refine (rename_calls (HO.out.on (below_set (below_set (below_set (below_set HW5.out HG7.out) HG7.out) HG7.out) HG7.out)).buf (by have := HLEN.out; omega) nm tx HTX.out).mono ?_); rintro e w6 ⟨l', hl', rfl, hB', hF'⟩; rw [← HD.out] at hl' ⊢; have HO6 := Lib.hid ((HO.out.on (below_set (below_set (below_set (below_set HW5.out HG7.out) HG7.out) HG7.out) HG7.out)).next hF' hB'); have HL6 := Lib.hid hl'; clear hl' hB' hF'))
                    go_roundg n1
                    case measure => have := HI.out; omega
                    case rel => exact ⟨i + 1, l', _, m, by first | rfl | (congr 1; omega), ⟨by have := HI.out; omega⟩, ⟨HO6.out⟩, ⟨by rw [HL6.out]; exact few_rename HF.out nm tx⟩, ⟨by rw [HL6.out]; exact HGD.out.rename nm tx (.inr (fun q => b3 (by rw [q, HKB.out])))⟩, ⟨by have := HCC.out; omega⟩⟩
                · have k4b : (kd == 4) = false := by simpa using k4
                  by_cases k6 : kd = 6
                  · subst k6
                    go_wp2_with (first | ((with_reducible refine gate_dst (N := 7) rfl ?_); refine box_event ?hg (N := 7) ?hd (cs := #[.int .i64 0, .int .i64 0, .string (⟨#[]⟩ : ByteArray), .string (⟨#[]⟩ : ByteArray)]) (t := 48) ?hr ?_; (case hd => rfl); (case hg => rfl); (case hr => first | (go_simp; done) | (go_simp; rfl)); intro gb7 hgb w5 hbox hbb; have HG7 := Lib.hid (show wo.heap.size ≤ gb7 by rw [hgb]; exact Nat.le_refl _); have HW5 := Lib.hid hbb; have HBX := Lib.hid hbox; have hq0 : w5.cell? ⟨gb7, 0, none⟩ = some (.int .i64 0) := (blk_cell hbox 0).trans rfl; have hz0 := blk_frozen hbox 0; have hq1 : w5.cell? ⟨gb7, 1, none⟩ = some (.int .i64 0) := (blk_cell hbox 1).trans rfl; have hz1 := blk_frozen hbox 1; have hq2 : w5.cell? ⟨gb7, 2, none⟩ = some (.string (⟨#[]⟩ : ByteArray)) := (blk_cell hbox 2).trans rfl; have hz2 := blk_frozen hbox 2; have hq3 : w5.cell? ⟨gb7, 3, none⟩ = some (.string (⟨#[]⟩ : ByteArray)) := (blk_cell hbox 3).trans rfl; have hz3 := blk_frozen hbox 3; clear hgb hbox hbb) | ((go_at_call 26); (with_reducible refine (limit_calls (HO.out.on (below_set (below_set (below_set (below_set HW5.out HG7.out) HG7.out) HG7.out) HG7.out)).buf (by have := HLEN.out; omega) nn).mono ?_); rintro e w6 ⟨l', hl', rfl, hB', hF'⟩; rw [← HD.out] at hl' ⊢; (try rw [← HD.out] at hB'); have HO6 := Lib.hid ((HO.out.on (below_set (below_set (below_set (below_set HW5.out HG7.out) HG7.out) HG7.out) HG7.out)).next hF' hB'); have HL6 := Lib.hid hl'; clear hl' hB' hF'))
                    go_roundg n1
                    case measure => have := HI.out; omega
                    case rel => exact ⟨i + 1, l', _, _, by first | rfl | (congr 1; omega), ⟨by have := HI.out; omega⟩, ⟨HO6.out⟩, ⟨by rw [HL6.out]; exact few_limit HF.out nn⟩, ⟨by rw [HL6.out]; exact HGD.out.limit m nn⟩, ⟨by have := HCC.out; omega⟩⟩
                  · have k6b : (kd == 6) = false := by simpa using k6
                    go_wp2_with (first | ((with_reducible refine gate_dst (N := 7) rfl ?_); refine box_event ?hg (N := 7) ?hd (cs := #[.int .i64 0, .int .i64 0, .string (⟨#[]⟩ : ByteArray), .string (⟨#[]⟩ : ByteArray)]) (t := 48) ?hr ?_; (case hd => rfl); (case hg => rfl); (case hr => first | (go_simp; done) | (go_simp; rfl)); intro gb7 hgb w5 hbox hbb; have HG7 := Lib.hid (show wo.heap.size ≤ gb7 by rw [hgb]; exact Nat.le_refl _); have HW5 := Lib.hid hbb; have HBX := Lib.hid hbox; have hq0 : w5.cell? ⟨gb7, 0, none⟩ = some (.int .i64 0) := (blk_cell hbox 0).trans rfl; have hz0 := blk_frozen hbox 0; have hq1 : w5.cell? ⟨gb7, 1, none⟩ = some (.int .i64 0) := (blk_cell hbox 1).trans rfl; have hz1 := blk_frozen hbox 1; have hq2 : w5.cell? ⟨gb7, 2, none⟩ = some (.string (⟨#[]⟩ : ByteArray)) := (blk_cell hbox 2).trans rfl; have hz2 := blk_frozen hbox 2; have hq3 : w5.cell? ⟨gb7, 3, none⟩ = some (.string (⟨#[]⟩ : ByteArray)) := (blk_cell hbox 3).trans rfl; have hz3 := blk_frozen hbox 3; clear hgb hbox hbb))
                    go_roundg n1
                    case measure => have := HI.out; omega
                    case rel => exact ⟨i + 1, l, c, m, by first | rfl | (congr 1; omega), ⟨by have := HI.out; omega⟩, ⟨HO.out.on (below_set (below_set (below_set (below_set HW5.out HG7.out) HG7.out) HG7.out) HG7.out)⟩, ⟨by rw [← HD.out]; exact HF.out⟩, ⟨by rw [← HD.out]; exact HGD.out⟩, ⟨by have := HCC.out; omega⟩⟩
    · by_cases hg1 : i < xs.length
      · have hg2 : ¬ i < 300 := fun h => hgo ⟨hg1, h⟩
        have hg1' : (i : Int) < (xs.length : Int) := by omega
        have hg2' : ¬ (i : Int) < 300 := by omega
        go_wp2
        all_goals go_returns
        all_goals exact ⟨rfl, l, c, m, HO.out, HFl.out, HGDl.out, by have := HCC.out; have := HI.out; omega⟩
      · have hg1' : ¬ (i : Int) < (xs.length : Int) := by omega
        go_wp2
        all_goals go_returns
        all_goals exact ⟨rfl, l, c, m, HO.out, HFl.out, HGDl.out, by have := HCC.out; have := HI.out; omega⟩
end Go.Proofs.YtjkmmfjlladlfaaDoor.Hand
