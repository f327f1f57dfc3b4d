/- The buffers' methods, walked, second part: Set, Rename, New. Conditions: the list has at most 900 buffers, the counter is small, names and texts have less than 2^62 bytes; the tables lie as they are laid. -/
import Derived.Test.YtjkmmfjlladlfaaDoorSHandE
namespace Go.Proofs.YtjkmmfjlladlfaaDoor.Hand
set_option linter.unusedVariables false
set_option linter.unusedSimpArgs false
open Go.RowKit Go.Proofs.YtjkmmfjlladlfaaDoor.PBuf Go.Proofs.YtjkmmfjlladlfaaDoor.Given Go.Proofs.YtjkmmfjlladlfaaDoorW.PrintWords Go.Proofs.YtjkmmfjlladlfaaDoorW.PrintLast

/-- What a call of Set leaves, told by its list, its counter, its results. -/
def SetPost (W : World) (g : Nat) (m : Int) (r : List S79 × Int × ByteArray × Int) (e : Ending) (W' : World) : Prop :=
  ∃ l', l'.map tr = r.1 ∧ e = .returned (.tuple #[.string r.2.2.1, .int .i64 r.2.2.2]) ∧ Buf W' g l' r.2.1 m ∧ Fr W W' g

set_option maxHeartbeats 1600000 in
set_option maxRecDepth 100000 in
theorem set_long {W : World} {g : Nat} {l : List S68} {c m : Int} (h : Buf W g l c m) (name text : ByteArray) (ht : (text.size : Int) > 65536) :
    Calls Tryd.prog 12 #[.pointer (some ⟨g, 0, none⟩), .string name, .string text] W (SetPost W g m (l.map tr, c, ⟨#[]⟩, 2)) := by
  have HB := Lib.hid h
  clear h
  go_enter Tryd.func12, Tryd.ntmps12
  go_wp2
  all_goals go_returns
  all_goals exact ⟨l, rfl, rfl, HB.out, HB.out.frb (Below.refl _ _)⟩

set_option maxHeartbeats 1600000 in
set_option maxRecDepth 100000 in
theorem set_auto_calls {W : World} {g : Nat} {l : List S68} {c m : Int} (hL : LaidW W) (h : Buf W g l c m) (hg3 : 3 < g) (ha3 : ∀ k, arr W g = some k → 3 < k) (hl : l.length ≤ 900) (hc : 0 ≤ c) (hc2 : c ≤ 3000000000000) (hm0 : 0 ≤ m) (hm1 : m ≤ 20) (name text : ByteArray) (ht : ¬ (text.size : Int) > 65536) (hn : name.toList = ([] : List UInt8)) :
    Calls Tryd.prog 12 #[.pointer (some ⟨g, 0, none⟩), .string name, .string text] W (SetPost W g m (trimN (⟨bufName (nextN (l.map tr) c), text, true⟩ :: l.map tr) m, nextN (l.map tr) c + 1, bufName (nextN (l.map tr) c), 0)) := by
  have HB := Lib.hid h
  have HL := Lib.hid hL
  have HA3 := Lib.hid ha3
  clear h hL ha3
  obtain rfl : name = ⟨#[]⟩ := toList_inj (by rw [hn, ByteArray.toList_eq])
  clear hn
  go_enter Tryd.func12, Tryd.ntmps12
  go_wp2_with (first | ((go_at_call 29); (with_reducible refine (next_calls HL.out HB.out hg3 HA3.out hl hc hc2).mono ?_); rintro e w1 ⟨rfl, hB1, hg1⟩; have HB1 := Lib.hid hB1; have HG1 := Lib.hid hg1; clear hB1 hg1) | ((go_at_call 30); (with_reducible refine (push_calls HB1.out (by omega) ⟨⟨bufName (nextN (l.map tr) c), text⟩, true⟩).mono ?_); rintro e w2 ⟨rfl, hB2, hg2⟩; have HB2 := Lib.hid hB2; have HG2 := Lib.hid hg2; clear hB2 hg2) | ((go_at_call 31); (with_reducible refine (trim_calls HB2.out (by simp; omega) hm0 hm1).mono ?_); rintro e w3 ⟨l3, hl3, rfl, hB3, hg3'⟩; have HL3 := Lib.hid hl3; have HB3 := Lib.hid hB3; have HG3 := Lib.hid hg3'; clear hl3 hB3 hg3'))
  all_goals go_returns
  all_goals exact ⟨l3, HL3.out, rfl, HB3.out, Fr.trans HG1.out (Fr.trans HG2.out HG3.out)⟩

set_option maxHeartbeats 1600000 in
set_option maxRecDepth 100000 in
theorem set_noword {W : World} {g : Nat} {l : List S68} {c m : Int} (h : Buf W g l c m) (name text : ByteArray) (hs : name.size ≤ 4611686018427387904) (ht : ¬ (text.size : Int) > 65536) (hn : name.toList ≠ ([] : List UInt8)) (hw : wordN name = false) :
    Calls Tryd.prog 12 #[.pointer (some ⟨g, 0, none⟩), .string name, .string text] W (SetPost W g m (l.map tr, c, ⟨#[]⟩, 73)) := by
  have HB := Lib.hid h
  have hne : (name.toList == ([] : List UInt8)) = false := by simpa using hn
  have HW := Lib.hid hw
  clear h hn hw
  go_enter Tryd.func12, Tryd.ntmps12
  go_wp2_with (((go_at_call 32); (with_reducible refine (word_calls _ name hs).mono ?_); rintro e w1 ⟨rfl, hb1⟩; rw [HW.out]))
  all_goals go_returns
  all_goals exact ⟨l, rfl, rfl, HB.out.below hb1, HB.out.frb hb1⟩

theorem rd68_f1 (l : List S68) (i : Int) : (rd_T79 (l.map tr) i).f2 = (rd_T68 l i).f1 := by rw [rd_tr]; rfl

set_option maxHeartbeats 3200000 in
set_option maxRecDepth 100000 in
theorem set_full {W : World} {g : Nat} {l : List S68} {c m : Int} (h : Buf W g l c m) (hl : l.length ≤ 900) (name text : ByteArray) (hs : name.size ≤ 4611686018427387904) (ht : ¬ (text.size : Int) > 65536) (hn : name.toList ≠ ([] : List UInt8)) (hw : wordN name = true) (ha : ¬ 0 ≤ atN (l.map tr) name) (hf : 20 ≤ countN (l.map tr) false) :
    Calls Tryd.prog 12 #[.pointer (some ⟨g, 0, none⟩), .string name, .string text] W (SetPost W g m (l.map tr, c, ⟨#[]⟩, 3)) := by
  have HB := Lib.hid h
  have hne : (name.toList == ([] : List UInt8)) = false := by simpa using hn
  have HW := Lib.hid hw
  clear h hn hw
  go_enter Tryd.func12, Tryd.ntmps12
  go_wp2_with (first | ((go_at_call 32); (with_reducible refine (word_calls _ name hs).mono ?_); rintro e w1 ⟨rfl, hb1⟩; rw [HW.out]; have HW1 := Lib.hid hb1) | ((with_reducible refine gate_dst (N := 8) rfl ?_); refine box_event ?hg (N := 8) ?hd (cs := #[.string (⟨#[]⟩ : ByteArray), .string (⟨#[]⟩ : ByteArray), .bool false]) (t := 68) ?hr ?_; (case hd => rfl); (case hg => rfl); (case hr => first | (go_simp; done) | (go_simp; rfl)); intro gb hgb w2 hbox hb2; have HGE := Lib.hid (show W.heap.size ≤ gb by rw [hgb]; exact HW1.out.size); have HW2 := Lib.hid (below_step HW1.out hb2); have BK := Lib.hid hbox; have hz0 := blk_frozen hbox 0; have hz1 := blk_frozen hbox 1; have hz2 := blk_frozen hbox 2; have hq0 : w2.cell? ⟨gb, 0, none⟩ = some (.string (⟨#[]⟩ : ByteArray)) := (blk_cell hbox 0).trans rfl; have hq1 : w2.cell? ⟨gb, 1, none⟩ = some (.string (⟨#[]⟩ : ByteArray)) := (blk_cell hbox 1).trans rfl; have hq2 : w2.cell? ⟨gb, 2, none⟩ = some (.bool false) := (blk_cell hbox 2).trans rfl; clear hgb hbox hb2 hb1) | ((go_at_call 33); (with_reducible refine (at_calls (HB.out.below (below_set (below_set (below_set HW2.out HGE.out) HGE.out) HGE.out)) (by omega) name).mono ?_); rintro e w3 ⟨rfl, hb3⟩; clear hz0 hz1 hz2 hq0 hq1 hq2; have HW3 := Lib.hid (below_step (below_set (below_set (below_set HW2.out HGE.out) HGE.out) HGE.out) hb3); have BK3 := Lib.hid (blk_below (g := gb) (o := .cells #[.string name, .string text, .bool false] 68 (0, 0)) (blk_put (blk_put (blk_put BK.out 0 _ rfl) 1 _ rfl) 2 _ rfl) hb3); clear hb3) | ((go_at_call 35); (with_reducible refine (count_calls (HB.out.below HW3.out) (by omega) false).mono ?_); rintro e w4 ⟨rfl, hb4⟩; have HW4 := Lib.hid (below_step HW3.out hb4); have BK4 := Lib.hid (blk_below BK3.out hb4); have hx0 : w4.cell? ⟨gb, 0, none⟩ = some (.string name) := (blk_cell BK4.out 0).trans rfl; have hx1 : w4.cell? ⟨gb, 1, none⟩ = some (.string text) := (blk_cell BK4.out 1).trans rfl; have hx2 : w4.cell? ⟨gb, 2, none⟩ = some (.bool false) := (blk_cell BK4.out 2).trans rfl; clear hb4))
  all_goals go_returns
  all_goals exact ⟨l, rfl, rfl, HB.out.below HW4.out, HB.out.frb HW4.out⟩

set_option maxHeartbeats 3200000 in
set_option maxRecDepth 100000 in
theorem set_new {W : World} {g : Nat} {l : List S68} {c m : Int} (h : Buf W g l c m) (hl : l.length ≤ 900) (name text : ByteArray) (hs : name.size ≤ 4611686018427387904) (ht : ¬ (text.size : Int) > 65536) (hn : name.toList ≠ ([] : List UInt8)) (hw : wordN name = true) (ha : ¬ 0 ≤ atN (l.map tr) name) (hf : ¬ 20 ≤ countN (l.map tr) false) :
    Calls Tryd.prog 12 #[.pointer (some ⟨g, 0, none⟩), .string name, .string text] W (SetPost W g m (⟨name, text, false⟩ :: l.map tr, c, name, 0)) := by
  have HB := Lib.hid h
  have hne : (name.toList == ([] : List UInt8)) = false := by simpa using hn
  have HW := Lib.hid hw
  clear h hn hw
  go_enter Tryd.func12, Tryd.ntmps12
  go_wp2_with (first | ((go_at_call 32); (with_reducible refine (word_calls _ name hs).mono ?_); rintro e w1 ⟨rfl, hb1⟩; rw [HW.out]; have HW1 := Lib.hid hb1) | ((with_reducible refine gate_dst (N := 8) rfl ?_); refine box_event ?hg (N := 8) ?hd (cs := #[.string (⟨#[]⟩ : ByteArray), .string (⟨#[]⟩ : ByteArray), .bool false]) (t := 68) ?hr ?_; (case hd => rfl); (case hg => rfl); (case hr => first | (go_simp; done) | (go_simp; rfl)); intro gb hgb w2 hbox hb2; have HGE := Lib.hid (show W.heap.size ≤ gb by rw [hgb]; exact HW1.out.size); have HW2 := Lib.hid (below_step HW1.out hb2); have BK := Lib.hid hbox; have hz0 := blk_frozen hbox 0; have hz1 := blk_frozen hbox 1; have hz2 := blk_frozen hbox 2; have hq0 : w2.cell? ⟨gb, 0, none⟩ = some (.string (⟨#[]⟩ : ByteArray)) := (blk_cell hbox 0).trans rfl; have hq1 : w2.cell? ⟨gb, 1, none⟩ = some (.string (⟨#[]⟩ : ByteArray)) := (blk_cell hbox 1).trans rfl; have hq2 : w2.cell? ⟨gb, 2, none⟩ = some (.bool false) := (blk_cell hbox 2).trans rfl; clear hgb hbox hb2 hb1) | ((go_at_call 33); (with_reducible refine (at_calls (HB.out.below (below_set (below_set (below_set HW2.out HGE.out) HGE.out) HGE.out)) (by omega) name).mono ?_); rintro e w3 ⟨rfl, hb3⟩; clear hz0 hz1 hz2 hq0 hq1 hq2; have HW3 := Lib.hid (below_step (below_set (below_set (below_set HW2.out HGE.out) HGE.out) HGE.out) hb3); have BK3 := Lib.hid (blk_below (g := gb) (o := .cells #[.string name, .string text, .bool false] 68 (0, 0)) (blk_put (blk_put (blk_put BK.out 0 _ rfl) 1 _ rfl) 2 _ rfl) hb3); clear hb3) | ((go_at_call 35); (with_reducible refine (count_calls (HB.out.below HW3.out) (by omega) false).mono ?_); rintro e w4 ⟨rfl, hb4⟩; have HW4 := Lib.hid (below_step HW3.out hb4); have BK4 := Lib.hid (blk_below BK3.out hb4); have hx0 : w4.cell? ⟨gb, 0, none⟩ = some (.string name) := (blk_cell BK4.out 0).trans rfl; have hx1 : w4.cell? ⟨gb, 1, none⟩ = some (.string text) := (blk_cell BK4.out 1).trans rfl; have hx2 : w4.cell? ⟨gb, 2, none⟩ = some (.bool false) := (blk_cell BK4.out 2).trans rfl; clear hb4) | ((go_at_call 30); (with_reducible refine (push_calls (HB.out.below HW4.out) (by omega) ⟨⟨name, text⟩, false⟩).mono ?_); rintro e w5 ⟨rfl, hB5, hg5⟩; have HB5 := Lib.hid hB5; have HG5 := Lib.hid hg5; clear hB5 hg5))
  all_goals go_returns
  all_goals exact ⟨_, rfl, rfl, HB5.out, Fr.trans (HB.out.frb HW4.out) HG5.out⟩

set_option maxHeartbeats 3200000 in
set_option maxRecDepth 100000 in
theorem set_found {W : World} {g : Nat} {l : List S68} {c m : Int} (h : Buf W g l c m) (hl : l.length ≤ 900) (name text : ByteArray) (hs : name.size ≤ 4611686018427387904) (ht : ¬ (text.size : Int) > 65536) (hn : name.toList ≠ ([] : List UInt8)) (hw : wordN name = true) (i : Nat) (ha : atN (l.map tr) name = i) (hi : i < l.length) :
    Calls Tryd.prog 12 #[.pointer (some ⟨g, 0, none⟩), .string name, .string text] W (SetPost W g m (⟨name, text, (rd_T79 (l.map tr) i).f2⟩ :: (l.map tr).eraseIdx i, c, name, 0)) := by
  have HB := Lib.hid h
  have hne : (name.toList == ([] : List UInt8)) = false := by simpa using hn
  have HW := Lib.hid hw
  have HA := Lib.hid ha
  have HGL := Lib.hid h.lt
  have HALT := Lib.hid h.arr_lt
  have hp : (0 : Int) ≤ (i : Int) := by omega
  have hq : (i : Int) < (l.length : Int) := by omega
  rw [rd68_f1, ← map_erase]
  clear h hn hw ha
  go_enter Tryd.func12, Tryd.ntmps12
  go_wp2_with (first | ((go_at_call 32); (with_reducible refine (word_calls _ name hs).mono ?_); rintro e w1 ⟨rfl, hb1⟩; rw [HW.out]; have HW1 := Lib.hid hb1) | ((with_reducible refine gate_dst (N := 8) rfl ?_); refine box_event ?hg (N := 8) ?hd (cs := #[.string (⟨#[]⟩ : ByteArray), .string (⟨#[]⟩ : ByteArray), .bool false]) (t := 68) ?hr ?_; (case hd => rfl); (case hg => rfl); (case hr => first | (go_simp; done) | (go_simp; rfl)); intro gb hgb w2 hbox hb2; have HGE := Lib.hid (show W.heap.size ≤ gb by rw [hgb]; exact HW1.out.size); have HW2 := Lib.hid (below_step HW1.out hb2); have BK := Lib.hid hbox; have hz0 := blk_frozen hbox 0; have hz1 := blk_frozen hbox 1; have hz2 := blk_frozen hbox 2; have hq0 : w2.cell? ⟨gb, 0, none⟩ = some (.string (⟨#[]⟩ : ByteArray)) := (blk_cell hbox 0).trans rfl; have hq1 : w2.cell? ⟨gb, 1, none⟩ = some (.string (⟨#[]⟩ : ByteArray)) := (blk_cell hbox 1).trans rfl; have hq2 : w2.cell? ⟨gb, 2, none⟩ = some (.bool false) := (blk_cell hbox 2).trans rfl; clear hgb hbox hb2 hb1) | ((go_at_call 33); (with_reducible refine (at_calls (HB.out.below (below_set (below_set (below_set HW2.out HGE.out) HGE.out) HGE.out)) (by omega) name).mono ?_); rintro e w3 ⟨rfl, hb3⟩; clear hz0 hz1 hz2 hq0 hq1 hq2; have HW3 := Lib.hid (below_step (below_set (below_set (below_set HW2.out HGE.out) HGE.out) HGE.out) hb3); have BK3 := Lib.hid (blk_below (g := gb) (o := .cells #[.string name, .string text, .bool false] 68 (0, 0)) (blk_put (blk_put (blk_put BK.out 0 _ rfl) 1 _ rfl) 2 _ rfl) hb3); clear hb3; rw [HA.out]; obtain ⟨A, cap, hc0, hc1, hc2, hf0, hf1, hf2, hx⟩ := (HB.out.below HW3.out).facts; obtain ⟨b, rfl, hx0, hx1, hx2⟩ := hx i hi; have hy2 := blk_frozen BK3.out 2; have hy3 : w3.cell? ⟨gb, 2, none⟩ = some (.bool false) := (blk_cell BK3.out 2).trans rfl) | ((go_at_call 34); (with_reducible refine (drop_calls (HB.out.below (below_set HW3.out HGE.out)) (by omega) i hi).mono ?_); rintro e w4 ⟨rfl, hB4, hg4⟩; have HB4 := Lib.hid hB4; have HG4 := Lib.hid hg4; clear hc0 hc1 hc2 hf0 hf1 hf2 hx0 hx1 hx2 hy2 hy3; have BK4 := Lib.hid (show w4.heap[gb]? = some (.cells #[.string name, .string text, .bool (rd_T68 l i).f1] 68 (0, 0)) from Fr.blk (blk_put BK3.out 2 _ rfl) hg4 (fun e => by have := HGE.out; have := HGL.out; omega) (fun j hj e => by rw [arr_kept ((below_set HW3.out HGE.out).block g HGL.out)] at hj; have := HALT.out j hj; have := HGE.out; omega)); have hx0 : w4.cell? ⟨gb, 0, none⟩ = some (.string name) := (blk_cell BK4.out 0).trans rfl; have hx1 : w4.cell? ⟨gb, 1, none⟩ = some (.string text) := (blk_cell BK4.out 1).trans rfl; have hx2 : w4.cell? ⟨gb, 2, none⟩ = some (.bool (rd_T68 l i).f1) := (blk_cell BK4.out 2).trans rfl; clear hB4 hg4) | ((go_at_call 30); (with_reducible refine (push_calls HB4.out (by rw [List.length_eraseIdx]; split <;> omega) ⟨⟨name, text⟩, (rd_T68 l i).f1⟩).mono ?_); rintro e w5 ⟨rfl, hB5, hg5⟩; have HB5 := Lib.hid hB5; have HG5 := Lib.hid hg5; clear hB5 hg5))
  all_goals go_returns
  all_goals exact ⟨_, rfl, rfl, HB5.out, Fr.trans (HB.out.frb (below_set HW3.out HGE.out)) (Fr.trans HG4.out HG5.out)⟩

/-- Set, whole. -/
theorem set_calls {W : World} {g : Nat} {l : List S68} {c m : Int} (hL : LaidW W) (h : Buf W g l c m) (hg3 : 3 < g) (ha3 : ∀ k, arr W g = some k → 3 < k) (hl : l.length ≤ 900) (hc : 0 ≤ c) (hc2 : c ≤ 3000000000000) (hm0 : 0 ≤ m) (hm1 : m ≤ 20) (name text : ByteArray) (hs : name.size ≤ 4611686018427387904) :
    Calls Tryd.prog 12 #[.pointer (some ⟨g, 0, none⟩), .string name, .string text] W (SetPost W g m (setN (l.map tr) c m name text)) := by
  by_cases ht : (text.size : Int) > 65536
  · have e : setN (l.map tr) c m name text = (l.map tr, c, ⟨#[]⟩, 2) := by unfold setN; rw [if_pos ht]
    rw [e]
    exact set_long h name text ht
  · by_cases hn : name.toList = ([] : List UInt8)
    · have e : setN (l.map tr) c m name text = (trimN (⟨bufName (nextN (l.map tr) c), text, true⟩ :: l.map tr) m, nextN (l.map tr) c + 1, bufName (nextN (l.map tr) c), 0) := by unfold setN; rw [if_neg ht, if_pos hn]
      rw [e]
      exact set_auto_calls hL h hg3 ha3 hl hc hc2 hm0 hm1 name text ht hn
    · by_cases hw : wordN name = true
      · by_cases ha : 0 ≤ atN (l.map tr) name
        · have e : setN (l.map tr) c m name text = (⟨name, text, (rd_T79 (l.map tr) (atN (l.map tr) name)).f2⟩ :: (l.map tr).eraseIdx (atN (l.map tr) name).toNat, c, name, 0) := by unfold setN; rw [if_neg ht, if_neg hn, if_pos hw, if_pos ha]
          have hr := atN_range (l.map tr) name
          rw [List.length_map] at hr
          have e2 : atN (l.map tr) name = (((atN (l.map tr) name).toNat : Nat) : Int) := by omega
          rw [e]
          have := set_found h hl name text hs ht hn hw (atN (l.map tr) name).toNat e2 (by omega)
          rw [← e2] at this
          exact this
        · by_cases hf : 20 ≤ countN (l.map tr) false
          · have e : setN (l.map tr) c m name text = (l.map tr, c, ⟨#[]⟩, 3) := by unfold setN; rw [if_neg ht, if_neg hn, if_pos hw, if_neg ha, if_pos hf]
            rw [e]
            exact set_full h hl name text hs ht hn hw ha hf
          · have e : setN (l.map tr) c m name text = (⟨name, text, false⟩ :: l.map tr, c, name, 0) := by unfold setN; rw [if_neg ht, if_neg hn, if_pos hw, if_neg ha, if_neg hf]
            rw [e]
            exact set_new h hl name text hs ht hn hw ha hf
      · have e : setN (l.map tr) c m name text = (l.map tr, c, ⟨#[]⟩, 73) := by unfold setN; rw [if_neg ht, if_neg hn, if_neg hw]
        rw [e]
        exact set_noword h name text hs ht hn (by simpa using hw)

/-! ### Rename -/
def RenPost (W : World) (g : Nat) (c m : Int) (r : List S79 × Int) (e : Ending) (W' : World) : Prop :=
  ∃ l', l'.map tr = r.1 ∧ e = .returned (.int .i64 r.2) ∧ Buf W' g l' c m ∧ Fr W W' g

set_option maxHeartbeats 1600000 in
set_option maxRecDepth 100000 in
theorem ren_none {W : World} {g : Nat} {l : List S68} {c m : Int} (h : Buf W g l c m) (hl : l.length ≤ 900) (name nu : ByteArray) (hm : meantN (l.map tr) name < 0) :
    Calls Tryd.prog 24 #[.pointer (some ⟨g, 0, none⟩), .string name, .string nu] W (RenPost W g c m (l.map tr, 240)) := by
  have HB := Lib.hid h
  clear h
  go_enter Tryd.func24, Tryd.ntmps24
  go_wp2_with ((go_at_call 36); (with_reducible refine (of_calls HB.out (by omega) name).mono ?_); rintro e w1 ⟨rfl, hb1⟩)
  all_goals go_returns
  all_goals exact ⟨l, rfl, rfl, HB.out.below hb1, HB.out.frb hb1⟩

set_option maxHeartbeats 1600000 in
set_option maxRecDepth 100000 in
theorem ren_noword {W : World} {g : Nat} {l : List S68} {c m : Int} (h : Buf W g l c m) (hl : l.length ≤ 900) (name nu : ByteArray) (hs : nu.size ≤ 4611686018427387904) (hm : ¬ meantN (l.map tr) name < 0) (hw : wordN nu = false) :
    Calls Tryd.prog 24 #[.pointer (some ⟨g, 0, none⟩), .string name, .string nu] W (RenPost W g c m (l.map tr, 73)) := by
  have HB := Lib.hid h
  have HW := Lib.hid hw
  clear h hw
  go_enter Tryd.func24, Tryd.ntmps24
  go_wp2_with (first | ((go_at_call 36); (with_reducible refine (of_calls HB.out (by omega) name).mono ?_); rintro e w1 ⟨rfl, hb1⟩) | ((go_at_call 32); (with_reducible refine (word_calls _ nu hs).mono ?_); rintro e w2 ⟨rfl, hb2⟩; rw [HW.out]; have HW2 := Lib.hid (below_step hb1 hb2)))
  all_goals go_returns
  all_goals exact ⟨l, rfl, rfl, HB.out.below HW2.out, HB.out.frb HW2.out⟩

set_option maxHeartbeats 1600000 in
set_option maxRecDepth 100000 in
theorem ren_taken {W : World} {g : Nat} {l : List S68} {c m : Int} (h : Buf W g l c m) (hl : l.length ≤ 900) (name nu : ByteArray) (hs : nu.size ≤ 4611686018427387904) (hm : ¬ meantN (l.map tr) name < 0) (hw : wordN nu = true) (ha : 0 ≤ atN (l.map tr) nu) (hne : atN (l.map tr) nu ≠ meantN (l.map tr) name) :
    Calls Tryd.prog 24 #[.pointer (some ⟨g, 0, none⟩), .string name, .string nu] W (RenPost W g c m (l.map tr, 74)) := by
  have HB := Lib.hid h
  have HW := Lib.hid hw
  clear h hw
  go_enter Tryd.func24, Tryd.ntmps24
  go_wp2_with (first | ((go_at_call 36); (with_reducible refine (of_calls HB.out (by omega) name).mono ?_); rintro e w1 ⟨rfl, hb1⟩) | ((go_at_call 32); (with_reducible refine (word_calls _ nu hs).mono ?_); rintro e w2 ⟨rfl, hb2⟩; rw [HW.out]; have HW2 := Lib.hid (below_step hb1 hb2); clear hb1 hb2) | ((go_at_call 33); (with_reducible refine (at_calls (HB.out.below HW2.out) (by omega) nu).mono ?_); rintro e w3 ⟨rfl, hb3⟩; have HW3 := Lib.hid (below_step HW2.out hb3); clear hb3))
  all_goals go_returns
  all_goals exact ⟨l, rfl, rfl, HB.out.below HW3.out, HB.out.frb HW3.out⟩
theorem Buf.apart_of {W : World} {g b n cap : Nat} {l : List S68} {c m : Int} (h : Buf W g l c m) (hc : W.cell? ⟨g, 0, none⟩ = some (.slice (some ⟨b, 0, none⟩) n cap)) : b ≠ g := by
  obtain ⟨A, cap2, hg, hs⟩ := h
  have e := hc.symm.trans ((blk_cell hg 0).trans rfl)
  injection e with e
  injection e with e1 e2 e3
  subst e1
  rcases hs with ⟨h0, _⟩ | ⟨b2, cs, h0, hb, _⟩
  · cases h0
  · injection h0 with h0
    injection h0 with h0
    subst h0
    intro e4
    subst e4
    rw [hg] at hb
    injection hb with hb
    injection hb with _ hb _
    exact absurd hb (by decide)
theorem bcells_set (l : List S68) (u : ByteArray) (v : Bool) : ∀ i : Nat, i < l.length → ((bcells l).set (i * 3) (.string u)).set (i * 3 + 2) (.bool v) = bcells (l.set i ⟨⟨u, (l.getD i z68).f0.f1⟩, v⟩) := by
  induction l with
  | nil => intro i h; simp at h
  | cons y l ih =>
    intro i h
    cases i with
    | zero => simp [bcells, bc]
    | succ i =>
      have := ih i (by simpa using h)
      rw [Nat.succ_mul]
      simp only [bcells, bc, List.cons_append, List.nil_append, List.set_cons_succ, List.getD_cons_succ]
      rw [this]
theorem Buf.renamed {W : World} {g b n cap : Nat} {l : List S68} {c m : Int} (h : Buf W g l c m) (i : Nat) (hi : i < l.length) (hc : W.cell? ⟨g, 0, none⟩ = some (.slice (some ⟨b, 0, none⟩) n cap)) (nu : ByteArray) :
    Buf ((W.setCell ⟨b, i * 3, none⟩ (.string nu)).setCell ⟨b, i * 3 + 2, none⟩ (.bool false)) g (l.set i ⟨⟨nu, (rd_T68 l i).f0.f1⟩, false⟩) c m ∧ Fr W ((W.setCell ⟨b, i * 3, none⟩ (.string nu)).setCell ⟨b, i * 3 + 2, none⟩ (.bool false)) g := by
  have hbg := h.apart_of hc
  obtain ⟨A, cap2, hg, hs⟩ := h
  have e := hc.symm.trans ((blk_cell hg 0).trans rfl)
  injection e with e
  injection e with e1 e2 e3
  subst e1
  have hsame : ∀ k, k ≠ b → ((W.setCell ⟨b, i * 3, none⟩ (.string nu)).setCell ⟨b, i * 3 + 2, none⟩ (.bool false)).heap[k]? = W.heap[k]? := fun k hk => (Below.heap_setCell _ ⟨b, i * 3 + 2, none⟩ _ k hk).trans (Below.heap_setCell W ⟨b, i * 3, none⟩ _ k hk)
  rcases hs with ⟨h0, _⟩ | ⟨b2, cs, h0, hb, h1, h2, h3, ht⟩
  · cases h0
  · injection h0 with h0
    injection h0 with h0
    subst h0
    refine ⟨⟨some ⟨b, 0, none⟩, cap2, ?_, .inr ⟨b, _, rfl, blk_put (blk_put hb (i * 3) _ rfl) (i * 3 + 2) _ rfl, by simpa using h1, h2, by simpa using h3, ?_⟩⟩, ⟨rfl, rfl, rfl, by simp, fun k _ hk ha => hsame k fun e => ha (e ▸ arr_slice hc), .inl (arr_kept (hsame g fun e => hbg e.symm))⟩⟩
    · rw [List.length_set]
      exact (hsame g fun e => hbg e.symm).trans hg
    · rw [List.length_set]
      simp only [Array.toList_setIfInBounds]
      rw [List.take_set, List.take_set, ht]
      have := bcells_set l nu false i hi
      unfold rd_T68
      rw [Int.toNat_natCast]
      exact this
theorem Fr.drew {W W' : World} {g : Nat} (h : Fr W W' g) : Fr W W'.drew g := ⟨h.os, h.tape, h.output, h.size, h.block, h.arrk⟩
theorem Buf.fro {W : World} {g b n cap : Nat} {l : List S68} {c m : Int} (h : Buf W g l c m) (i : Nat) (hi : i < l.length) (hc : W.cell? ⟨g, 0, none⟩ = some (.slice (some ⟨b, 0, none⟩) n cap)) : W.frozen? ⟨b, i * 3, none⟩ = false ∧ W.frozen? ⟨b, i * 3 + 2, none⟩ = false := by
  obtain ⟨A, cap2, hg, hs⟩ := h
  have e := hc.symm.trans ((blk_cell hg 0).trans rfl)
  injection e with e
  injection e with e1 e2 e3
  subst e1
  rcases hs with ⟨h0, _⟩ | ⟨b2, cs, h0, hb, _⟩
  · cases h0
  · injection h0 with h0
    injection h0 with h0
    subst h0
    exact ⟨blk_frozen hb _, blk_frozen hb _⟩

set_option maxHeartbeats 3200000 in
set_option maxRecDepth 100000 in
theorem ren_full_a {W : World} {g : Nat} {l : List S68} {c m : Int} (h : Buf W g l c m) (hl : l.length ≤ 900) (name nu : ByteArray) (hs : nu.size ≤ 4611686018427387904) (i : Nat) (hi : i < l.length) (hm : meantN (l.map tr) name = i) (hw : wordN nu = true) (ha : atN (l.map tr) nu < 0) (hau : (rd_T68 l i).f1 = true) (hf : 20 ≤ countN (l.map tr) false) :
    Calls Tryd.prog 24 #[.pointer (some ⟨g, 0, none⟩), .string name, .string nu] W (RenPost W g c m (l.map tr, 3)) := by
  have HB := Lib.hid h
  have HW := Lib.hid hw
  have HM := Lib.hid hm
  have HAU := Lib.hid hau
  have hp : (0 : Int) ≤ (i : Int) := by omega
  have hq : (i : Int) < (l.length : Int) := by omega
  clear h hw hm hau
  go_enter Tryd.func24, Tryd.ntmps24
  go_wp2_with (first | ((go_at_call 36); (with_reducible refine (of_calls HB.out (by omega) name).mono ?_); rintro e w1 ⟨rfl, hb1⟩; rw [HM.out]) | ((go_at_call 32); (with_reducible refine (word_calls _ nu hs).mono ?_); rintro e w2 ⟨rfl, hb2⟩; rw [HW.out]; have HW2 := Lib.hid (below_step hb1 hb2); clear hb1 hb2) | ((go_at_call 33); (with_reducible refine (at_calls (HB.out.below HW2.out) (by omega) nu).mono ?_); rintro e w3 ⟨rfl, hb3⟩; have HW3 := Lib.hid (below_step HW2.out hb3); clear hb3; obtain ⟨A, cap, hc0, hc1, hc2, hf0, hf1, hf2, hx⟩ := (HB.out.below HW3.out).facts; obtain ⟨b, rfl, hx0, hx1, hx2⟩ := hx i hi; clear hx; rw [HAU.out] at hx2; have hbg : b ≠ g := (HB.out.below HW3.out).apart_of hc0; have hgb : g ≠ b := fun e => hbg e.symm; obtain ⟨hfx0, hfx2⟩ := (HB.out.below HW3.out).fro i hi hc0) | ((go_at_call 35); (with_reducible refine (count_calls (HB.out.below HW3.out) (by omega) false).mono ?_); rintro e w4 ⟨rfl, hb4⟩; have HW4 := Lib.hid (below_step HW3.out hb4); clear hb4))
  all_goals go_returns
  all_goals exact ⟨l, rfl, rfl, HB.out.below HW4.out, HB.out.frb HW4.out⟩

set_option maxHeartbeats 3200000 in
set_option maxRecDepth 100000 in
theorem ren_full_b {W : World} {g : Nat} {l : List S68} {c m : Int} (h : Buf W g l c m) (hl : l.length ≤ 900) (name nu : ByteArray) (hs : nu.size ≤ 4611686018427387904) (i : Nat) (hi : i < l.length) (hm : meantN (l.map tr) name = i) (hw : wordN nu = true) (ha : atN (l.map tr) nu = i) (hau : (rd_T68 l i).f1 = true) (hf : 20 ≤ countN (l.map tr) false) :
    Calls Tryd.prog 24 #[.pointer (some ⟨g, 0, none⟩), .string name, .string nu] W (RenPost W g c m (l.map tr, 3)) := by
  have HB := Lib.hid h
  have HW := Lib.hid hw
  have HM := Lib.hid hm
  have HAU := Lib.hid hau
  have hp : (0 : Int) ≤ (i : Int) := by omega
  have hq : (i : Int) < (l.length : Int) := by omega
  have HA := Lib.hid ha
  clear ha
  clear h hw hm hau
  go_enter Tryd.func24, Tryd.ntmps24
  go_wp2_with (first | ((go_at_call 36); (with_reducible refine (of_calls HB.out (by omega) name).mono ?_); rintro e w1 ⟨rfl, hb1⟩; rw [HM.out]) | ((go_at_call 32); (with_reducible refine (word_calls _ nu hs).mono ?_); rintro e w2 ⟨rfl, hb2⟩; rw [HW.out]; have HW2 := Lib.hid (below_step hb1 hb2); clear hb1 hb2) | ((go_at_call 33); (with_reducible refine (at_calls (HB.out.below HW2.out) (by omega) nu).mono ?_); rintro e w3 ⟨rfl, hb3⟩; rw [HA.out]; have HW3 := Lib.hid (below_step HW2.out hb3); clear hb3; obtain ⟨A, cap, hc0, hc1, hc2, hf0, hf1, hf2, hx⟩ := (HB.out.below HW3.out).facts; obtain ⟨b, rfl, hx0, hx1, hx2⟩ := hx i hi; clear hx; rw [HAU.out] at hx2; have hbg : b ≠ g := (HB.out.below HW3.out).apart_of hc0; have hgb : g ≠ b := fun e => hbg e.symm; obtain ⟨hfx0, hfx2⟩ := (HB.out.below HW3.out).fro i hi hc0) | ((go_at_call 35); (with_reducible refine (count_calls (HB.out.below HW3.out) (by omega) false).mono ?_); rintro e w4 ⟨rfl, hb4⟩; have HW4 := Lib.hid (below_step HW3.out hb4); clear hb4))
  all_goals go_returns
  all_goals exact ⟨l, rfl, rfl, HB.out.below HW4.out, HB.out.frb HW4.out⟩

set_option maxHeartbeats 3200000 in
set_option maxRecDepth 100000 in
theorem ren_done_a {W : World} {g : Nat} {l : List S68} {c m : Int} (h : Buf W g l c m) (hl : l.length ≤ 900) (name nu : ByteArray) (hs : nu.size ≤ 4611686018427387904) (i : Nat) (hi : i < l.length) (hm : meantN (l.map tr) name = i) (hw : wordN nu = true) (ha : atN (l.map tr) nu < 0) (hau : (rd_T68 l i).f1 = false) :
    Calls Tryd.prog 24 #[.pointer (some ⟨g, 0, none⟩), .string name, .string nu] W (RenPost W g c m ((l.map tr).set i ⟨nu, (rd_T68 l i).f0.f1, false⟩, 0)) := by
  have HB := Lib.hid h
  have HW := Lib.hid hw
  have HM := Lib.hid hm
  have HAU := Lib.hid hau
  have hp : (0 : Int) ≤ (i : Int) := by omega
  have hq : (i : Int) < (l.length : Int) := by omega
  clear h hw hm hau
  go_enter Tryd.func24, Tryd.ntmps24
  go_wp2_with (first | ((go_at_call 36); (with_reducible refine (of_calls HB.out (by omega) name).mono ?_); rintro e w1 ⟨rfl, hb1⟩; rw [HM.out]) | ((go_at_call 32); (with_reducible refine (word_calls _ nu hs).mono ?_); rintro e w2 ⟨rfl, hb2⟩; rw [HW.out]; have HW2 := Lib.hid (below_step hb1 hb2); clear hb1 hb2) | ((go_at_call 33); (with_reducible refine (at_calls (HB.out.below HW2.out) (by omega) nu).mono ?_); rintro e w3 ⟨rfl, hb3⟩; have HW3 := Lib.hid (below_step HW2.out hb3); clear hb3; obtain ⟨A, cap, hc0, hc1, hc2, hf0, hf1, hf2, hx⟩ := (HB.out.below HW3.out).facts; obtain ⟨b, rfl, hx0, hx1, hx2⟩ := hx i hi; clear hx; rw [HAU.out] at hx2; have hbg : b ≠ g := (HB.out.below HW3.out).apart_of hc0; have hgb : g ≠ b := fun e => hbg e.symm; obtain ⟨hfx0, hfx2⟩ := (HB.out.below HW3.out).fro i hi hc0))
  all_goals go_region
  all_goals go_wp2
  all_goals go_returns
  all_goals exact ⟨l.set i ⟨⟨nu, (rd_T68 l i).f0.f1⟩, false⟩, by rw [List.map_set]; rfl, rfl, ((HB.out.below HW3.out).renamed i hi hc0 nu).1, Fr.trans (HB.out.frb HW3.out) (Fr.drew ((HB.out.below HW3.out).renamed i hi hc0 nu).2)⟩

set_option maxHeartbeats 3200000 in
set_option maxRecDepth 100000 in
theorem ren_auto_a {W : World} {g : Nat} {l : List S68} {c m : Int} (h : Buf W g l c m) (hl : l.length ≤ 900) (name nu : ByteArray) (hs : nu.size ≤ 4611686018427387904) (i : Nat) (hi : i < l.length) (hm : meantN (l.map tr) name = i) (hw : wordN nu = true) (ha : atN (l.map tr) nu < 0) (hau : (rd_T68 l i).f1 = true) (hf : ¬ 20 ≤ countN (l.map tr) false) :
    Calls Tryd.prog 24 #[.pointer (some ⟨g, 0, none⟩), .string name, .string nu] W (RenPost W g c m ((l.map tr).set i ⟨nu, (rd_T68 l i).f0.f1, false⟩, 0)) := by
  have HB := Lib.hid h
  have HW := Lib.hid hw
  have HM := Lib.hid hm
  have HAU := Lib.hid hau
  have hp : (0 : Int) ≤ (i : Int) := by omega
  have hq : (i : Int) < (l.length : Int) := by omega
  clear h hw hm hau
  go_enter Tryd.func24, Tryd.ntmps24
  go_wp2_with (first | ((go_at_call 36); (with_reducible refine (of_calls HB.out (by omega) name).mono ?_); rintro e w1 ⟨rfl, hb1⟩; rw [HM.out]) | ((go_at_call 32); (with_reducible refine (word_calls _ nu hs).mono ?_); rintro e w2 ⟨rfl, hb2⟩; rw [HW.out]; have HW2 := Lib.hid (below_step hb1 hb2); clear hb1 hb2) | ((go_at_call 33); (with_reducible refine (at_calls (HB.out.below HW2.out) (by omega) nu).mono ?_); rintro e w3 ⟨rfl, hb3⟩; have HW3 := Lib.hid (below_step HW2.out hb3); clear hb3; obtain ⟨A, cap, hc0, hc1, hc2, hf0, hf1, hf2, hx⟩ := (HB.out.below HW3.out).facts; obtain ⟨b, rfl, hx0, hx1, hx2⟩ := hx i hi; clear hx; rw [HAU.out] at hx2; have hbg : b ≠ g := (HB.out.below HW3.out).apart_of hc0; have hgb : g ≠ b := fun e => hbg e.symm; obtain ⟨hfx0, hfx2⟩ := (HB.out.below HW3.out).fro i hi hc0) | ((go_at_call 35); (with_reducible refine (count_calls (HB.out.below HW3.out) (by omega) false).mono ?_); rintro e w4 ⟨rfl, hb4⟩; have HW4 := Lib.hid (below_step HW3.out hb4); clear hb4 hc0 hc1 hc2 hf0 hf1 hf2 hx0 hx1 hx2 hbg hgb hfx0 hfx2; obtain ⟨A, cap4, hc0, hc1, hc2, hf0, hf1, hf2, hx⟩ := (HB.out.below HW4.out).facts; obtain ⟨b, rfl, hx0, hx1, hx2⟩ := hx i hi; clear hx; rw [HAU.out] at hx2; have hbg : b ≠ g := (HB.out.below HW4.out).apart_of hc0; have hgb : g ≠ b := fun e => hbg e.symm; obtain ⟨hfx0, hfx2⟩ := (HB.out.below HW4.out).fro i hi hc0))
  all_goals go_region
  all_goals go_wp2
  all_goals go_returns
  all_goals exact ⟨l.set i ⟨⟨nu, (rd_T68 l i).f0.f1⟩, false⟩, by rw [List.map_set]; rfl, rfl, ((HB.out.below HW4.out).renamed i hi hc0 nu).1, Fr.trans (HB.out.frb HW4.out) (Fr.drew ((HB.out.below HW4.out).renamed i hi hc0 nu).2)⟩

set_option maxHeartbeats 3200000 in
set_option maxRecDepth 100000 in
theorem ren_done_b {W : World} {g : Nat} {l : List S68} {c m : Int} (h : Buf W g l c m) (hl : l.length ≤ 900) (name nu : ByteArray) (hs : nu.size ≤ 4611686018427387904) (i : Nat) (hi : i < l.length) (hm : meantN (l.map tr) name = i) (hw : wordN nu = true) (ha : atN (l.map tr) nu = i) (hau : (rd_T68 l i).f1 = false) :
    Calls Tryd.prog 24 #[.pointer (some ⟨g, 0, none⟩), .string name, .string nu] W (RenPost W g c m ((l.map tr).set i ⟨nu, (rd_T68 l i).f0.f1, false⟩, 0)) := by
  have HB := Lib.hid h
  have HW := Lib.hid hw
  have HM := Lib.hid hm
  have HAU := Lib.hid hau
  have hp : (0 : Int) ≤ (i : Int) := by omega
  have hq : (i : Int) < (l.length : Int) := by omega
  have HA := Lib.hid ha
  clear ha
  clear h hw hm hau
  go_enter Tryd.func24, Tryd.ntmps24
  go_wp2_with (first | ((go_at_call 36); (with_reducible refine (of_calls HB.out (by omega) name).mono ?_); rintro e w1 ⟨rfl, hb1⟩; rw [HM.out]) | ((go_at_call 32); (with_reducible refine (word_calls _ nu hs).mono ?_); rintro e w2 ⟨rfl, hb2⟩; rw [HW.out]; have HW2 := Lib.hid (below_step hb1 hb2); clear hb1 hb2) | ((go_at_call 33); (with_reducible refine (at_calls (HB.out.below HW2.out) (by omega) nu).mono ?_); rintro e w3 ⟨rfl, hb3⟩; rw [HA.out]; have HW3 := Lib.hid (below_step HW2.out hb3); clear hb3; obtain ⟨A, cap, hc0, hc1, hc2, hf0, hf1, hf2, hx⟩ := (HB.out.below HW3.out).facts; obtain ⟨b, rfl, hx0, hx1, hx2⟩ := hx i hi; clear hx; rw [HAU.out] at hx2; have hbg : b ≠ g := (HB.out.below HW3.out).apart_of hc0; have hgb : g ≠ b := fun e => hbg e.symm; obtain ⟨hfx0, hfx2⟩ := (HB.out.below HW3.out).fro i hi hc0))
  all_goals go_region
  all_goals go_wp2
  all_goals go_returns
  all_goals exact ⟨l.set i ⟨⟨nu, (rd_T68 l i).f0.f1⟩, false⟩, by rw [List.map_set]; rfl, rfl, ((HB.out.below HW3.out).renamed i hi hc0 nu).1, Fr.trans (HB.out.frb HW3.out) (Fr.drew ((HB.out.below HW3.out).renamed i hi hc0 nu).2)⟩

set_option maxHeartbeats 3200000 in
set_option maxRecDepth 100000 in
theorem ren_auto_b {W : World} {g : Nat} {l : List S68} {c m : Int} (h : Buf W g l c m) (hl : l.length ≤ 900) (name nu : ByteArray) (hs : nu.size ≤ 4611686018427387904) (i : Nat) (hi : i < l.length) (hm : meantN (l.map tr) name = i) (hw : wordN nu = true) (ha : atN (l.map tr) nu = i) (hau : (rd_T68 l i).f1 = true) (hf : ¬ 20 ≤ countN (l.map tr) false) :
    Calls Tryd.prog 24 #[.pointer (some ⟨g, 0, none⟩), .string name, .string nu] W (RenPost W g c m ((l.map tr).set i ⟨nu, (rd_T68 l i).f0.f1, false⟩, 0)) := by
  have HB := Lib.hid h
  have HW := Lib.hid hw
  have HM := Lib.hid hm
  have HAU := Lib.hid hau
  have hp : (0 : Int) ≤ (i : Int) := by omega
  have hq : (i : Int) < (l.length : Int) := by omega
  have HA := Lib.hid ha
  clear ha
  clear h hw hm hau
  go_enter Tryd.func24, Tryd.ntmps24
  go_wp2_with (first | ((go_at_call 36); (with_reducible refine (of_calls HB.out (by omega) name).mono ?_); rintro e w1 ⟨rfl, hb1⟩; rw [HM.out]) | ((go_at_call 32); (with_reducible refine (word_calls _ nu hs).mono ?_); rintro e w2 ⟨rfl, hb2⟩; rw [HW.out]; have HW2 := Lib.hid (below_step hb1 hb2); clear hb1 hb2) | ((go_at_call 33); (with_reducible refine (at_calls (HB.out.below HW2.out) (by omega) nu).mono ?_); rintro e w3 ⟨rfl, hb3⟩; rw [HA.out]; have HW3 := Lib.hid (below_step HW2.out hb3); clear hb3; obtain ⟨A, cap, hc0, hc1, hc2, hf0, hf1, hf2, hx⟩ := (HB.out.below HW3.out).facts; obtain ⟨b, rfl, hx0, hx1, hx2⟩ := hx i hi; clear hx; rw [HAU.out] at hx2; have hbg : b ≠ g := (HB.out.below HW3.out).apart_of hc0; have hgb : g ≠ b := fun e => hbg e.symm; obtain ⟨hfx0, hfx2⟩ := (HB.out.below HW3.out).fro i hi hc0) | ((go_at_call 35); (with_reducible refine (count_calls (HB.out.below HW3.out) (by omega) false).mono ?_); rintro e w4 ⟨rfl, hb4⟩; have HW4 := Lib.hid (below_step HW3.out hb4); clear hb4 hc0 hc1 hc2 hf0 hf1 hf2 hx0 hx1 hx2 hbg hgb hfx0 hfx2; obtain ⟨A, cap4, hc0, hc1, hc2, hf0, hf1, hf2, hx⟩ := (HB.out.below HW4.out).facts; obtain ⟨b, rfl, hx0, hx1, hx2⟩ := hx i hi; clear hx; rw [HAU.out] at hx2; have hbg : b ≠ g := (HB.out.below HW4.out).apart_of hc0; have hgb : g ≠ b := fun e => hbg e.symm; obtain ⟨hfx0, hfx2⟩ := (HB.out.below HW4.out).fro i hi hc0))
  all_goals go_region
  all_goals go_wp2
  all_goals go_returns
  all_goals exact ⟨l.set i ⟨⟨nu, (rd_T68 l i).f0.f1⟩, false⟩, by rw [List.map_set]; rfl, rfl, ((HB.out.below HW4.out).renamed i hi hc0 nu).1, Fr.trans (HB.out.frb HW4.out) (Fr.drew ((HB.out.below HW4.out).renamed i hi hc0 nu).2)⟩

/-- Rename, whole. -/
theorem rename_calls {W : World} {g : Nat} {l : List S68} {c m : Int} (h : Buf W g l c m) (hl : l.length ≤ 900) (name nu : ByteArray) (hs : nu.size ≤ 4611686018427387904) :
    Calls Tryd.prog 24 #[.pointer (some ⟨g, 0, none⟩), .string name, .string nu] W (RenPost W g c m (renameN (l.map tr) name nu)) := by
  have hr := meantN_range (l.map tr) name
  rw [List.length_map] at hr
  by_cases hm : meantN (l.map tr) name < 0
  · have e : renameN (l.map tr) name nu = (l.map tr, 240) := by unfold renameN; rw [if_pos hm]
    rw [e]
    exact ren_none h hl name nu hm
  · by_cases hw : wordN nu = true
    · by_cases ht : 0 ≤ atN (l.map tr) nu ∧ atN (l.map tr) nu ≠ meantN (l.map tr) name
      · have e : renameN (l.map tr) name nu = (l.map tr, 74) := by unfold renameN; rw [if_neg hm, if_pos hw, if_pos ht]
        rw [e]
        exact ren_taken h hl name nu hs hm hw ht.1 ht.2
      · have e2 : meantN (l.map tr) name = (((meantN (l.map tr) name).toNat : Nat) : Int) := by omega
        have hi : (meantN (l.map tr) name).toNat < l.length := by omega
        have hor : atN (l.map tr) nu < 0 ∨ atN (l.map tr) nu = (((meantN (l.map tr) name).toNat : Nat) : Int) := by
          by_cases q : atN (l.map tr) nu < 0
          · exact .inl q
          · right
            rw [← e2]
            by_cases q2 : atN (l.map tr) nu = meantN (l.map tr) name
            · exact q2
            · exact absurd ⟨by omega, q2⟩ ht
        by_cases hf : (rd_T79 (l.map tr) (meantN (l.map tr) name)).f2 = true ∧ 20 ≤ countN (l.map tr) false
        · have e : renameN (l.map tr) name nu = (l.map tr, 3) := by unfold renameN; rw [if_neg hm, if_pos hw, if_neg ht, if_pos hf]
          rw [e]
          rw [e2, rd68_f1] at hf
          rcases hor with q | q
          · exact ren_full_a h hl name nu hs _ hi e2 hw q hf.1 hf.2
          · exact ren_full_b h hl name nu hs _ hi e2 hw q hf.1 hf.2
        · have e : renameN (l.map tr) name nu = ((l.map tr).set (meantN (l.map tr) name).toNat ⟨nu, (rd_T68 l ((meantN (l.map tr) name).toNat : Nat)).f0.f1, false⟩, 0) := by
            unfold renameN
            rw [if_neg hm, if_pos hw, if_neg ht, if_neg hf, ← e2, rd_tr]
            rfl
          rw [e]
          rw [e2, rd68_f1] at hf
          by_cases hau : (rd_T68 l ((meantN (l.map tr) name).toNat : Nat)).f1 = true
          · have hf2 : ¬ 20 ≤ countN (l.map tr) false := fun q => hf ⟨hau, q⟩
            rcases hor with q | q
            · exact ren_auto_a h hl name nu hs _ hi e2 hw q hau hf2
            · exact ren_auto_b h hl name nu hs _ hi e2 hw q hau hf2
          · rcases hor with q | q
            · exact ren_done_a h hl name nu hs _ hi e2 hw q (by simpa using hau)
            · exact ren_done_b h hl name nu hs _ hi e2 hw q (by simpa using hau)
    · have e : renameN (l.map tr) name nu = (l.map tr, 73) := by unfold renameN; rw [if_neg hm, if_neg hw]
      rw [e]
      exact ren_noword h hl name nu hs hm (by simpa using hw)

/-! ### New -/
set_option maxHeartbeats 1600000 in
set_option maxRecDepth 100000 in
theorem new_calls (W : World) : Calls Tryd.prog 9 #[] W fun e W' => ∃ g, e = .returned (.pointer (some ⟨g, 0, none⟩)) ∧ W.heap.size ≤ g ∧ Buf W' g [] 0 20 ∧ arr W' g = none ∧ Below W.heap.size W W' := by
  go_enter Tryd.func9, Tryd.ntmps9
  go_wp2
  all_goals go_returns
  all_goals exact ⟨W.heap.size, rfl, Nat.le_refl _, ⟨none, 0, blk_new W _, .inl ⟨rfl, rfl, rfl⟩⟩, arr_nil ((blk_cell (blk_new W _) 0).trans rfl), below_alloc (Below.refl _ _) _⟩
end Go.Proofs.YtjkmmfjlladlfaaDoor.Hand
