/- The statements' own function sure, walked: it tells true. Conditions: the tables lie as they are laid. -/
import Derived.Test.YtjkmmfjlladlfaaDoorSHandF
namespace Go.Proofs.YtjkmmfjlladlfaaDoor.Hand
set_option linter.unusedVariables false
set_option linter.unusedSimpArgs false
open Go.RowKit Go.Proofs.YtjkmmfjlladlfaaDoor.PBuf Go.Proofs.YtjkmmfjlladlfaaDoor.Given Go.Proofs.YtjkmmfjlladlfaaDoorW.PrintWords Go.Proofs.YtjkmmfjlladlfaaDoorW.PrintLast

theorem Ev.uniq {α : Type} {f : Nat → Option α} {a b : α} (h : Ev f a) (k : Ev f b) : a = b := by
  obtain ⟨n, h⟩ := h
  obtain ⟨m, k⟩ := k
  have h1 := h (max n m) (by omega)
  have k1 := k (max n m) (by omega)
  rw [h1] at k1
  exact Option.some.inj k1
theorem num_calls (a : Int) (W : World) : Calls Tryd.prog 13 #[.int .i64 a] W fun e W' => e = .returned (.int .i64 a) ∧ Below W.heap.size W W' := by
  refine (mullionlaw24_num.calls a a W rfl).mono ?_
  rintro e W' ⟨he, nd, rfl⟩
  exact ⟨he, by repeat (first | exact Below.refl _ _ | apply pw_below_drewN | apply below_drew1)⟩

/-- The first automatic name. -/
theorem name0 : bufName 0 = (⟨#[98, 117, 102, 102, 101, 114, 48]⟩ : ByteArray) := by
  unfold bufName
  rw [show ((0 : Int)).toNat = 0 from rfl, Lib.decDigits_one (by omega)]
  rfl
theorem mono_word (s : ByteArray) : ∀ k, LeO (octal_IsWord.f k s) (octal_IsWord.f (k + 1) s) := octal_IsWord.mono s
theorem word_of (s : ByteArray) (hs : s.size ≤ 4611686018427387904) (k : Nat) (h : octal_IsWord.f k s = some true) : wordN s = true :=
  Ev.uniq (word_ev s hs).1 (Ev.of (mono_word s) h)
theorem word_x : wordN (⟨#[120]⟩ : ByteArray) = true := word_of _ (by decide) 6 (by decide +kernel)
def L1 : List S79 := [⟨⟨#[98, 117, 102, 102, 101, 114, 48]⟩, ⟨#[97]⟩, true⟩]
def L2 : List S79 := [⟨⟨#[120]⟩, ⟨#[99]⟩, false⟩, ⟨⟨#[98, 117, 102, 102, 101, 114, 48]⟩, ⟨#[97]⟩, true⟩]
theorem emp : (⟨#[]⟩ : ByteArray).toList = ([] : List UInt8) := by rw [ByteArray.toList_eq]
theorem set1 : setN [] 0 20 ⟨#[]⟩ ⟨#[97]⟩ = (L1, 1, ⟨#[98, 117, 102, 102, 101, 114, 48]⟩, 0) := by
  have e : nextN [] 0 = 0 := rfl
  unfold setN
  rw [if_neg (by decide), if_pos emp, e, name0]
  rfl
theorem set2 : setN L1 1 20 ⟨#[120]⟩ ⟨#[99]⟩ = (L2, 1, ⟨#[120]⟩, 0) := by
  have ha : atN L1 ⟨#[120]⟩ < 0 := by
    rw [atN_none]
    simp [L1]
  unfold setN
  rw [if_neg (by decide), if_neg (by rw [ByteArray.toList_eq]; simp), if_pos word_x, if_neg (by omega), if_neg (by decide)]
  rfl
theorem get2 : getN L2 ⟨#[]⟩ = (⟨#[98, 117, 102, 102, 101, 114, 48]⟩, ⟨#[97]⟩, 0) := by
  have e : meantN L2 ⟨#[]⟩ = 1 := by
    unfold meantN
    rw [if_pos emp]
    rfl
  unfold getN
  rw [e]
  rfl

theorem fresh3 {W : World} (hL : LaidW W) : 3 < W.heap.size := by
  have h0 := hL.out
  unfold Lib.TabIs World.var? at h0
  rw [glob] at h0
  simp only [Option.bind_some] at h0
  rcases Nat.lt_or_ge 3 W.heap.size with hl | hl
  · exact hl
  · have hn : W.heap[3]? = none := Array.getElem?_eq_none hl
    rw [hn] at h0
    simp at h0
/-- What is done to a Buffers that is new since W leaves W as it was. -/
theorem Fr.keeps {W W1 W2 : World} {g : Nat} (hb : Below W.heap.size W W1) (hf : Fr W1 W2 g) (hg : W.heap.size ≤ g) (ha : ∀ k, arr W1 g = some k → W.heap.size ≤ k) : Below W.heap.size W W2 :=
  ⟨hf.os.trans hb.os, hf.tape.trans hb.tape, hf.output.trans hb.output, Nat.le_trans hb.size hf.size, fun k hk => (hf.block k (Nat.lt_of_lt_of_le hk hb.size) (by omega) (fun e => by have := ha k e; omega)).trans (hb.block k hk)⟩
/-- A Buffers that is new since W0, in a world that is W0 below. -/
structure Own (W0 W : World) (g : Nat) (l : List S68) (c m : Int) : Prop where
  below : Below W0.heap.size W0 W
  new : W0.heap.size ≤ g
  arr : ∀ k, Hand.arr W g = some k → W0.heap.size ≤ k
  buf : Buf W g l c m
theorem Own.next {W0 W W' : World} {g : Nat} {l l' : List S68} {c m c' m' : Int} (h : Own W0 W g l c m) (hf : Fr W W' g) (hB : Buf W' g l' c' m') : Own W0 W' g l' c' m' :=
  ⟨Fr.keeps h.below hf h.new h.arr, h.new, fun k hk => by
    rcases hf.arrk with q | q
    · exact h.arr k (q ▸ hk)
    · exact Nat.le_trans h.below.size (q k hk), hB⟩
theorem Own.on {W0 W W' : World} {g : Nat} {l : List S68} {c m : Int} (h : Own W0 W g l c m) (hb : Below W.heap.size W W') : Own W0 W' g l c m := h.next (h.buf.frb hb) (h.buf.below hb)
/-- Set, of a Buffers that is new since W0. -/
theorem own_set {W0 W : World} {g : Nat} {l : List S68} {c m : Int} (hL : LaidW W0) (h : Own W0 W g l c m) (hl : l.length ≤ 900) (hc : 0 ≤ c) (hc2 : c ≤ 3000000000000) (hm0 : 0 ≤ m) (hm1 : m ≤ 20) (name text : ByteArray) (hs : name.size ≤ 4611686018427387904) (r : List S79 × Int × ByteArray × Int) (hr : setN (l.map tr) c m name text = r) :
    Calls Tryd.prog 12 #[.pointer (some ⟨g, 0, none⟩), .string name, .string text] W fun e W' => ∃ l', l'.map tr = r.1 ∧ e = .returned (.tuple #[.string r.2.2.1, .int .i64 r.2.2.2]) ∧ Own W0 W' g l' r.2.1 m ∧ Fr W W' g := by
  subst hr
  have h3 := fresh3 hL
  refine (set_calls (LaidW.below hL h.below) h.buf (Nat.lt_of_lt_of_le h3 h.new) (fun k hk => Nat.lt_of_lt_of_le h3 (h.arr k hk)) hl hc hc2 hm0 hm1 name text hs).mono ?_
  rintro e W' ⟨l', h1, h2, hB, hF⟩
  exact ⟨l', h1, h2, h.next hF hB, hF⟩

theorem own_set1 {W0 W : World} {g : Nat} (hL : LaidW W0) (h : Own W0 W g [] 0 20) :
    Calls Tryd.prog 12 #[.pointer (some ⟨g, 0, none⟩), .string (⟨#[]⟩ : ByteArray), .string (⟨#[97]⟩ : ByteArray)] W fun e W' => ∃ l', l'.map tr = L1 ∧ e = .returned (.tuple #[.string (⟨#[98, 117, 102, 102, 101, 114, 48]⟩ : ByteArray), .int .i64 0]) ∧ Own W0 W' g l' 1 20 ∧ Fr W W' g :=
  own_set hL h (by simp) (by omega) (by omega) (by omega) (by omega) (⟨#[]⟩ : ByteArray) (⟨#[97]⟩ : ByteArray) (Nat.zero_le _) (L1, 1, ⟨#[98, 117, 102, 102, 101, 114, 48]⟩, 0) set1
theorem own_set2 {W0 W : World} {g : Nat} {l : List S68} (hL : LaidW W0) (hl : l.map tr = L1) (h : Own W0 W g l 1 20) :
    Calls Tryd.prog 12 #[.pointer (some ⟨g, 0, none⟩), .string (⟨#[120]⟩ : ByteArray), .string (⟨#[99]⟩ : ByteArray)] W fun e W' => ∃ l', l'.map tr = L2 ∧ e = .returned (.tuple #[.string (⟨#[120]⟩ : ByteArray), .int .i64 0]) ∧ Own W0 W' g l' 1 20 ∧ Fr W W' g :=
  own_set hL h (by have := congrArg List.length hl; simp [L1] at this; omega) (by omega) (by omega) (by omega) (by omega) (⟨#[120]⟩ : ByteArray) (⟨#[99]⟩ : ByteArray) (by show (1 : Nat) ≤ _; omega) (L2, 1, ⟨#[120]⟩, 0) (by rw [hl]; exact set2)

set_option maxHeartbeats 3200000 in
set_option maxRecDepth 100000 in
theorem sure_calls {W : World} (hL : LaidW W) : Calls Tryd.prog 11 #[] W fun e W' => e = .returned (.bool true) ∧ Below W.heap.size W W' := by
  have HL := Lib.hid hL
  clear hL
  go_enter Tryd.func11, Tryd.ntmps11
  go_wp2_with (first | ((go_at_call 9); (with_reducible refine (new_calls _).mono ?_); rintro e w1 ⟨g, rfl, hg, hB, ha, hb⟩; have HO := Lib.hid (show Own W w1 g [] 0 20 from ⟨hb, hg, fun k hk => absurd (ha.symm.trans hk) (by simp), hB⟩); clear hg hB ha hb) | ((go_at_call 12); (with_reducible refine (own_set1 HL.out HO.out).mono ?_); rintro e w2 ⟨l1, hl1, rfl, hO, _⟩; have HL1 := Lib.hid hl1; have HO2 := Lib.hid hO; clear hl1 hO) | ((go_at_call 12); (with_reducible refine (own_set2 HL.out HL1.out HO2.out).mono ?_); rintro e w3 ⟨l2, hl2, rfl, hO, _⟩; have HL2 := Lib.hid hl2; have HO3 := Lib.hid hO; clear hl2 hO) | ((go_at_call 15); (with_reducible refine (get_calls HO3.out.buf (by have := congrArg List.length HL2.out; simp [L2] at this; omega) (⟨#[]⟩ : ByteArray)).mono ?_); rintro e w4 ⟨rfl, hb4⟩; rw [HL2.out, get2]; have HO4 := Lib.hid (HO3.out.on hb4); clear hb4) | ((with_reducible refine gate_dst (N := 6) rfl ?_); refine box_event ?hg (N := 6) ?hd (cs := #[.string (⟨#[]⟩ : ByteArray), .string (⟨#[]⟩ : ByteArray)]) (t := 36) ?hr ?_; (case hd => rfl); (case hg => rfl); (case hr => first | (go_simp; done) | (go_simp; rfl)); intro gb hgb w5 hbox hb5; have HGE := Lib.hid (show w4.heap.size ≤ gb by rw [hgb]; exact Nat.le_refl _); have HBc := Lib.hid hb5; have hz0 := blk_frozen hbox 0; have hz1 := blk_frozen hbox 1; have hq0 : w5.cell? ⟨gb, 0, none⟩ = some (.string (⟨#[]⟩ : ByteArray)) := (blk_cell hbox 0).trans rfl; have hq1 : w5.cell? ⟨gb, 1, none⟩ = some (.string (⟨#[]⟩ : ByteArray)) := (blk_cell hbox 1).trans rfl; clear hgb hbox hb5) | ((go_at_call 13); (with_reducible refine (num_calls 0 _).mono ?_); rintro e w6 ⟨rfl, hb6⟩; have n_ := Lib.hid (below_step (by repeat (first | exact HBc.out | refine below_set ?_ HGE.out | apply pw_below_drewN | apply below_drew1)) hb6); clear HBc hb6; have HBc := n_) | ((go_at_call 14); (with_reducible refine (list_calls (HO4.out.buf.below HBc.out) (by have := congrArg List.length HL2.out; simp [L2] at this; omega)).mono ?_); rintro e w7 ⟨v, rfl, hr, hb7⟩; rw [HL2.out] at hr; obtain ⟨A7, c7, rfl⟩ := Kd.R_slice hr; have HBd := Lib.hid (below_step HBc.out hb7); clear hr hb7))
  all_goals go_returns
  all_goals exact ⟨by first | rfl | simp [listN, L2], (HO4.out.on HBd.out).below⟩
end Go.Proofs.YtjkmmfjlladlfaaDoor.Hand
