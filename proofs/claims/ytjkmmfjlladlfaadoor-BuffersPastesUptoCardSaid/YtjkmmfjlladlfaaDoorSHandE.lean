/- The buffers' methods, walked: what each leaves in the memory, in the plain words of the texts before. Conditions: the list has at most 900 buffers, the counter is small; the tables lie as they are laid. -/
import Derived.Test.YtjkmmfjlladlfaaDoorSHandA
import Derived.Test.YtjkmmfjlladlfaaDoorSHandD
import Derived.Handy
namespace Go.Proofs.YtjkmmfjlladlfaaDoor.Hand
set_option linter.unusedVariables false
set_option linter.unusedSimpArgs false
open Go.RowKit Go.Proofs.YtjkmmfjlladlfaaDoor.PBuf Go.Proofs.YtjkmmfjlladlfaaDoor.Given Go.Proofs.YtjkmmfjlladlfaaDoorW.PrintWords Go.Proofs.YtjkmmfjlladlfaaDoorW.PrintLast

/-! ### what only reads -/
theorem count_calls {W : World} {g : Nat} {l : List S68} {c m : Int} (h : Buf W g l c m) (hl : l.length ≤ 1000) (b : Bool) :
    Calls Tryd.prog 35 #[.pointer (some ⟨g, 0, none⟩), .bool b] W fun e W' => e = .returned (.int .i64 (countN (l.map tr) b)) ∧ Below W.heap.size W W' := by
  obtain ⟨k, hk⟩ := (count68_ev b c m l hl).rounds
  exact (buffers_Buffers_count.calls k g l c m b _ _ _ W W h.is (Below.refl _ _) hk).mono fun e W' ⟨he, _, hb, _⟩ => ⟨he, hb⟩
theorem at_calls {W : World} {g : Nat} {l : List S68} {c m : Int} (h : Buf W g l c m) (hl : l.length ≤ 1000) (name : ByteArray) :
    Calls Tryd.prog 33 #[.pointer (some ⟨g, 0, none⟩), .string name] W fun e W' => e = .returned (.int .i64 (atN (l.map tr) name)) ∧ Below W.heap.size W W' := by
  obtain ⟨k, hk⟩ := (at68_ev name c m l hl).rounds
  exact (buffers_Buffers_at.calls k g l c m name _ _ _ W W h.is (Below.refl _ _) hk).mono fun e W' ⟨he, _, hb, _⟩ => ⟨he, hb⟩
theorem of_calls {W : World} {g : Nat} {l : List S68} {c m : Int} (h : Buf W g l c m) (hl : l.length ≤ 1000) (name : ByteArray) :
    Calls Tryd.prog 36 #[.pointer (some ⟨g, 0, none⟩), .string name] W fun e W' => e = .returned (.int .i64 (meantN (l.map tr) name)) ∧ Below W.heap.size W W' := by
  obtain ⟨k, hk⟩ := (of68_ev name c m l hl).rounds
  exact (buffers_Buffers_of.calls k g l c m name _ _ _ W W h.is (Below.refl _ _) hk).mono fun e W' ⟨he, _, hb, _⟩ => ⟨he, hb⟩
theorem get_calls {W : World} {g : Nat} {l : List S68} {c m : Int} (h : Buf W g l c m) (hl : l.length ≤ 1000) (name : ByteArray) :
    Calls Tryd.prog 15 #[.pointer (some ⟨g, 0, none⟩), .string name] W fun e W' => e = .returned (.tuple #[.agg #[.string (getN (l.map tr) name).1, .string (getN (l.map tr) name).2.1], .int .i64 (getN (l.map tr) name).2.2]) ∧ Below W.heap.size W W' := by
  obtain ⟨k, hk⟩ := (get68_ev name c m l hl).rounds
  exact (buffers_Buffers_Get.calls k g l c m name _ _ _ _ _ W W h.is (Below.refl _ _) hk).mono fun e W' ⟨he, _, hb, _⟩ => ⟨he, hb⟩
theorem list_calls {W : World} {g : Nat} {l : List S68} {c m : Int} (h : Buf W g l c m) (hl : l.length ≤ 1000) :
    Calls Tryd.prog 14 #[.pointer (some ⟨g, 0, none⟩)] W fun e W' => ∃ v, e = .returned v ∧ Kd.R k36 36 W' W.heap.size (fun _ => True) v (listN (l.map tr)) ∧ Below W.heap.size W W' := by
  obtain ⟨k, hk⟩ := (list68_ev c m l hl).rounds
  exact (buffers_Buffers_List.calls k g l c m _ _ _ W W h.is (Below.refl _ _) hk).mono fun e W' ⟨v, he, hr, _, hb, _⟩ => ⟨v, he, hr, hb⟩
theorem word_calls (W : World) (s : ByteArray) (hs : s.size ≤ 4611686018427387904) :
    Calls Tryd.prog 32 #[.string s] W fun e W' => e = .returned (.bool (wordN s)) ∧ Below W.heap.size W W' := by
  obtain ⟨k, hk⟩ := (word_ev s hs).1.rounds
  refine (octal_IsWord.calls k s _ W hk).mono ?_
  rintro e W' ⟨he, nd, rfl⟩
  exact ⟨he, by repeat (first | exact Below.refl _ _ | apply pw_below_drewN | apply below_drew1)⟩

/-! ### the frame: all blocks stay but the Buffers' own and the one in which its list lay -/
structure Fr (W W' : World) (g : Nat) : Prop where
  os : W'.os = W.os
  tape : W'.tape = W.tape
  output : W'.output = W.output
  size : W.heap.size ≤ W'.heap.size
  block : ∀ k, k < W.heap.size → k ≠ g → arr W g ≠ some k → W'.heap[k]? = W.heap[k]?
  arrk : ArrOk W W' g
theorem Fr.trans {a b c : World} {g : Nat} (h : Fr a b g) (k : Fr b c g) : Fr a c g := by
  refine ⟨k.os.trans h.os, k.tape.trans h.tape, k.output.trans h.output, Nat.le_trans h.size k.size, fun i hi hg ha => (k.block i (Nat.lt_of_lt_of_le hi h.size) hg fun e => ?_).trans (h.block i hi hg ha), ?_⟩
  · rcases h.arrk with h2 | h2
    · exact ha (h2 ▸ e)
    · have := h2 i e
      omega
  · rcases k.arrk with k2 | k2
    · rcases h.arrk with h2 | h2
      · exact .inl (k2.trans h2)
      · exact .inr fun i hi => h2 i (k2 ▸ hi)
    · exact .inr fun i hi => Nat.le_trans h.size (k2 i hi)
theorem Fr.of {a b : World} {g : Nat} (h : a.grownBy b (some g)) (k : ArrOk a b g) : Fr a b g :=
  ⟨h.os, h.tape, h.output, h.size, fun i hi hg _ => h.block i hi fun e => hg (by injection e), k⟩
theorem arr_kept {W W' : World} {g : Nat} (h : W'.heap[g]? = W.heap[g]?) : arr W' g = arr W g := by
  have e : W'.cell? ⟨g, 0, none⟩ = W.cell? ⟨g, 0, none⟩ := World.cell?_of_block (a := ⟨g, 0, none⟩) h
  unfold Hand.arr
  rw [e]
theorem Buf.frb {W W' : World} {g : Nat} {l : List S68} {c m : Int} (h : Buf W g l c m) (hb : Below W.heap.size W W') : Fr W W' g :=
  Fr.of (grown_of_below hb _) (.inl (arr_kept (hb.block g h.lt)))
theorem arr_eq {W : World} {g : Nat} {A : Option Addr} {n cap : Nat} (h : W.cell? ⟨g, 0, none⟩ = some (.slice A n cap)) : arr W g = A.map (·.block) := by
  cases A with
  | none => exact arr_nil h
  | some ad => exact arr_slice h
theorem Buf.arr_lt {W : World} {g : Nat} {l : List S68} {c m : Int} (h : Buf W g l c m) : ∀ k, arr W g = some k → k < W.heap.size := by
  obtain ⟨A, cap, hg, hs⟩ := h
  intro k hk
  rw [arr_eq ((blk_cell hg 0).trans rfl)] at hk
  rcases hs with ⟨rfl, _⟩ | ⟨b, cs, rfl, hb, _⟩
  · cases hk
  · injection hk with hk
    exact hk ▸ blk_lt hb
theorem Buf.set1 {W : World} {g : Nat} {l : List S68} {c m : Int} (h : Buf W g l c m) (c' : Int) : Fr W (W.setCell ⟨g, 1, none⟩ (.int .i64 c')) g := by
  obtain ⟨A, cap, hg, hs⟩ := h
  have e1 := arr_eq ((blk_cell hg 0).trans rfl)
  have e2 := arr_eq ((blk_cell (blk_put hg 1 (.int .i64 c') rfl) 0).trans rfl)
  exact Fr.of (grownBy_set W ⟨g, 1, none⟩ _) (.inl (e2.trans e1.symm))
theorem Buf.set2 {W : World} {g : Nat} {l : List S68} {c m : Int} (h : Buf W g l c m) (c' : Int) : Fr W (W.setCell ⟨g, 2, none⟩ (.int .i64 c')) g := by
  obtain ⟨A, cap, hg, hs⟩ := h
  have e1 := arr_eq ((blk_cell hg 0).trans rfl)
  have e2 := arr_eq ((blk_cell (blk_put hg 2 (.int .i64 c') rfl) 0).trans rfl)
  exact Fr.of (grownBy_set W ⟨g, 2, none⟩ _) (.inl (e2.trans e1.symm))
/-- Another's block stays. -/
theorem Fr.blk {W W' : World} {g k : Nat} {o : Obj} (h : W.heap[k]? = some o) (hf : Fr W W' g) (hk : k ≠ g) (ha : ∀ j, arr W g = some j → j ≠ k) : W'.heap[k]? = some o :=
  (hf.block k (blk_lt h) hk fun e => ha k e rfl).trans h

/-! ### push, drop -/
theorem push_calls {W : World} {g : Nat} {l : List S68} {c m : Int} (h : Buf W g l c m) (hl : l.length ≤ 1000) (x : S68) :
    Calls Tryd.prog 30 #[.pointer (some ⟨g, 0, none⟩), .agg #[.string x.f0.f0, .string x.f0.f1, .bool x.f1]] W fun e W' => e = .returned (.tuple #[]) ∧ Buf W' g (x :: l) c m ∧ Fr W W' g := by
  rcases Nat.eq_zero_or_pos l.length with h0 | h0
  · obtain rfl := List.length_eq_zero_iff.1 h0
    exact (push_none W g c m x h).mono fun e W' ⟨h1, h2, h3, h4⟩ => ⟨h1, h2, Fr.of h3 h4⟩
  · exact (push_some W g l c m x h hl h0).mono fun e W' ⟨h1, h2, h3, h4⟩ => ⟨h1, h2, Fr.of h3 h4⟩
theorem drop_calls {W : World} {g : Nat} {l : List S68} {c m : Int} (h : Buf W g l c m) (hl : l.length ≤ 1000) (i : Nat) (hi : i < l.length) :
    Calls Tryd.prog 34 #[.pointer (some ⟨g, 0, none⟩), .int .i64 i] W fun e W' => e = .returned (.tuple #[]) ∧ Buf W' g (l.eraseIdx i) c m ∧ Fr W W' g := by
  rw [List.eraseIdx_eq_take_drop_succ]
  rcases Nat.lt_or_ge (i + 1) l.length with h1 | h1
  · exact (drop_mid W g l c m i h hl h1).mono fun e W' ⟨h1, h2, h3, h4⟩ => ⟨h1, h2, Fr.of h3 h4⟩
  · have e : l.drop (i + 1) = [] := List.drop_eq_nil_of_le h1
    rw [e, List.append_nil]
    exact (drop_last W g l c m i h hl (by omega)).mono fun e W' ⟨h1, h2, h3, h4⟩ => ⟨h1, h2, Fr.of h3 h4⟩
theorem map_erase (l : List S68) (i : Nat) : (l.eraseIdx i).map tr = (l.map tr).eraseIdx i := by
  rw [List.eraseIdx_eq_take_drop_succ, List.eraseIdx_eq_take_drop_succ, List.map_append, List.map_take, List.map_drop]

/-! ### the tables stay -/
theorem LaidW.fr {w w' : World} (h : LaidW w) {g : Nat} (hg : Fr w w' g) (h3 : 3 < g) (ha : ∀ k, arr w g = some k → 3 < k) : LaidW w' := by
  have h0 := h.out
  refine ⟨?_, ?_⟩
  · unfold Lib.TabIs World.var? at h0 ⊢
    rw [glob] at h0 ⊢
    simp only [Option.bind_some] at h0 ⊢
    have hlt : 3 < w.heap.size := by
      rcases Nat.lt_or_ge 3 w.heap.size with hl | hl
      · exact hl
      · have hn : w.heap[3]? = none := Array.getElem?_eq_none hl
        rw [hn] at h0
        simp at h0
    rw [hg.block 3 hlt (by omega) (fun e => by have := ha 3 e; omega)]
    exact h0
  · obtain ⟨m, hm⟩ := h.len
    refine ⟨m, ?_⟩
    have hlt := World.block_lt_of_cell? w _ hm
    rw [World.cell?_of_block (hg.block 0 hlt (by omega) (fun e => by have := ha 0 e; omega))]
    exact hm

set_option maxHeartbeats 1600000 in
set_option maxRecDepth 100000 in
theorem delete_calls {W : World} {g : Nat} {l : List S68} {c m : Int} (h : Buf W g l c m) (hl : l.length ≤ 900) (name : ByteArray) :
    Calls Tryd.prog 22 #[.pointer (some ⟨g, 0, none⟩), .string name] W fun e W' => ∃ l', l'.map tr = (deleteN (l.map tr) name).1 ∧ e = .returned (.int .i64 (deleteN (l.map tr) name).2) ∧ Buf W' g l' c m ∧ Fr W W' g := by
  have hr := meantN_range (l.map tr) name
  rw [List.length_map] at hr
  have HB := Lib.hid h
  clear h
  by_cases hm : meantN (l.map tr) name < 0
  · have hd : deleteN (l.map tr) name = (l.map tr, 240) := by unfold deleteN; rw [if_pos hm]
    rw [hd]
    have HD := Lib.hid hd
    clear hd
    go_enter Tryd.func22, Tryd.ntmps22
    go_wp2_with ((go_at_call 36); (with_reducible refine (of_calls HB.out (by omega) name).mono ?_); rintro e w' ⟨rfl, hb⟩)
    all_goals go_ret
    all_goals exact ⟨l, rfl, rfl, HB.out.below hb, HB.out.frb hb⟩
  · have hd : deleteN (l.map tr) name = ((l.map tr).eraseIdx (meantN (l.map tr) name).toNat, 0) := by unfold deleteN; rw [if_neg hm]
    rw [hd]
    have e : meantN (l.map tr) name = (((meantN (l.map tr) name).toNat : Nat) : Int) := by omega
    have hi : (meantN (l.map tr) name).toNat < l.length := by omega
    generalize (meantN (l.map tr) name).toNat = i at e hi ⊢
    have HE := Lib.hid e
    have hm2 : ¬ ((i : Int) < 0) := by omega
    clear hd e hm hr
    go_enter Tryd.func22, Tryd.ntmps22
    go_wp2_with (first | ((go_at_call 36); (with_reducible refine (of_calls HB.out (by omega) name).mono ?_); rintro e w' ⟨rfl, hb⟩; rw [HE.out]; have HB2 := Lib.hid (HB.out.below hb)) | ((go_at_call 34); (with_reducible refine (drop_calls HB2.out (by omega) i hi).mono ?_); rintro e w2 ⟨rfl, hB2, hg2⟩; have HB3 := Lib.hid hB2; have HG := Lib.hid hg2; clear hB2 hg2))
    all_goals go_ret
    all_goals exact ⟨l.eraseIdx i, map_erase l i, rfl, HB3.out, Fr.trans (HB.out.frb hb) HG.out⟩

/-- The block's cells, as a walk reads them. -/
theorem Buf.facts {W : World} {g : Nat} {l : List S68} {c m : Int} (h : Buf W g l c m) : ∃ A cap, W.cell? ⟨g, 0, none⟩ = some (.slice A l.length cap) ∧ W.cell? ⟨g, 1, none⟩ = some (.int .i64 c) ∧ W.cell? ⟨g, 2, none⟩ = some (.int .i64 m) ∧ W.frozen? ⟨g, 0, none⟩ = false ∧ W.frozen? ⟨g, 1, none⟩ = false ∧ W.frozen? ⟨g, 2, none⟩ = false ∧
    ∀ i : Nat, i < l.length → ∃ b, A = some ⟨b, 0, none⟩ ∧ W.cell? ⟨b, i * 3, none⟩ = some (.string (rd_T68 l i).f0.f0) ∧ W.cell? ⟨b, i * 3 + 1, none⟩ = some (.string (rd_T68 l i).f0.f1) ∧ W.cell? ⟨b, i * 3 + 2, none⟩ = some (.bool (rd_T68 l i).f1) := by
  obtain ⟨A, cap, hg, hs⟩ := h
  refine ⟨A, cap, (blk_cell hg 0).trans rfl, (blk_cell hg 1).trans rfl, (blk_cell hg 2).trans rfl, blk_frozen hg 0, blk_frozen hg 1, blk_frozen hg 2, fun i hi => ?_⟩
  rcases hs with ⟨_, _, rfl⟩ | ⟨b, cs, rfl, hb, hr1, hr2, hr3, ht⟩
  · simp at hi
  · have hx : l[i]? = some (rd_T68 l i) := by
      unfold rd_T68
      rw [Int.toNat_natCast, List.getD_eq_getElem?_getD]
      simp [hi]
    have hc := cell_of_take hb ht
    exact ⟨b, rfl, hc _ _ (bcells_get l i _ hx 0 _ rfl), hc _ _ (bcells_get l i _ hx 1 _ rfl), hc _ _ (bcells_get l i _ hx 2 _ rfl)⟩

set_option maxHeartbeats 1600000 in
set_option maxRecDepth 100000 in
theorem trim_calls {W : World} {g : Nat} {l : List S68} {c m : Int} (h : Buf W g l c m) (hl : l.length ≤ 1000) (hm0 : 0 ≤ m) (hm1 : m ≤ 20) :
    Calls Tryd.prog 31 #[.pointer (some ⟨g, 0, none⟩)] W fun e W' => ∃ l', l'.map tr = trimN (l.map tr) m ∧ e = .returned (.tuple #[]) ∧ Buf W' g l' c m ∧ Fr W W' g := by
  have HB := Lib.hid h
  clear h
  go_enter Tryd.func31, Tryd.ntmps31
  go_wp2_with ((go_at_call 35); (with_reducible refine (count_calls HB.out hl true).mono ?_); rintro e w' ⟨rfl, hb⟩)
  (try simp only [Act.put, List.setIfInBounds_toArray, List.set_cons_zero, List.set_cons_succ])
  go_loopg [2] (countN (l.map tr) true).toNat (fun kq v2 w1 => ∃ l1 : List S68, v2 = .int .i64 (countN (l1.map tr) true) ∧ Aside0 ((countN (l1.map tr) true).toNat = kq) ∧ Aside0 (trimN (l1.map tr) m = trimN (l.map tr) m) ∧ Aside0 (Buf w1 g l1 c m) ∧ Aside0 (Fr W w1 g) ∧ Aside0 (l1.length ≤ 1000))
  case atStart => exact ⟨l, rfl, ⟨rfl⟩, ⟨rfl⟩, ⟨HB.out.below hb⟩, ⟨HB.out.frb hb⟩, ⟨hl⟩⟩
  case round =>
    obtain ⟨l1, rfl, HN, HT, HB1, HG1, HL1⟩ := hrel
    obtain ⟨wo, rfl⟩ : ∃ wo : World, wo = wr := ⟨_, rfl⟩
    obtain ⟨A, cap, hc0, hc1, hc2, hf0, hf1, hf2, _⟩ := HB1.out.facts
    by_cases cc : countN (l1.map tr) true > m
    · obtain ⟨hs1, hs2, hs3⟩ := lastN_spec (l1.map tr) (by omega)
      rw [List.length_map] at hs1 hs3
      have HS2 := Lib.hid hs2
      have HS3 := Lib.hid hs3
      have hl1 := HL1.out
      have hwr : wrap64 ((l1.length : Int) - 1) = ((l1.length - 1 : Nat) : Int) := by rw [wrap_in (by omega) (by omega)]; omega
      clear hs2 hs3
      go_wp2
      (try simp only [Act.put, List.setIfInBounds_toArray, List.set_cons_zero, List.set_cons_succ])
      go_loopg [3] l1.length (fun kq v3 w2 => ∃ i : Nat, v3 = .int .i64 i ∧ Aside0 (i + 1 = kq) ∧ Aside0 (lastN (l1.map tr) ≤ i) ∧ Aside0 (i < l1.length) ∧ Aside0 (Below wo.heap.size wo w2))
      case atStart => exact ⟨l1.length - 1, by congr 1; omega, ⟨by omega⟩, ⟨by omega⟩, ⟨by omega⟩, ⟨Below.refl _ _⟩⟩
      case round =>
        clear hc0 hc1 hc2 hf0 hf1 hf2 hwr
        obtain ⟨i, rfl, HI, HI1, HI2, HW⟩ := hrel
        have hB2 := HB1.out.below HW.out
        have HB2 := Lib.hid hB2
        obtain ⟨A, cap, hc0, hc1, hc2, hf0, hf1, hf2, hx⟩ := hB2.facts
        clear hB2
        obtain ⟨b, rfl, hx0, hx1, hx2⟩ := hx i HI2.out
        have hi2 := HI2.out
        have p1 : (0 : Int) ≤ (i : Int) := by omega
        have p2 : (i : Int) < (l1.length : Int) := by omega
        have hv : (rd_T68 l1 i).f1 = ((l1.map tr).getD i z79).f2 := by
          have := congrArg S79.f2 (rd_tr l1 i)
          unfold rd_T79 at this
          rw [Int.toNat_natCast] at this
          exact this.symm
        by_cases he : i = lastN (l1.map tr)
        · rw [hv, he, HS2.out, ← he] at hx2
          have HE := Lib.hid he
          have hce := countN_erase (l1.map tr) (lastN (l1.map tr)) (by simp; omega) true
          rw [HS2.out] at hce
          have HC := Lib.hid hce
          clear hv he hce
          go_wp2_with ((go_at_call 34); (with_reducible refine (drop_calls HB2.out (by omega) i hi2).mono ?_); rintro e w3 ⟨rfl, hB3, hg3⟩; have HB3 := Lib.hid hB3; have HG3 := Lib.hid hg3; clear hB3 hg3)
          go_roundg (countN ((l1.eraseIdx i).map tr) true).toNat
          case measure =>
            have q1 := HC.out
            have q2 := HN.out
            rw [map_erase, HE.out]
            simp at q1
            omega
          case rel =>
            refine ⟨l1.eraseIdx i, ?_, ⟨rfl⟩, ⟨?_⟩, ⟨HB3.out⟩, ⟨Fr.trans HG1.out (Fr.trans (HB1.out.frb HW.out) HG3.out)⟩, ⟨by rw [List.length_eraseIdx]; split <;> omega⟩⟩
            · have := HC.out
              have q := (countN_le (l1.map tr) true).2
              rw [List.length_map] at q
              rw [map_erase, HE.out, this]
              simp
              exact wrap_in (by omega) (by omega)
            · have := HC.out
              simp at this
              rw [← HT.out, map_erase, HE.out]
              unfold trimN
              rw [this]
              obtain ⟨n, hn⟩ : ∃ n, (countN (l1.map tr) true - m).toNat = n + 1 := ⟨(countN (l1.map tr) true - m).toNat - 1, by omega⟩
              rw [hn, show (countN (l1.map tr) true - 1 - m).toNat = n by omega]
              rfl
        · rw [hv, HS3.out i (by have := HI1.out; omega) hi2] at hx2
          have HE := Lib.hid he
          clear hv he
          go_wp2
          go_roundg i
          case measure => have := HI.out; omega
          case rel => exact ⟨i - 1, by congr 1; have := HE.out; have := HI1.out; omega, ⟨by have := HE.out; have := HI1.out; omega⟩, ⟨by have := HE.out; have := HI1.out; omega⟩, ⟨by omega⟩, HW⟩
    · go_wp2
      all_goals go_end0
      all_goals refine ⟨l1, ?_, rfl, HB1.out, HG1.out⟩
      all_goals rw [← HT.out]
      all_goals unfold trimN
      all_goals rw [show (countN (l1.map tr) true - m).toNat = 0 by omega]
      all_goals rfl

/-- The counter, or the limit, is written. -/
theorem Buf.counter {W : World} {g : Nat} {l : List S68} {c m : Int} (h : Buf W g l c m) (c' : Int) : Buf (W.setCell ⟨g, 1, none⟩ (.int .i64 c')) g l c' m := by
  obtain ⟨A, cap, hg, hs⟩ := h
  refine ⟨A, cap, blk_put hg 1 _ rfl, hs.kept fun b cs2 hA hb => Below.heap_setCell W ⟨g, 1, none⟩ _ b fun e => ?_⟩
  have e2 : b = g := e
  subst e2
  rw [hg] at hb
  injection hb with hb
  injection hb with _ hb _
  exact absurd hb (by decide)
theorem Buf.limit {W : World} {g : Nat} {l : List S68} {c m : Int} (h : Buf W g l c m) (m' : Int) : Buf (W.setCell ⟨g, 2, none⟩ (.int .i64 m')) g l c m' := by
  obtain ⟨A, cap, hg, hs⟩ := h
  refine ⟨A, cap, blk_put hg 2 _ rfl, hs.kept fun b cs2 hA hb => Below.heap_setCell W ⟨g, 2, none⟩ _ b fun e => ?_⟩
  have e2 : b = g := e
  subst e2
  rw [hg] at hb
  injection hb with hb
  injection hb with _ hb _
  exact absurd hb (by decide)

theorem bufName_put (c : Int) (h0 : 0 ≤ c) (h1 : c ≤ 4611686018427387904) : ∃ s, octal_PutNumber.f c = some s ∧ bufName c = (⟨#[98, 117, 102, 102, 101, 114]⟩ : ByteArray) ++ s ∧ s.size ≤ 20 := by
  refine ⟨_, prog_put c h0 h1, rfl, ?_⟩
  have := put_len c.toNat (by omega)
  rw [size_lit]
  simpa using this

set_option maxHeartbeats 1600000 in
set_option maxRecDepth 100000 in
theorem next_calls {W : World} {g : Nat} {l : List S68} {c m : Int} (hL : LaidW W) (h : Buf W g l c m) (hg3 : 3 < g) (ha3 : ∀ k, arr W g = some k → 3 < k) (hl : l.length ≤ 900) (hc : 0 ≤ c) (hc2 : c ≤ 3000000000000) :
    Calls Tryd.prog 29 #[.pointer (some ⟨g, 0, none⟩)] W fun e W' => e = .returned (.string (bufName (nextN (l.map tr) c))) ∧ Buf W' g l (nextN (l.map tr) c + 1) m ∧ Fr W W' g := by
  have HB := Lib.hid h
  have HL := Lib.hid hL
  have HA3 := Lib.hid ha3
  clear h hL ha3
  go_enter Tryd.func29, Tryd.ntmps29
  go_wp2
  (try simp only [Act.put, List.setIfInBounds_toArray, List.set_cons_zero, List.set_cons_succ])
  go_loopg [] (l.length + 1) (fun kq w1 => ∃ c1 : Int, Aside0 (0 ≤ c1 ∧ c1 ≤ 4000000000000) ∧ Aside0 (nextF kq (l.map tr) c1 = nextN (l.map tr) c) ∧ Aside0 (∃ j : Nat, j < kq ∧ atN (l.map tr) (bufName (c1 + j)) < 0) ∧ Aside0 (Buf w1 g l c1 m) ∧ Aside0 (Fr W w1 g) ∧ Aside0 (c1 + kq ≤ 4000000000000))
  case atStart => exact ⟨c, ⟨by omega⟩, ⟨by unfold nextN; rw [List.length_map]⟩, ⟨by have := free_name (l.map tr) c hc; rw [List.length_map] at this; exact this⟩, ⟨HB.out⟩, ⟨HB.out.frb (Below.refl _ _)⟩, ⟨by omega⟩⟩
  case round =>
    obtain ⟨c1, HC, HN, HJ, HB1, HG1, HK⟩ := hrel
    obtain ⟨s, hs1, hs2, hs3⟩ := bufName_put c1 HC.out.1 (by have := HC.out.2; omega)
    have HS1 := Lib.hid hs1
    have HS2 := Lib.hid hs2
    have hz : 6 + s.size ≤ 9223372036854775807 := by omega
    obtain ⟨A, cap, hc0, hc1, hc2, hf0, hf1, hf2, _⟩ := HB1.out.facts
    clear hs1 hs2
    have hwr : wrap64 (c1 + 1) = c1 + 1 := wrap_in (by have := HC.out; omega) (by have := HC.out; omega)
    obtain ⟨kq, rfl⟩ : ∃ kq, gk = kq + 1 := ⟨gk - 1, by obtain ⟨j, hj, _⟩ := HJ.out; omega⟩
    have hnx : nextF (kq + 1) (l.map tr) c1 = if 0 ≤ atN (l.map tr) (bufName c1) then nextF kq (l.map tr) (c1 + 1) else c1 := rfl
    by_cases hat : atN (l.map tr) (bufName c1) < 0
    · have hN := HN.out
      rw [hnx, if_neg (by omega)] at hN
      have HN2 := Lib.hid hN
      clear hN hnx
      go_wp2_with (first | ((go_at_call 46); (with_reducible refine (octal_PutNumber.calls c1 s _ (LaidW.fr HL.out HG1.out hg3 HA3.out) HS1.out).mono ?_); rintro e w2 ⟨rfl, hb2⟩; clear hc0 hc1 hc2 hf0 hf1 hf2; have HB2 := Lib.hid (HB1.out.below hb2); have HG2 := Lib.hid (Fr.trans HG1.out (HB1.out.frb hb2)); clear hb2; obtain ⟨A2, cap2, hc0, hc1, hc2, hf0, hf1, hf2, _⟩ := HB2.out.facts) | ((go_at_call 33); (with_reducible refine (at_calls (HB2.out.counter (c1 + 1)) (by omega) ((⟨#[98, 117, 102, 102, 101, 114]⟩ : ByteArray) ++ s)).mono ?_); rintro e w3 ⟨rfl, hb3⟩; rw [← HS2.out]; have HB3 := Lib.hid ((HB2.out.counter (c1 + 1)).below hb3); have HG3 := Lib.hid (Fr.trans HG2.out (Fr.trans (HB2.out.set1 (c1 + 1)) ((HB2.out.counter (c1 + 1)).frb hb3)))))
      go_ret
      exact ⟨by rw [← HN2.out]; rfl, by rw [← HN2.out]; exact HB3.out, HG3.out⟩
    · have hN := HN.out
      rw [hnx, if_pos (by omega)] at hN
      have HN2 := Lib.hid hN
      clear hN hnx
      go_wp2_with (first | ((go_at_call 46); (with_reducible refine (octal_PutNumber.calls c1 s _ (LaidW.fr HL.out HG1.out hg3 HA3.out) HS1.out).mono ?_); rintro e w2 ⟨rfl, hb2⟩; clear hc0 hc1 hc2 hf0 hf1 hf2; have HB2 := Lib.hid (HB1.out.below hb2); have HG2 := Lib.hid (Fr.trans HG1.out (HB1.out.frb hb2)); clear hb2; obtain ⟨A2, cap2, hc0, hc1, hc2, hf0, hf1, hf2, _⟩ := HB2.out.facts) | ((go_at_call 33); (with_reducible refine (at_calls (HB2.out.counter (c1 + 1)) (by omega) ((⟨#[98, 117, 102, 102, 101, 114]⟩ : ByteArray) ++ s)).mono ?_); rintro e w3 ⟨rfl, hb3⟩; rw [← HS2.out]; have HB3 := Lib.hid ((HB2.out.counter (c1 + 1)).below hb3); have HG3 := Lib.hid (Fr.trans HG2.out (Fr.trans (HB2.out.set1 (c1 + 1)) ((HB2.out.counter (c1 + 1)).frb hb3)))))
      go_roundg kq
      case measure => omega
      case rel =>
        refine ⟨c1 + 1, ⟨by have := HC.out; have := HK.out; omega⟩, ⟨HN2.out⟩, ⟨?_⟩, ⟨HB3.out⟩, ⟨HG3.out⟩, ⟨by have := HK.out; omega⟩⟩
        obtain ⟨j, hj, hf⟩ := HJ.out
        cases j with
        | zero => simp at hf; omega
        | succ j =>
          refine ⟨j, by omega, ?_⟩
          have e : c1 + 1 + (j : Int) = c1 + ((j + 1 : Nat) : Int) := by omega
          rw [e]
          exact hf

set_option maxHeartbeats 1600000 in
set_option maxRecDepth 100000 in
theorem limit_calls {W : World} {g : Nat} {l : List S68} {c m : Int} (h : Buf W g l c m) (hl : l.length ≤ 1000) (n : Int) :
    Calls Tryd.prog 26 #[.pointer (some ⟨g, 0, none⟩), .int .i64 n] W fun e W' => ∃ l', l'.map tr = (limitN (l.map tr) m n).1 ∧ e = .returned (.int .i64 (limitN (l.map tr) m n).2.2) ∧ Buf W' g l' c (limitN (l.map tr) m n).2.1 ∧ Fr W W' g := by
  obtain ⟨A, cap, hc0, hc1, hc2, hf0, hf1, hf2, _⟩ := h.facts
  have HB := Lib.hid h
  clear h
  by_cases h1 : n < 1
  · have hd : limitN (l.map tr) m n = (l.map tr, m, 1) := by unfold limitN; rw [if_pos h1]
    rw [hd]
    clear hd
    go_enter Tryd.func26, Tryd.ntmps26
    go_wp2
    all_goals go_ret
    all_goals exact ⟨l, rfl, rfl, HB.out, HB.out.frb (Below.refl _ _)⟩
  · by_cases h2 : n > 20
    · have hd : limitN (l.map tr) m n = (l.map tr, m, 1) := by unfold limitN; rw [if_neg h1, if_pos h2]
      rw [hd]
      clear hd
      go_enter Tryd.func26, Tryd.ntmps26
      go_wp2
      all_goals go_ret
      all_goals exact ⟨l, rfl, rfl, HB.out, HB.out.frb (Below.refl _ _)⟩
    · have hd : limitN (l.map tr) m n = (trimN (l.map tr) n, n, 0) := by unfold limitN; rw [if_neg h1, if_neg h2]
      rw [hd]
      clear hd
      go_enter Tryd.func26, Tryd.ntmps26
      go_wp2_with ((go_at_call 31); (with_reducible refine (trim_calls (HB.out.limit n) hl (by omega) (by omega)).mono ?_); rintro e w' ⟨l', hl', rfl, hB', hg'⟩; have HL' := Lib.hid hl'; have HB' := Lib.hid hB'; have HG' := Lib.hid hg'; clear hl' hB' hg')
      all_goals go_ret
      all_goals exact ⟨l', HL'.out, rfl, HB'.out, Fr.trans (HB.out.set2 n) HG'.out⟩
end Go.Proofs.YtjkmmfjlladlfaaDoor.Hand
