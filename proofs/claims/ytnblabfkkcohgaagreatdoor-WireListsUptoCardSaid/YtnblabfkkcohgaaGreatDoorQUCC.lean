/- Texts of this claim, put together by a program of this session (prune.py): OctF, FldA, FldD, FldC, FldB. -/
import Derived.Test.YtnblabfkkcohgaaGreatDoorQUCB
import Derived.Lib.ItoaLen
import Derived.Deep.RegionWith
import Derived.Deep.RegionHeld3
import Derived.Lib.SlBytesRow
section
/- The program's ids, names and plans' texts in plain words: PutId, Id, IsName, IsWord, isPlanText. Conditions: the tables lie as they are laid, the text has at most 2^40 bytes. -/
namespace Go.Proofs.YtnblabfkkcohgaaGreatDoor.Wire
set_option linter.unusedVariables false
set_option linter.unusedSimpArgs false
open Go Go.Shelf Go.RowKit Go.Proofs.YtnblabfkkcohgaaGreatDoor.POct Go.Proofs.YtnblabfkkcohgaaGreatDoor.Given Go.Proofs.YtnblabfkkcohgaaGreatDoorW.PrintWords Go.Proofs.YtnblabfkkcohgaaGreatDoorW.PrintLast

def putIdN (mark : UInt8) (n : Int) : List UInt8 := if 1 ≤ n ∧ n ≤ 4611686018427387904 then mark :: Lib.decDigits n.toNat else []
theorem num_str (mark : UInt8) : strOfNums [(mark.toNat : Int)] = ofL [mark] := by
  apply ByteArray.ext
  simp [strOfNums, ofL]
theorem given_itoa (n : Int) (h0 : 0 ≤ n) (h1 : n ≤ 4611686018427387904) : given_Itoa.f n = some (ofL (Lib.decDigits n.toNat)) := by
  unfold given_Itoa.f
  rw [if_pos (by omega), if_pos (by omega)]
  have e1 := Lib.itoa_nonneg n.toNat
  rw [show ((n.toNat : Nat) : Int) = n by omega] at e1
  rw [e1]
  rfl
theorem dec_size (n : Nat) (h : n ≤ 4611686018427387904) : (Lib.decDigits n).length ≤ 21 := by
  have h1 := Lib.itoa_length_le (n : Int) (by omega) (by omega)
  rw [Lib.itoa_nonneg] at h1
  exact h1
theorem putId_calls {w : World} (hL : LaidW w) (mark : UInt8) (n : Int) :
    Calls Tryz.prog 107 #[.int .u8 mark.toNat, .int .i64 n] w fun e w' => e = .returned (.string (ofL (putIdN mark n))) ∧ Below w.heap.size w w' := by
  refine octal_PutId.calls _ _ _ w hL ?_
  unfold octal_PutId.f putIdN
  by_cases h0 : n < 1
  · rw [if_pos h0, if_neg (by omega)]
    rfl
  · rw [if_neg h0]
    by_cases h1 : n > 4611686018427387904
    · rw [if_pos h1, if_neg (by omega)]
      rfl
    · rw [if_neg h1, if_pos (by omega)]
      simp only [Option.bind_some]
      rw [given_itoa n (by omega) (by omega)]
      simp only [Option.bind_some]
      have h2 := dec_size n.toNat (by omega)
      rw [num_str, if_pos (by rw [ofL_size, ofL_size]; simp only [List.length_cons, List.length_nil]; omega), ofL_append]
      rfl

/-- What Id tells. -/
def idR (mark : UInt8) (l : List UInt8) : Int × Bool :=
  if l.head? = some mark then (if (numR (l.drop 1)).2 = true ∧ (numR (l.drop 1)).1 ≠ 0 then ((numR (l.drop 1)).1, true) else (0, false)) else (0, false)
set_option maxHeartbeats 1600000 in
theorem id_calls {w : World} (hL : LaidW w) (mark : UInt8) (s : ByteArray) (hs : s.size ≤ 1099511627776) :
    Calls Tryz.prog 105 #[.int .u8 mark.toNat, .string s] w fun e w' => e = .returned (.tuple #[.int .i64 (idR mark s.data.toList).1, .bool (idR mark s.data.toList).2]) ∧ Below w.heap.size w w' := by
  have HL := Lib.hid hL
  have HS := Lib.hid hs
  clear hL hs
  by_cases h0 : 0 < s.size
  · have hne := notempty h0
    have h1 : (1 : Int) ≤ (s.size : Int) := by omega
    by_cases hb : ((s[0].toNat : Int) == (mark.toNat : Int)) = true
    · have hb' : ((s[0].toNat : Int) != (mark.toNat : Int)) = false := by rw [bne, hb]; rfl
      have e1 : s[0] = mark := by
        apply UInt8.toNat_inj.1
        have := beq_iff_eq.1 hb
        omega
      have HH : Aside0 (s.data.toList.head? = some mark) := ⟨by rw [head_at s h0, e1]⟩
      obtain ⟨v, ok, hr⟩ : ∃ v ok, numR (s.data.toList.drop 1) = (v, ok) := ⟨_, _, rfl⟩
      have HR := Lib.hid hr
      have HX : Aside0 ((s.extract 1 s.size).size ≤ 1099511627776) := ⟨by rw [ByteArray.size_extract]; have := HS.out; omega⟩
      clear hr e1
      cases ok with
      | false =>
        have HE : Aside0 (idR mark s.data.toList = (0, false)) := ⟨by unfold idR; rw [if_pos HH.out, HR.out, if_neg (by simp)]⟩
        go_enter Tryz.func105, Tryz.ntmps105
        go_wp2_with ((go_at_call 99); (with_reducible refine (number_calls HL.out _ HX.out).mono ?_); rintro e w3 ⟨rfl, hb2⟩; rw [ext_drop, HR.out]; have HB := Lib.hid hb2; clear hb2)
        all_goals go_returns
        all_goals exact ⟨by rw [HE.out]; rfl, HB.out⟩
      | true =>
        by_cases hv : v = 0
        · have HE : Aside0 (idR mark s.data.toList = (0, false)) := ⟨by unfold idR; rw [if_pos HH.out, HR.out, if_neg (fun q => q.2 hv)]⟩
          subst hv
          go_enter Tryz.func105, Tryz.ntmps105
          go_wp2_with ((go_at_call 99); (with_reducible refine (number_calls HL.out _ HX.out).mono ?_); rintro e w3 ⟨rfl, hb2⟩; rw [ext_drop, HR.out]; have HB := Lib.hid hb2; clear hb2)
          all_goals go_returns
          all_goals exact ⟨by rw [HE.out]; rfl, HB.out⟩
        · have HE : Aside0 (idR mark s.data.toList = (v, true)) := ⟨by unfold idR; rw [if_pos HH.out, HR.out, if_pos ⟨rfl, hv⟩]⟩
          have hv' : (v == 0) = false := by simpa using hv
          go_enter Tryz.func105, Tryz.ntmps105
          go_wp2_with ((go_at_call 99); (with_reducible refine (number_calls HL.out _ HX.out).mono ?_); rintro e w3 ⟨rfl, hb2⟩; rw [ext_drop, HR.out]; have HB := Lib.hid hb2; clear hb2)
          all_goals go_returns
          all_goals exact ⟨by rw [HE.out]; rfl, HB.out⟩
    · have hb' : ((s[0].toNat : Int) == (mark.toNat : Int)) = false := by simpa using hb
      have hb2 : ((s[0].toNat : Int) != (mark.toNat : Int)) = true := by rw [bne, hb']; rfl
      have HE : Aside0 (idR mark s.data.toList = (0, false)) := ⟨by
        unfold idR
        rw [if_neg]
        rw [head_at s h0]
        intro q
        injection q with q
        exact hb (by rw [q]; simp)⟩
      go_enter Tryz.func105, Tryz.ntmps105
      go_wp2
      all_goals go_returns
      all_goals exact ⟨by rw [HE.out]; rfl, Below.refl _ _⟩
  · obtain rfl := empty_size s h0
    go_enter Tryz.func105, Tryz.ntmps105
    go_wp2
    all_goals go_returns
    all_goals exact ⟨rfl, Below.refl _ _⟩

/-! ### names -/
def nameB (x : UInt8) : Bool := decide (32 ≤ x.toNat) && decide (x.toNat ≤ 126) && decide (x.toNat ≠ 46) && decide (x.toNat ≠ 58)
def nameN (l : List UInt8) : Bool := decide (1 ≤ l.length) && decide (l.length ≤ 32) && l.all nameB && (decide (Lib.indexByte [32, 33, 36, 37, 43, 45, 61, 64, 94, 123] (l.headD 0) < 0) && decide ((l.getLastD 0).toNat ≠ 32))
def wordN (l : List UInt8) : Bool := nameN l && decide (Lib.indexByte l 32 < 0)
theorem bt_at (s : ByteArray) (i : Nat) (h : i < s.size) : bt s i = s[i].toNat := by
  unfold bt
  have h3 : ((i : Int)).toNat < s.size := by simpa using h
  rw [dif_pos h3]
  simp
theorem name_loop (s : ByteArray) (hs : s.size ≤ 1099511627776) (hp : 0 < s.size) : ∀ (d i : Nat), i + d = s.size →
    Ev (fun k => octal_IsName.l0 k s i) ((s.data.toList.drop i).all nameB && (decide (Lib.indexByte [32, 33, 36, 37, 43, 45, 61, 64, 94, 123] s[0] < 0) && decide ((s[s.size - 1]).toNat ≠ 32))) := by
  intro d
  induction d with
  | zero =>
    intro i h
    have e : s.data.toList.drop i = [] := List.drop_eq_nil_of_le (by rw [dlen]; omega)
    rw [e, List.all_nil, Bool.true_and]
    refine Ev.step (f := fun _ => some _) (fun k => ?_) (Ev.now _)
    have hw : wrap64 ((s.size : Int) - 1) = ((s.size - 1 : Nat) : Int) := by unfold wrap64; omega
    have b0 : bt s 0 = s[0].toNat := bt_at s 0 hp
    have bl := bt_at s (s.size - 1) (by omega)
    simp only [octal_IsName.l0]
    rw [if_neg (by omega), if_pos (by omega)]
    simp only [given_IndexByte.f, Option.bind_some]
    rw [hw, bl, b0, show ((s[0].toNat : Nat) : Int).toNat.toUInt8 = s[0] by simp]
    by_cases hq : Lib.indexByte [32, 33, 36, 37, 43, 45, 61, 64, 94, 123] s[0] < 0
    · rw [if_pos hq, if_pos (by omega), if_pos (by omega), decide_eq_true hq, Bool.true_and]
      congr 1
      rw [Bool.eq_iff_iff]
      simp only [bne_iff_ne, ne_eq, decide_eq_true_eq]
      omega
    · rw [if_neg hq, decide_eq_false hq, Bool.false_and]
  | succ d ih =>
    intro i h
    have hi : i < s.size := by omega
    have hw : wrap64 ((i : Int) + 1) = ((i + 1 : Nat) : Int) := by unfold wrap64; omega
    have hb := bt_at s i hi
    rw [drop_at s i hi, List.all_cons]
    by_cases hx : nameB s[i] = true
    · rw [hx, Bool.true_and]
      refine Ev.step (f := fun k => octal_IsName.l0 k s ((i + 1 : Nat) : Int)) (fun k => ?_) (ih (i + 1) (by omega))
      unfold nameB at hx
      simp only [Bool.and_eq_true, decide_eq_true_eq] at hx
      simp only [octal_IsName.l0]
      rw [if_pos (by omega), if_pos (by omega), hb, if_neg (by omega), if_neg (by omega), if_neg (by omega), if_neg (by omega), hw]
    · have hx' : nameB s[i] = false := by simpa using hx
      rw [hx', Bool.false_and, Bool.false_and]
      refine Ev.step (f := fun _ => some false) (fun k => ?_) (Ev.now _)
      have hx2 : s[i].toNat < 32 ∨ 126 < s[i].toNat ∨ s[i].toNat = 46 ∨ s[i].toNat = 58 := by
        unfold nameB at hx
        simp only [Bool.and_eq_true, decide_eq_true_eq] at hx
        omega
      simp only [octal_IsName.l0]
      rw [if_pos (by omega), if_pos (by omega), hb]
      by_cases q1 : ((s[i].toNat : Nat) : Int) < 32
      · rw [if_pos q1]
      · rw [if_neg q1]
        by_cases q2 : ((s[i].toNat : Nat) : Int) > 126
        · rw [if_pos q2]
        · rw [if_neg q2]
          by_cases q3 : ((s[i].toNat : Nat) : Int) = 46
          · rw [if_pos q3]
          · rw [if_neg q3, if_pos (by omega)]
theorem head_last (s : ByteArray) (hp : 0 < s.size) : s.data.toList.headD 0 = s[0] ∧ s.data.toList.getLastD 0 = s[s.size - 1] := by
  have h1 := head_at s hp
  refine ⟨by rw [List.headD_eq_head?_getD, h1]; rfl, ?_⟩
  rw [List.getLastD_eq_getLast?, List.getLast?_eq_getElem?, dlen]
  have h2 : s.data.toList[s.size - 1]? = some s[s.size - 1] := by
    rw [List.getElem?_eq_getElem (by rw [dlen]; omega)]
    simp
    rfl
  rw [h2]
  rfl
theorem name_ev (s : ByteArray) (hs : s.size ≤ 1099511627776) : Ev (fun k => octal_IsName.f k s) (nameN s.data.toList) := by
  unfold octal_IsName.f nameN
  rw [dlen]
  by_cases h0 : (s.size : Int) < 1
  · refine Ev.congr (fun k => if_pos h0) ?_
    rw [decide_eq_false (by omega)]
    simp only [Bool.false_and]
    exact Ev.step (f := fun _ => some false) (fun k => by simp only [octal_IsName.j0]; rfl) (Ev.now _)
  · refine Ev.congr (fun k => if_neg h0) ?_
    rw [decide_eq_true (show 1 ≤ s.size by omega), Bool.true_and]
    by_cases h1 : (s.size : Int) > 32
    · rw [decide_eq_true h1, decide_eq_false (by omega)]
      simp only [Bool.false_and]
      exact Ev.step (f := fun _ => some false) (fun k => by simp only [octal_IsName.j0]; rfl) (Ev.now _)
    · rw [decide_eq_false h1, decide_eq_true (show s.size ≤ 32 by omega), Bool.true_and]
      refine Ev.step (f := fun k => octal_IsName.l0 k s ((0 : Nat) : Int)) (fun k => by simp only [octal_IsName.j0]; rfl) ?_
      have := name_loop s hs (by omega) s.size 0 (by omega)
      rw [List.drop_zero] at this
      obtain ⟨e1, e2⟩ := head_last s (by omega)
      rw [e1, e2]
      exact this
theorem word_ev (s : ByteArray) (hs : s.size ≤ 1099511627776) : Ev (fun k => octal_IsWord.f k s) (wordN s.data.toList) := by
  unfold octal_IsWord.f wordN
  refine Ev.bind (name_ev s hs) ?_
  by_cases hn : nameN s.data.toList = true
  · refine Ev.congr (fun k => if_pos hn) ?_
    rw [hn, Bool.true_and]
    simp only [given_IndexByte.f, Option.bind_some]
    exact Ev.now _
  · refine Ev.congr (fun k => if_neg hn) ?_
    rw [show nameN s.data.toList = false by simpa using hn, Bool.false_and]
    exact Ev.now _
/-! ### plans -/
def planB (x : UInt8) : Bool := !decide (Lib.indexByte [48, 49, 50, 51, 52, 53, 54, 55, 56, 57, 97, 98, 99, 100, 101, 102, 120, 44, 123, 125, 91, 93] x < 0)
def planN (l : List UInt8) : Bool := l.all planB && decide (l.length ≤ 2048)
theorem plan_loop (s : ByteArray) (hs : s.size ≤ 1099511627776) : ∀ (d i : Nat), i + d = s.size →
    Ev (fun k => wire_isPlanText.l0 k s i) ((s.data.toList.drop i).all planB && decide (s.size ≤ 2048)) := by
  intro d
  induction d with
  | zero =>
    intro i h
    have e : s.data.toList.drop i = [] := List.drop_eq_nil_of_le (by rw [dlen]; omega)
    rw [e, List.all_nil, Bool.true_and]
    refine Ev.step (f := fun _ => some _) (fun k => ?_) (Ev.now _)
    simp only [wire_isPlanText.l0]
    rw [if_neg (by omega)]
    congr 1
    rw [Bool.eq_iff_iff, decide_eq_true_eq, decide_eq_true_eq]
    omega
  | succ d ih =>
    intro i h
    have hi : i < s.size := by omega
    have hw : wrap64 ((i : Int) + 1) = ((i + 1 : Nat) : Int) := by unfold wrap64; omega
    have hb := bt_at s i hi
    rw [drop_at s i hi, List.all_cons]
    by_cases hx : Lib.indexByte [48, 49, 50, 51, 52, 53, 54, 55, 56, 57, 97, 98, 99, 100, 101, 102, 120, 44, 123, 125, 91, 93] s[i] < 0
    · have e1 : planB s[i] = false := by unfold planB; rw [decide_eq_true hx]; rfl
      rw [e1, Bool.false_and, Bool.false_and]
      refine Ev.step (f := fun _ => some false) (fun k => ?_) (Ev.now _)
      simp only [wire_isPlanText.l0, given_IndexByte.f, Option.bind_some]
      rw [if_pos (by omega), if_pos (by omega), hb, show ((s[i].toNat : Nat) : Int).toNat.toUInt8 = s[i] by simp, if_pos hx]
    · have e1 : planB s[i] = true := by unfold planB; rw [decide_eq_false hx]; rfl
      rw [e1, Bool.true_and]
      refine Ev.step (f := fun k => wire_isPlanText.l0 k s ((i + 1 : Nat) : Int)) (fun k => ?_) (ih (i + 1) (by omega))
      simp only [wire_isPlanText.l0, given_IndexByte.f, Option.bind_some]
      rw [if_pos (by omega), if_pos (by omega), hb, show ((s[i].toNat : Nat) : Int).toNat.toUInt8 = s[i] by simp, if_neg hx, hw]
theorem plan_ev (s : ByteArray) (hs : s.size ≤ 1099511627776) : Ev (fun k => wire_isPlanText.f k s) (planN s.data.toList) := by
  have := plan_loop s hs s.size 0 (by omega)
  unfold planN
  rw [dlen]
  rw [List.drop_zero] at this
  exact this
end Go.Proofs.YtnblabfkkcohgaaGreatDoor.Wire
end
section
/- Events in memory, and the functions that pick a number or a plan of an event, walked. -/
namespace Go.Proofs.YtnblabfkkcohgaaGreatDoor.Wire
set_option linter.unusedVariables false
set_option linter.unusedSimpArgs false
open Go Go.Shelf Go.RowKit Go.Proofs.YtnblabfkkcohgaaGreatDoor.Given Go.Proofs.YtnblabfkkcohgaaGreatDoorW.PrintWords Go.Proofs.YtnblabfkkcohgaaGreatDoorW.PrintLast

/-- An event. -/
structure Evt where
  kind : Int
  session : Int
  window : Int
  pane : Int
  index : Int
  offset : Int
  tick : Int
  number : Int
  flag : Int
  name : ByteArray
  text : ByteArray
  layout : ByteArray
  visible : ByteArray
  zoom : Bool
  deriving DecidableEq
def evCells (e : Evt) : Array Value := #[.int .i64 e.kind, .int .i64 e.session, .int .i64 e.window, .int .i64 e.pane, .int .i64 e.index, .int .i64 e.offset, .int .i64 e.tick, .int .i64 e.number, .int .i64 e.flag, .string e.name, .string e.text, .string e.layout, .string e.visible, .bool e.zoom]
/-- The event lies in block g. -/
def EvAt (w : World) (g : Nat) (e : Evt) : Prop := w.heap[g]? = some (.cells (evCells e) 28 (0, 0))
theorem EvAt.below {w w' : World} {g : Nat} {e : Evt} (h : EvAt w g e) (hb : Below w.heap.size w w') : EvAt w' g e := blk_below h hb
/-- Whatever happened, what lay there lies there still, but for block g. -/
structure Bg (w w' : World) (g : Nat) : Prop where
  os : w'.os = w.os
  tape : w'.tape = w.tape
  output : w'.output = w.output
  size : w.heap.size ≤ w'.heap.size
  block : ∀ k, k < w.heap.size → k ≠ g → w'.heap[k]? = w.heap[k]?
theorem Bg.of {w w' : World} (h : Below w.heap.size w w') (g : Nat) : Bg w w' g := ⟨h.os, h.tape, h.output, h.size, fun k hk _ => h.block k hk⟩
theorem Bg.trans {a b c : World} {g : Nat} (h : Bg a b g) (k : Bg b c g) : Bg a c g :=
  ⟨k.os.trans h.os, k.tape.trans h.tape, k.output.trans h.output, Nat.le_trans h.size k.size, fun i hi hg => (k.block i (Nat.lt_of_lt_of_le hi h.size) hg).trans (h.block i hi hg)⟩
theorem Bg.blk {w w' : World} {g k : Nat} {o : Obj} (h : Bg w w' g) (hk : w.heap[k]? = some o) (hg : k ≠ g) : w'.heap[k]? = some o := (h.block k (blk_lt hk) hg).trans hk
theorem Bg.below {w w' : World} {g B : Nat} (h : Bg w w' g) (hB : B ≤ g) (hw : B ≤ w.heap.size) : Below B w w' := ⟨h.os, h.tape, h.output, h.size, fun k hk => h.block k (by omega) (by omega)⟩
theorem Bg.set (w : World) (g i : Nat) (v : Value) : Bg w (w.setCell ⟨g, i, none⟩ v) g := by
  refine ⟨rfl, rfl, rfl, by simp, fun k hk hne => ?_⟩
  exact Below.heap_setCell w ⟨g, i, none⟩ v k (fun e => hne e)
def zeroEv : Evt := ⟨0, 0, 0, 0, 0, 0, 0, 0, 0, ⟨#[]⟩, ⟨#[]⟩, ⟨#[]⟩, ⟨#[]⟩, false⟩
theorem pick_tick (g : Nat) (w : World) : Calls Tryz.prog 63 #[.pointer (some ⟨g, 0, none⟩)] w fun e w' => e = .returned (.pointer (some ⟨g, 6, none⟩)) ∧ w' = w := by
  go_enter Tryz.func63, Tryz.ntmps63
  go_wp2
  all_goals go_returns
  all_goals exact ⟨rfl, rfl⟩
theorem ev_tick {w : World} {g : Nat} {e : Evt} (h : EvAt w g e) : w.cell? ⟨g, 6, none⟩ = some (.int .i64 e.tick) ∧ w.frozen? ⟨g, 6, none⟩ = false := ⟨(blk_cell h 6).trans rfl, blk_frozen h 6⟩
theorem put_tick {w : World} {g : Nat} {e : Evt} (h : EvAt w g e) (v : Int) : EvAt (w.setCell ⟨g, 6, none⟩ (.int .i64 v)) g { e with tick := v } := blk_put h 6 _ rfl
theorem pick_number (g : Nat) (w : World) : Calls Tryz.prog 64 #[.pointer (some ⟨g, 0, none⟩)] w fun e w' => e = .returned (.pointer (some ⟨g, 7, none⟩)) ∧ w' = w := by
  go_enter Tryz.func64, Tryz.ntmps64
  go_wp2
  all_goals go_returns
  all_goals exact ⟨rfl, rfl⟩
theorem ev_number {w : World} {g : Nat} {e : Evt} (h : EvAt w g e) : w.cell? ⟨g, 7, none⟩ = some (.int .i64 e.number) ∧ w.frozen? ⟨g, 7, none⟩ = false := ⟨(blk_cell h 7).trans rfl, blk_frozen h 7⟩
theorem put_number {w : World} {g : Nat} {e : Evt} (h : EvAt w g e) (v : Int) : EvAt (w.setCell ⟨g, 7, none⟩ (.int .i64 v)) g { e with number := v } := blk_put h 7 _ rfl
theorem pick_flag (g : Nat) (w : World) : Calls Tryz.prog 65 #[.pointer (some ⟨g, 0, none⟩)] w fun e w' => e = .returned (.pointer (some ⟨g, 8, none⟩)) ∧ w' = w := by
  go_enter Tryz.func65, Tryz.ntmps65
  go_wp2
  all_goals go_returns
  all_goals exact ⟨rfl, rfl⟩
theorem ev_flag {w : World} {g : Nat} {e : Evt} (h : EvAt w g e) : w.cell? ⟨g, 8, none⟩ = some (.int .i64 e.flag) ∧ w.frozen? ⟨g, 8, none⟩ = false := ⟨(blk_cell h 8).trans rfl, blk_frozen h 8⟩
theorem put_flag {w : World} {g : Nat} {e : Evt} (h : EvAt w g e) (v : Int) : EvAt (w.setCell ⟨g, 8, none⟩ (.int .i64 v)) g { e with flag := v } := blk_put h 8 _ rfl
theorem pick_pane (g : Nat) (w : World) : Calls Tryz.prog 67 #[.pointer (some ⟨g, 0, none⟩)] w fun e w' => e = .returned (.pointer (some ⟨g, 3, none⟩)) ∧ w' = w := by
  go_enter Tryz.func67, Tryz.ntmps67
  go_wp2
  all_goals go_returns
  all_goals exact ⟨rfl, rfl⟩
theorem ev_pane {w : World} {g : Nat} {e : Evt} (h : EvAt w g e) : w.cell? ⟨g, 3, none⟩ = some (.int .i64 e.pane) ∧ w.frozen? ⟨g, 3, none⟩ = false := ⟨(blk_cell h 3).trans rfl, blk_frozen h 3⟩
theorem put_pane {w : World} {g : Nat} {e : Evt} (h : EvAt w g e) (v : Int) : EvAt (w.setCell ⟨g, 3, none⟩ (.int .i64 v)) g { e with pane := v } := blk_put h 3 _ rfl
theorem pick_offset (g : Nat) (w : World) : Calls Tryz.prog 69 #[.pointer (some ⟨g, 0, none⟩)] w fun e w' => e = .returned (.pointer (some ⟨g, 5, none⟩)) ∧ w' = w := by
  go_enter Tryz.func69, Tryz.ntmps69
  go_wp2
  all_goals go_returns
  all_goals exact ⟨rfl, rfl⟩
theorem ev_offset {w : World} {g : Nat} {e : Evt} (h : EvAt w g e) : w.cell? ⟨g, 5, none⟩ = some (.int .i64 e.offset) ∧ w.frozen? ⟨g, 5, none⟩ = false := ⟨(blk_cell h 5).trans rfl, blk_frozen h 5⟩
theorem put_offset {w : World} {g : Nat} {e : Evt} (h : EvAt w g e) (v : Int) : EvAt (w.setCell ⟨g, 5, none⟩ (.int .i64 v)) g { e with offset := v } := blk_put h 5 _ rfl
theorem pick_window (g : Nat) (w : World) : Calls Tryz.prog 70 #[.pointer (some ⟨g, 0, none⟩)] w fun e w' => e = .returned (.pointer (some ⟨g, 2, none⟩)) ∧ w' = w := by
  go_enter Tryz.func70, Tryz.ntmps70
  go_wp2
  all_goals go_returns
  all_goals exact ⟨rfl, rfl⟩
theorem ev_window {w : World} {g : Nat} {e : Evt} (h : EvAt w g e) : w.cell? ⟨g, 2, none⟩ = some (.int .i64 e.window) ∧ w.frozen? ⟨g, 2, none⟩ = false := ⟨(blk_cell h 2).trans rfl, blk_frozen h 2⟩
theorem put_window {w : World} {g : Nat} {e : Evt} (h : EvAt w g e) (v : Int) : EvAt (w.setCell ⟨g, 2, none⟩ (.int .i64 v)) g { e with window := v } := blk_put h 2 _ rfl
theorem pick_session (g : Nat) (w : World) : Calls Tryz.prog 76 #[.pointer (some ⟨g, 0, none⟩)] w fun e w' => e = .returned (.pointer (some ⟨g, 1, none⟩)) ∧ w' = w := by
  go_enter Tryz.func76, Tryz.ntmps76
  go_wp2
  all_goals go_returns
  all_goals exact ⟨rfl, rfl⟩
theorem ev_session {w : World} {g : Nat} {e : Evt} (h : EvAt w g e) : w.cell? ⟨g, 1, none⟩ = some (.int .i64 e.session) ∧ w.frozen? ⟨g, 1, none⟩ = false := ⟨(blk_cell h 1).trans rfl, blk_frozen h 1⟩
theorem put_session {w : World} {g : Nat} {e : Evt} (h : EvAt w g e) (v : Int) : EvAt (w.setCell ⟨g, 1, none⟩ (.int .i64 v)) g { e with session := v } := blk_put h 1 _ rfl
theorem pick_index (g : Nat) (w : World) : Calls Tryz.prog 77 #[.pointer (some ⟨g, 0, none⟩)] w fun e w' => e = .returned (.pointer (some ⟨g, 4, none⟩)) ∧ w' = w := by
  go_enter Tryz.func77, Tryz.ntmps77
  go_wp2
  all_goals go_returns
  all_goals exact ⟨rfl, rfl⟩
theorem ev_index {w : World} {g : Nat} {e : Evt} (h : EvAt w g e) : w.cell? ⟨g, 4, none⟩ = some (.int .i64 e.index) ∧ w.frozen? ⟨g, 4, none⟩ = false := ⟨(blk_cell h 4).trans rfl, blk_frozen h 4⟩
theorem put_index {w : World} {g : Nat} {e : Evt} (h : EvAt w g e) (v : Int) : EvAt (w.setCell ⟨g, 4, none⟩ (.int .i64 v)) g { e with index := v } := blk_put h 4 _ rfl
end Go.Proofs.YtnblabfkkcohgaaGreatDoor.Wire
end
section
/- The closures of the other fields, walked: names, texts, plans, zoom, colon. -/
namespace Go.Proofs.YtnblabfkkcohgaaGreatDoor.Wire
set_option linter.unusedVariables false
set_option linter.unusedSimpArgs false
open Go Go.Shelf Go.RowKit Go.Proofs.YtnblabfkkcohgaaGreatDoor.Given Go.Proofs.YtnblabfkkcohgaaGreatDoorW.PrintWords Go.Proofs.YtnblabfkkcohgaaGreatDoorW.PrintLast

theorem ev_name {w : World} {g : Nat} {e : Evt} (h : EvAt w g e) : w.cell? ⟨g, 9, none⟩ = some (.string e.name) ∧ w.frozen? ⟨g, 9, none⟩ = false := ⟨(blk_cell h 9).trans rfl, blk_frozen h 9⟩
theorem put_name {w : World} {g : Nat} {e : Evt} (h : EvAt w g e) (v : ByteArray) : EvAt (w.setCell ⟨g, 9, none⟩ (.string v)) g { e with name := v } := blk_put h 9 _ rfl
theorem ev_text {w : World} {g : Nat} {e : Evt} (h : EvAt w g e) : w.cell? ⟨g, 10, none⟩ = some (.string e.text) ∧ w.frozen? ⟨g, 10, none⟩ = false := ⟨(blk_cell h 10).trans rfl, blk_frozen h 10⟩
theorem put_text {w : World} {g : Nat} {e : Evt} (h : EvAt w g e) (v : ByteArray) : EvAt (w.setCell ⟨g, 10, none⟩ (.string v)) g { e with text := v } := blk_put h 10 _ rfl
theorem ev_layout {w : World} {g : Nat} {e : Evt} (h : EvAt w g e) : w.cell? ⟨g, 11, none⟩ = some (.string e.layout) ∧ w.frozen? ⟨g, 11, none⟩ = false := ⟨(blk_cell h 11).trans rfl, blk_frozen h 11⟩
theorem put_layout {w : World} {g : Nat} {e : Evt} (h : EvAt w g e) (v : ByteArray) : EvAt (w.setCell ⟨g, 11, none⟩ (.string v)) g { e with layout := v } := blk_put h 11 _ rfl
theorem ev_visible {w : World} {g : Nat} {e : Evt} (h : EvAt w g e) : w.cell? ⟨g, 12, none⟩ = some (.string e.visible) ∧ w.frozen? ⟨g, 12, none⟩ = false := ⟨(blk_cell h 12).trans rfl, blk_frozen h 12⟩
theorem put_visible {w : World} {g : Nat} {e : Evt} (h : EvAt w g e) (v : ByteArray) : EvAt (w.setCell ⟨g, 12, none⟩ (.string v)) g { e with visible := v } := blk_put h 12 _ rfl
theorem ev_zoom {w : World} {g : Nat} {e : Evt} (h : EvAt w g e) : w.cell? ⟨g, 13, none⟩ = some (.bool e.zoom) ∧ w.frozen? ⟨g, 13, none⟩ = false := ⟨(blk_cell h 13).trans rfl, blk_frozen h 13⟩
theorem put_zoom {w : World} {g : Nat} {e : Evt} (h : EvAt w g e) (v : Bool) : EvAt (w.setCell ⟨g, 13, none⟩ (.bool v)) g { e with zoom := v } := blk_put h 13 _ rfl
set_option maxHeartbeats 1600000 in
theorem zoom_keep {w : World} {gt gf : Nat} {et ef : Evt} (ht : EvAt w gt et) (hf : EvAt w gf ef) :
    Calls Tryz.prog 127 #[.pointer (some ⟨gt, 0, none⟩), .pointer (some ⟨gf, 0, none⟩)] w fun e w' => e = .returned (.tuple #[]) ∧ EvAt w' gt { et with zoom := ef.zoom } ∧ Bg w w' gt := by
  have HT := Lib.hid ht
  obtain ⟨c6, e6⟩ := ev_zoom ht
  obtain ⟨c7, e7⟩ := ev_zoom hf
  clear ht hf
  go_enter Tryz.func127, Tryz.ntmps127
  go_wp2
  (try go_region)
  all_goals first | go_returns | go_end0
  all_goals exact ⟨rfl, by first | exact put_zoom HT.out _ | exact put_zoom (e := et) (w := w) HT.out _, by first | exact Bg.set _ _ _ _ | exact ⟨rfl, rfl, rfl, (Bg.set w gt _ _).size, (Bg.set w gt _ _).block⟩⟩
theorem zoom_put {w : World} {ge : Nat} {ev : Evt} (he : EvAt w ge ev) :
    Calls Tryz.prog 125 #[.pointer (some ⟨ge, 0, none⟩)] w fun e w' => e = .returned (.tuple #[.string (ofL (if ev.zoom then [90] else [45])), .bool true]) ∧ Below w.heap.size w w' := by
  obtain ⟨c6, e6⟩ := ev_zoom he
  clear he
  generalize ev.zoom = z at c6 ⊢
  cases z with
  | true =>
    go_enter Tryz.func125, Tryz.ntmps125
    go_wp2
    all_goals go_returns
    all_goals exact ⟨rfl, Below.refl _ _⟩
  | false =>
    go_enter Tryz.func125, Tryz.ntmps125
    go_wp2
    all_goals go_returns
    all_goals exact ⟨rfl, Below.refl _ _⟩
theorem zoom_get {w : World} {ge : Nat} {ev : Evt} {s : ByteArray} (he : EvAt w ge ev) :
    Calls Tryz.prog 126 #[.pointer (some ⟨ge, 0, none⟩), .string s] w fun e w' => e = .returned (.bool ((s.toList == [90]) || (s.toList == [45]))) ∧ EvAt w' ge { ev with zoom := (s.toList == [90]) } ∧ Bg w w' ge := by
  have HE := Lib.hid he
  obtain ⟨c6, e6⟩ := ev_zoom he
  clear he
  by_cases h : (s.toList == [90]) = true
  · go_enter Tryz.func126, Tryz.ntmps126
    go_wp2
    all_goals go_returns
    all_goals exact ⟨by simp [h], by rw [← h]; exact put_zoom HE.out _, Bg.set _ _ _ _⟩
  · have h' : (s.toList == [90]) = false := by simpa using h
    go_enter Tryz.func126, Tryz.ntmps126
    go_wp2
    all_goals go_returns
    all_goals exact ⟨by simp [h'], by rw [← h']; exact put_zoom HE.out _, Bg.set _ _ _ _⟩
theorem colon_put {w : World} {ge : Nat} :
    Calls Tryz.prog 129 #[.pointer (some ⟨ge, 0, none⟩)] w fun e w' => e = .returned (.tuple #[.string (ofL [58]), .bool true]) ∧ Below w.heap.size w w' := by
  go_enter Tryz.func129, Tryz.ntmps129
  go_wp2
  all_goals go_returns
  all_goals exact ⟨rfl, Below.refl _ _⟩
theorem colon_get {w : World} {ge : Nat} {ev : Evt} {s : ByteArray} (he : EvAt w ge ev) :
    Calls Tryz.prog 130 #[.pointer (some ⟨ge, 0, none⟩), .string s] w fun e w' => e = .returned (.bool (s.toList == [58])) ∧ EvAt w' ge ev ∧ Bg w w' ge := by
  have HE := Lib.hid he
  clear he
  go_enter Tryz.func130, Tryz.ntmps130
  go_wp2
  all_goals go_returns
  all_goals exact ⟨by simp [*], HE.out, Bg.of (Below.refl _ _) _⟩
theorem colon_keep {w : World} {gt gf : Nat} {et : Evt} (ht : EvAt w gt et) :
    Calls Tryz.prog 131 #[.pointer (some ⟨gt, 0, none⟩), .pointer (some ⟨gf, 0, none⟩)] w fun e w' => e = .returned (.tuple #[]) ∧ EvAt w' gt et ∧ Bg w w' gt := by
  have HT := Lib.hid ht
  clear ht
  go_enter Tryz.func131, Tryz.ntmps131
  (try go_wp2)
  all_goals first | go_returns | go_end0
  all_goals exact ⟨rfl, HT.out, Bg.of (Below.refl _ _) _⟩
/-- Which texts may be a name. -/
def mayN (blanks : Bool) (l : List UInt8) : Bool := if blanks then nameN l else wordN l
theorem name_quiet (w : World) (s : ByteArray) (hs : s.size ≤ 1099511627776) : Calls Tryz.prog 116 #[.string s] w fun e w' => e = .returned (.bool (mayN true s.data.toList)) ∧ ∃ n, w' = w.drewN n := by
  obtain ⟨k, hk⟩ := (name_ev s hs).rounds
  exact (POct.octal_IsName.calls k s _ w hk).mono fun e w' h => ⟨h.1, h.2.out⟩
theorem word_quiet (w : World) (s : ByteArray) (hs : s.size ≤ 1099511627776) : Calls Tryz.prog 115 #[.string s] w fun e w' => e = .returned (.bool (mayN false s.data.toList)) ∧ ∃ n, w' = w.drewN n := by
  obtain ⟨k, hk⟩ := (word_ev s hs).rounds
  exact (POct.octal_IsWord.calls k s _ w hk).mono fun e w' h => ⟨h.1, h.2.out⟩
set_option maxHeartbeats 1600000 in
theorem name_keep {w : World} {gt gf : Nat} {et ef : Evt} (ht : EvAt w gt et) (hf : EvAt w gf ef) :
    Calls Tryz.prog 119 #[.pointer (some ⟨gt, 0, none⟩), .pointer (some ⟨gf, 0, none⟩)] w fun e w' => e = .returned (.tuple #[]) ∧ EvAt w' gt { et with name := ef.name } ∧ Bg w w' gt := by
  have HT := Lib.hid ht
  obtain ⟨c6, e6⟩ := ev_name ht
  obtain ⟨c7, e7⟩ := ev_name hf
  clear ht hf
  go_enter Tryz.func119, Tryz.ntmps119
  go_wp2
  (try go_region)
  all_goals first | go_returns | go_end0
  all_goals exact ⟨rfl, by first | exact put_name HT.out _ | exact put_name (e := et) (w := w) HT.out _, by first | exact Bg.set _ _ _ _ | exact ⟨rfl, rfl, rfl, (Bg.set w gt _ _).size, (Bg.set w gt _ _).block⟩⟩
set_option maxHeartbeats 1600000 in
theorem name_put_true {w : World} {ge b1 : Nat} {ev : Evt} (he : EvAt w ge ev) (hs : ev.name.size ≤ 1099511627776) (h1 : w.heap[b1]? = some (.cells #[.func (.func 116) #[] #[]] 30 (0, 0))) :
    Calls Tryz.prog 117 #[.pointer (some ⟨ge, 0, none⟩), .pointer (some ⟨b1, 0, none⟩)] w fun e w' => e = .returned (.tuple #[.string ev.name, .bool (mayN true ev.name.data.toList)]) ∧ Below w.heap.size w w' := by
  obtain ⟨c6, e6⟩ := ev_name he
  have g1 : w.cell? ⟨b1, 0, none⟩ = some (.func (.func 116) #[] #[]) := (blk_cell h1 0).trans rfl
  clear he h1
  generalize ev.name = s at c6 hs
  have HQ := Lib.hid (show ∀ n, Calls Tryz.prog 116 #[.string s] (w.drewN n) (fun e w'' => e = .returned (.bool (mayN true s.data.toList)) ∧ ∃ m, w'' = w.drewN m) from fun n => Calls.quiet_of (name_quiet _ s hs))
  go_enter Tryz.func117, Tryz.ntmps117
  go_wp2
  go_quiet (first | ((go_at_call 116); (exact HQ.out _)))
  go_wp2
  all_goals go_returns
  all_goals exact ⟨rfl, by repeat (first | exact Below.refl _ _ | apply pw_below_drewN | apply below_drew1)⟩
set_option maxHeartbeats 1600000 in
theorem name_get_true {w : World} {ge b1 : Nat} {ev : Evt} {s : ByteArray} (he : EvAt w ge ev) (hs : s.size ≤ 1099511627776) (h1 : w.heap[b1]? = some (.cells #[.func (.func 116) #[] #[]] 30 (0, 0))) (hn : b1 ≠ ge) :
    Calls Tryz.prog 118 #[.pointer (some ⟨ge, 0, none⟩), .string s, .pointer (some ⟨b1, 0, none⟩)] w fun e w' => e = .returned (.bool (mayN true s.data.toList)) ∧ EvAt w' ge { ev with name := s } ∧ Bg w w' ge := by
  have HE := Lib.hid he
  have HS := Lib.hid hs
  obtain ⟨c6, e6⟩ := ev_name he
  have g1 : w.cell? ⟨b1, 0, none⟩ = some (.func (.func 116) #[] #[]) := (blk_cell h1 0).trans rfl
  have hn' : ge ≠ b1 := fun e => hn e.symm
  clear he h1 hs
  go_enter Tryz.func118, Tryz.ntmps118
  go_wp2_with ((go_at_call 116); (with_reducible refine (name_quiet _ s HS.out).mono ?_); rintro e w2 ⟨rfl, nd, rfl⟩)
  all_goals go_returns
  all_goals exact ⟨rfl, by first | exact put_name HE.out _ | exact (show EvAt (World.drewN _ _) _ _ from put_name HE.out s), by
    have h := Bg.set w ge 9 (.string s)
    exact h.trans (Bg.of (by repeat (first | exact Below.refl _ _ | apply pw_below_drewN | apply below_drew1)) _)⟩
set_option maxHeartbeats 1600000 in
theorem name_put_false {w : World} {ge b1 : Nat} {ev : Evt} (he : EvAt w ge ev) (hs : ev.name.size ≤ 1099511627776) (h1 : w.heap[b1]? = some (.cells #[.func (.func 115) #[] #[]] 30 (0, 0))) :
    Calls Tryz.prog 117 #[.pointer (some ⟨ge, 0, none⟩), .pointer (some ⟨b1, 0, none⟩)] w fun e w' => e = .returned (.tuple #[.string ev.name, .bool (mayN false ev.name.data.toList)]) ∧ Below w.heap.size w w' := by
  obtain ⟨c6, e6⟩ := ev_name he
  have g1 : w.cell? ⟨b1, 0, none⟩ = some (.func (.func 115) #[] #[]) := (blk_cell h1 0).trans rfl
  clear he h1
  generalize ev.name = s at c6 hs
  have HQ := Lib.hid (show ∀ n, Calls Tryz.prog 115 #[.string s] (w.drewN n) (fun e w'' => e = .returned (.bool (mayN false s.data.toList)) ∧ ∃ m, w'' = w.drewN m) from fun n => Calls.quiet_of (word_quiet _ s hs))
  go_enter Tryz.func117, Tryz.ntmps117
  go_wp2
  go_quiet (first | ((go_at_call 115); (exact HQ.out _)))
  go_wp2
  all_goals go_returns
  all_goals exact ⟨rfl, by repeat (first | exact Below.refl _ _ | apply pw_below_drewN | apply below_drew1)⟩
set_option maxHeartbeats 1600000 in
theorem name_get_false {w : World} {ge b1 : Nat} {ev : Evt} {s : ByteArray} (he : EvAt w ge ev) (hs : s.size ≤ 1099511627776) (h1 : w.heap[b1]? = some (.cells #[.func (.func 115) #[] #[]] 30 (0, 0))) (hn : b1 ≠ ge) :
    Calls Tryz.prog 118 #[.pointer (some ⟨ge, 0, none⟩), .string s, .pointer (some ⟨b1, 0, none⟩)] w fun e w' => e = .returned (.bool (mayN false s.data.toList)) ∧ EvAt w' ge { ev with name := s } ∧ Bg w w' ge := by
  have HE := Lib.hid he
  have HS := Lib.hid hs
  obtain ⟨c6, e6⟩ := ev_name he
  have g1 : w.cell? ⟨b1, 0, none⟩ = some (.func (.func 115) #[] #[]) := (blk_cell h1 0).trans rfl
  have hn' : ge ≠ b1 := fun e => hn e.symm
  clear he h1 hs
  go_enter Tryz.func118, Tryz.ntmps118
  go_wp2_with ((go_at_call 115); (with_reducible refine (word_quiet _ s HS.out).mono ?_); rintro e w2 ⟨rfl, nd, rfl⟩)
  all_goals go_returns
  all_goals exact ⟨rfl, by first | exact put_name HE.out _ | exact (show EvAt (World.drewN _ _) _ _ from put_name HE.out s), by
    have h := Bg.set w ge 9 (.string s)
    exact h.trans (Bg.of (by repeat (first | exact Below.refl _ _ | apply pw_below_drewN | apply below_drew1)) _)⟩
set_option maxHeartbeats 1600000 in
theorem text_keep {w : World} {gt gf : Nat} {et ef : Evt} (ht : EvAt w gt et) (hf : EvAt w gf ef) :
    Calls Tryz.prog 112 #[.pointer (some ⟨gt, 0, none⟩), .pointer (some ⟨gf, 0, none⟩)] w fun e w' => e = .returned (.tuple #[]) ∧ EvAt w' gt { et with text := ef.text } ∧ Bg w w' gt := by
  have HT := Lib.hid ht
  obtain ⟨c6, e6⟩ := ev_text ht
  obtain ⟨c7, e7⟩ := ev_text hf
  clear ht hf
  go_enter Tryz.func112, Tryz.ntmps112
  go_wp2
  (try go_region)
  all_goals first | go_returns | go_end0
  all_goals exact ⟨rfl, by first | exact put_text HT.out _ | exact put_text (e := et) (w := w) HT.out _, by first | exact Bg.set _ _ _ _ | exact ⟨rfl, rfl, rfl, (Bg.set w gt _ _).size, (Bg.set w gt _ _).block⟩⟩
set_option maxHeartbeats 3200000 in
set_option maxRecDepth 100000 in
theorem text_put {w : World} {ge b1 b2 : Nat} {ev : Evt} {least most : Int} (hL : LaidW w) (he : EvAt w ge ev) (hs : ev.text.size ≤ 1099511627776) (h1 : w.heap[b1]? = some (.cells #[.int .i64 least] 3 (0, 0))) (h2 : w.heap[b2]? = some (.cells #[.int .i64 most] 3 (0, 0))) :
    Calls Tryz.prog 110 #[.pointer (some ⟨ge, 0, none⟩), .pointer (some ⟨b1, 0, none⟩), .pointer (some ⟨b2, 0, none⟩)] w fun e w' => e = .returned (.tuple #[.string (ofL (escL ev.text.data.toList)), .bool (decide (least ≤ (ev.text.size : Int)) && decide ((ev.text.size : Int) ≤ most))]) ∧ Below w.heap.size w w' := by
  have HL := Lib.hid hL
  have HS := Lib.hid hs
  have HE := Lib.hid he
  have H1 := Lib.hid h1
  have H2 := Lib.hid h2
  obtain ⟨c6, e6⟩ := ev_text he
  have g1 : w.cell? ⟨b1, 0, none⟩ = some (.int .i64 least) := (blk_cell h1 0).trans rfl
  have g2 : w.cell? ⟨b2, 0, none⟩ = some (.int .i64 most) := (blk_cell h2 0).trans rfl
  clear hL he hs h1 h2
  generalize ev.text = s at c6 HS ⊢
  have C6 := Lib.hid c6
  have G1 := Lib.hid g1
  have G2 := Lib.hid g2
  by_cases hv : least ≤ (s.size : Int)
  · have hvd : decide (least ≤ (s.size : Int)) = true := decide_eq_true hv
    go_enter Tryz.func110, Tryz.ntmps110
    go_wp2
    have hB0 := Below.refl w.heap.size w
    go_region_held3 (fun W => W.cell? ⟨ge, 10, none⟩ = some (.string s) ∧ W.cell? ⟨b1, 0, none⟩ = some (.int .i64 least) ∧ W.cell? ⟨b2, 0, none⟩ = some (.int .i64 most) ∧ Below w.heap.size w W) (first | exact ⟨by assumption, by assumption, by assumption, by assumption⟩ | exact ⟨c6, g1, g2, below_drew1 hB0⟩ | go_keep) (first | (go_at_call 54; refine (escape_calls (HL.out.below (by first | assumption | exact below_drew1 hB0)) _ HS.out).mono ?_; rintro e w3 ⟨rfl, hb⟩; have hB3 : Below w.heap.size w w3 := below_step (by first | assumption | exact below_drew1 hB0) hb; have q6 := pw_cell_below hB3 C6.out; have q1 := pw_cell_below hB3 G1.out; have q2 := pw_cell_below hB3 G2.out; clear hb))
    all_goals go_wp2
    all_goals go_returns
    all_goals exact ⟨by first | (rw [hvd, Bool.true_and]; rfl) | simp [hvd], by repeat (first | assumption | apply pw_below_drewN | apply below_drew1)⟩
  · have hvd : decide (least ≤ (s.size : Int)) = false := decide_eq_false hv
    have hB0 : Below w.heap.size w w.drew := below_drew1 (Below.refl _ _)
    go_enter Tryz.func110, Tryz.ntmps110
    go_wp2
    refine start_ (n := 23) (S := fun W => W.cell? ⟨ge, 10, none⟩ = some (.string s) ∧ W.cell? ⟨b1, 0, none⟩ = some (.int .i64 least) ∧ W.cell? ⟨b2, 0, none⟩ = some (.int .i64 most)) (ds := []) #[false, false, false, false, false, false, false, false, false, false, false, false, false, false, false, false, false, false, false, false, false, false, false] (by kernel_rfl) rfl rfl ⟨c6, g1, g2⟩ (fun hHeld => ?_)
    generalize w.drew = wd at hB0 hHeld ⊢
    refine pure_ (i := 0) (N := some 6) (v := ?_) (a' := ?_) #[true, false, false, false, false, false, false, false, false, false, false, false, false, false, false, false, false, false, false, false, false, false, false] rfl rfl (by kernel_rfl) (fun _ _ _ h => h) (Or.inl ⟨by rfl, ?_⟩) ?_ ?_
    rotate_left
    · intro w'
      go_simp
      with_reducible rfl
    rotate_left
    · simp only [Act.put, List.setIfInBounds_toArray, List.set_cons_zero, List.set_cons_succ]
      rfl
    refine pure_ (i := 5) (N := some 11) (v := ?_) (a' := ?_) #[true, false, false, false, false, true, false, false, false, false, false, false, false, false, false, false, false, false, false, false, false, false, false] rfl rfl (by kernel_rfl) (fun _ _ _ h => h) (Or.inl ⟨by rfl, ?_⟩) ?_ ?_
    rotate_left
    · intro w'
      go_simp
      with_reducible rfl
    rotate_left
    · simp only [Act.put, List.setIfInBounds_toArray, List.set_cons_zero, List.set_cons_succ]
      rfl
    refine pure_ (i := 1) (N := some 7) (v := ?_) (a' := ?_) #[true, true, false, false, false, true, false, false, false, false, false, false, false, false, false, false, false, false, false, false, false, false, false] rfl rfl (by kernel_rfl) (fun _ _ _ h => h) (Or.inl ⟨by rfl, ?_⟩) ?_ ?_
    rotate_left
    · intro w'
      go_simp
      with_reducible rfl
    rotate_left
    · simp only [Act.put, List.setIfInBounds_toArray, List.set_cons_zero, List.set_cons_succ]
      rfl
    refine pure_ (i := 6) (N := some 12) (v := ?_) (a' := ?_) #[true, true, false, false, false, true, true, false, false, false, false, false, false, false, false, false, false, false, false, false, false, false, false] rfl rfl (by kernel_rfl) (fun _ _ _ h => h) (Or.inl ⟨by rfl, ?_⟩) ?_ ?_
    rotate_left
    · intro w'
      go_simp
      with_reducible rfl
    rotate_left
    · simp only [Act.put, List.setIfInBounds_toArray, List.set_cons_zero, List.set_cons_succ]
      rfl
    refine pure_ (i := 2) (N := some 8) (v := ?_) (a' := ?_) #[true, true, true, false, false, true, true, false, false, false, false, false, false, false, false, false, false, false, false, false, false, false, false] rfl rfl (by kernel_rfl) (fun _ _ _ h => h) (Or.inl ⟨by rfl, ?_⟩) ?_ ?_
    rotate_left
    · intro w'
      go_simp
      with_reducible rfl
    rotate_left
    · simp only [Act.put, List.setIfInBounds_toArray, List.set_cons_zero, List.set_cons_succ]
      rfl
    refine pure_ (i := 7) (N := some 13) (v := ?_) (a' := ?_) #[true, true, true, false, false, true, true, true, false, false, false, false, false, false, false, false, false, false, false, false, false, false, false] rfl rfl (by kernel_rfl) (fun _ _ _ h => h) (Or.inl ⟨by rfl, ?_⟩) ?_ ?_
    rotate_left
    · intro w'
      go_simp
      with_reducible rfl
    rotate_left
    · simp only [Act.put, List.setIfInBounds_toArray, List.set_cons_zero, List.set_cons_succ]
      rfl
    refine take_ (i := 3) (N := some 9) (v := ?_) (a' := ?_) #[true, true, true, true, false, true, true, true, false, false, false, false, false, false, false, false, false, false, false, false, false, false, false] rfl rfl (by kernel_rfl) (fun _ _ _ h => h) (Or.inl ⟨by rfl, ?_⟩) hHeld ?_ ?_
    rotate_left
    · rintro w' ⟨s0, s1, s2⟩
      go_simp
      with_reducible rfl
    rotate_left
    · simp only [Act.put, List.setIfInBounds_toArray, List.set_cons_zero, List.set_cons_succ]
      rfl
    refine take_ (i := 8) (N := some 14) (v := ?_) (a' := ?_) #[true, true, true, true, false, true, true, true, true, false, false, false, false, false, false, false, false, false, false, false, false, false, false] rfl rfl (by kernel_rfl) (fun _ _ _ h => h) (Or.inl ⟨by rfl, ?_⟩) hHeld ?_ ?_
    rotate_left
    · rintro w' ⟨s0, s1, s2⟩
      go_simp
      with_reducible rfl
    rotate_left
    · simp only [Act.put, List.setIfInBounds_toArray, List.set_cons_zero, List.set_cons_succ]
      rfl
    refine take_ (i := 10) (N := some 16) (v := ?_) (a' := ?_) #[true, true, true, true, false, true, true, true, true, false, true, false, false, false, false, false, false, false, false, false, false, false, false] rfl rfl (by kernel_rfl) (fun _ _ _ h => h) (Or.inl ⟨by rfl, ?_⟩) hHeld ?_ ?_
    rotate_left
    · rintro w' ⟨s0, s1, s2⟩
      go_simp
      with_reducible rfl
    rotate_left
    · simp only [Act.put, List.setIfInBounds_toArray, List.set_cons_zero, List.set_cons_succ]
      rfl
    refine pure_ (i := 9) (N := some 15) (v := ?_) (a' := ?_) #[true, true, true, true, false, true, true, true, true, true, true, false, false, false, false, false, false, false, false, false, false, false, false] rfl rfl (by kernel_rfl) (fun _ _ _ h => h) (Or.inl ⟨by rfl, ?_⟩) ?_ ?_
    rotate_left
    · intro w'
      go_simp
      with_reducible rfl
    rotate_left
    · simp only [Act.put, List.setIfInBounds_toArray, List.set_cons_zero, List.set_cons_succ]
      rfl
    refine pure_ (i := 11) (N := some 17) (v := ?_) (a' := ?_) #[true, true, true, true, false, true, true, true, true, true, true, true, false, false, false, false, false, false, false, false, false, false, false] rfl rfl (by kernel_rfl) (fun _ _ _ h => h) (Or.inl ⟨by rfl, ?_⟩) ?_ ?_
    rotate_left
    · intro w'
      go_simp
      with_reducible rfl
    rotate_left
    · simp only [Act.put, List.setIfInBounds_toArray, List.set_cons_zero, List.set_cons_succ]
      rfl
    refine one_ (i := 4) (N := some 10) #[true, true, true, true, true, true, true, true, true, true, true, true, false, false, false, false, false, false, false, false, false, false, false] rfl rfl (by kernel_rfl) (by decide) (fun K hK => ?_)
    refine goes_ Tryz.func54 (by kernel_rfl) rfl #[.string s] (by rfl) rfl rfl (by (try simp only [List.map_toArray, List.map_cons, List.map_nil]); first | done | rfl) ?_
    refine (escape_calls (HL.out.below hB0) s HS.out).mono ?_
    rintro e w3 ⟨rfl, hb⟩
    refine ⟨_, rfl, ?_⟩
    have hB3 : Below w.heap.size w w3 := below_step hB0 hb
    have HB3 := Lib.hid hB3
    clear hB0 hb hHeld
    refine hK.out _ _ ⟨pw_cell_below hB3 C6.out, pw_cell_below hB3 G1.out, pw_cell_below hB3 G2.out⟩ (fun hHeld => ?_)
    clear hK K
    refine norm_ (a' := ?_) ?_ ?_
    rotate_left
    · show Act.put _ (some 10) _ = _
      simp only [Act.put, List.setIfInBounds_toArray, List.set_cons_zero, List.set_cons_succ]
      rfl
    refine pure_ (i := 12) (N := some 18) (v := ?_) (a' := ?_) #[true, true, true, true, true, true, true, true, true, true, true, true, true, false, false, false, false, false, false, false, false, false, false] rfl rfl (by kernel_rfl) (fun _ _ _ h => h) (Or.inl ⟨by rfl, ?_⟩) ?_ ?_
    rotate_left
    · intro w'
      go_simp
      with_reducible rfl
    rotate_left
    · simp only [Act.put, List.setIfInBounds_toArray, List.set_cons_zero, List.set_cons_succ]
      rfl
    refine pure_ (i := 13) (N := some 19) (v := undef) (a' := ?_) #[true, true, true, true, true, true, true, true, true, true, true, true, true, true, false, false, false, false, false, false, false, false, false] rfl rfl (by kernel_rfl) (fun _ _ _ h => h) (Or.inr ⟨by rfl, rfl⟩) ?_ ?_
    rotate_left
    · simp only [Act.put, List.setIfInBounds_toArray, List.set_cons_zero, List.set_cons_succ]
      rfl
    refine pure_ (i := 14) (N := some 20) (v := undef) (a' := ?_) #[true, true, true, true, true, true, true, true, true, true, true, true, true, true, true, false, false, false, false, false, false, false, false] rfl rfl (by kernel_rfl) (fun _ _ _ h => h) (Or.inr ⟨by rfl, rfl⟩) ?_ ?_
    rotate_left
    · simp only [Act.put, List.setIfInBounds_toArray, List.set_cons_zero, List.set_cons_succ]
      rfl
    refine pure_ (i := 15) (N := some 21) (v := undef) (a' := ?_) #[true, true, true, true, true, true, true, true, true, true, true, true, true, true, true, true, false, false, false, false, false, false, false] rfl rfl (by kernel_rfl) (fun _ _ _ h => h) (Or.inr ⟨by rfl, rfl⟩) ?_ ?_
    rotate_left
    · simp only [Act.put, List.setIfInBounds_toArray, List.set_cons_zero, List.set_cons_succ]
      rfl
    refine pure_ (i := 16) (N := some 22) (v := undef) (a' := ?_) #[true, true, true, true, true, true, true, true, true, true, true, true, true, true, true, true, true, false, false, false, false, false, false] rfl rfl (by kernel_rfl) (fun _ _ _ h => h) (Or.inr ⟨by rfl, rfl⟩) ?_ ?_
    rotate_left
    · simp only [Act.put, List.setIfInBounds_toArray, List.set_cons_zero, List.set_cons_succ]
      rfl
    refine pure_ (i := 17) (N := some 23) (v := undef) (a' := ?_) #[true, true, true, true, true, true, true, true, true, true, true, true, true, true, true, true, true, true, false, false, false, false, false] rfl rfl (by kernel_rfl) (fun _ _ _ h => h) (Or.inr ⟨by rfl, rfl⟩) ?_ ?_
    rotate_left
    · simp only [Act.put, List.setIfInBounds_toArray, List.set_cons_zero, List.set_cons_succ]
      rfl
    refine pure_ (i := 18) (N := some 24) (v := undef) (a' := ?_) #[true, true, true, true, true, true, true, true, true, true, true, true, true, true, true, true, true, true, true, false, false, false, false] rfl rfl (by kernel_rfl) (fun _ _ _ h => h) (Or.inr ⟨by rfl, rfl⟩) ?_ ?_
    rotate_left
    · simp only [Act.put, List.setIfInBounds_toArray, List.set_cons_zero, List.set_cons_succ]
      rfl
    refine pure_ (i := 19) (N := some 25) (v := undef) (a' := ?_) #[true, true, true, true, true, true, true, true, true, true, true, true, true, true, true, true, true, true, true, true, false, false, false] rfl rfl (by kernel_rfl) (fun _ _ _ h => h) (Or.inr ⟨by rfl, rfl⟩) ?_ ?_
    rotate_left
    · simp only [Act.put, List.setIfInBounds_toArray, List.set_cons_zero, List.set_cons_succ]
      rfl
    refine pure_ (i := 20) (N := some 26) (v := ?_) (a' := ?_) #[true, true, true, true, true, true, true, true, true, true, true, true, true, true, true, true, true, true, true, true, true, false, false] rfl rfl (by kernel_rfl) (fun _ _ _ h => h) (Or.inl ⟨by rfl, ?_⟩) ?_ ?_
    rotate_left
    · intro w'
      go_simp
      with_reducible rfl
    rotate_left
    · simp only [Act.put, List.setIfInBounds_toArray, List.set_cons_zero, List.set_cons_succ]
      rfl
    refine pure_ (i := 21) (N := some 4) (v := ?_) (a' := ?_) #[true, true, true, true, true, true, true, true, true, true, true, true, true, true, true, true, true, true, true, true, true, true, false] rfl rfl (by kernel_rfl) (fun _ _ _ h => h) (Or.inl ⟨by rfl, ?_⟩) ?_ ?_
    rotate_left
    · intro w'
      go_simp
      with_reducible rfl
    rotate_left
    · simp only [Act.put, List.setIfInBounds_toArray, List.set_cons_zero, List.set_cons_succ]
      rfl
    refine pure_ (i := 22) (N := some 5) (v := ?_) (a' := ?_) #[true, true, true, true, true, true, true, true, true, true, true, true, true, true, true, true, true, true, true, true, true, true, true] rfl rfl (by kernel_rfl) (fun _ _ _ h => h) (Or.inl ⟨by rfl, ?_⟩) ?_ ?_
    rotate_left
    · intro w'
      go_simp
      with_reducible rfl
    rotate_left
    · simp only [Act.put, List.setIfInBounds_toArray, List.set_cons_zero, List.set_cons_succ]
      rfl
    refine done_ (by kernel_rfl) ?_
    try go_wp2
    all_goals go_returns
    all_goals exact ⟨by first | (rw [hvd, Bool.false_and]; rfl) | simp [hvd], HB3.out⟩
set_option maxHeartbeats 3200000 in
theorem text_get {w : World} {ge b1 b2 : Nat} {ev : Evt} {s : ByteArray} {least most : Int} (hL : LaidW w) (he : EvAt w ge ev) (hs : s.size ≤ 1099511627776) (h1 : w.heap[b1]? = some (.cells #[.int .i64 least] 3 (0, 0))) (h2 : w.heap[b2]? = some (.cells #[.int .i64 most] 3 (0, 0))) (hn1 : b1 ≠ ge) (hn2 : b2 ≠ ge) :
    Calls Tryz.prog 111 #[.pointer (some ⟨ge, 0, none⟩), .string s, .pointer (some ⟨b1, 0, none⟩), .pointer (some ⟨b2, 0, none⟩)] w fun e w' => e = .returned (.bool (((unescR s.data.toList).2 == 0) && (decide (least ≤ ((unescR s.data.toList).1.length : Int)) && decide (((unescR s.data.toList).1.length : Int) ≤ most)))) ∧ EvAt w' ge { ev with text := ofL (unescR s.data.toList).1 } ∧ Bg w w' ge := by
  have HL := Lib.hid hL
  have HS := Lib.hid hs
  have HE := Lib.hid he
  have H1 := Lib.hid h1
  have H2 := Lib.hid h2
  have hn1' : ge ≠ b1 := fun e => hn1 e.symm
  have hn2' : ge ≠ b2 := fun e => hn2 e.symm
  clear hL hs he h1 h2
  obtain ⟨t, er, hr⟩ : ∃ t er, unescR s.data.toList = (t, er) := ⟨_, _, rfl⟩
  obtain ⟨v, HV⟩ : ∃ v, Aside0 (ofL t = v) := ⟨_, ⟨rfl⟩⟩
  have HVS : Aside0 (t.length = v.size) := ⟨by rw [← HV.out, ofL_size]⟩
  rw [hr]
  simp only
  rw [HVS.out, HV.out]
  have HR := Lib.hid hr
  clear hr
  by_cases he : er = 0
  · subst he
    by_cases hv : least ≤ (v.size : Int)
    · have hvd : decide (least ≤ (v.size : Int)) = true := decide_eq_true hv
      go_enter Tryz.func111, Tryz.ntmps111
      go_wp2_with ((go_at_call 60); (with_reducible refine (unescape_calls HL.out s HS.out).mono ?_); rintro e w1 ⟨rfl, hb⟩; rw [HR.out]; simp only [HV.out]; have HB := Lib.hid hb; have g1 : w1.cell? ⟨b1, 0, none⟩ = some (.int .i64 least) := (blk_cell (blk_below H1.out hb) 0).trans rfl; have g2 : w1.cell? ⟨b2, 0, none⟩ = some (.int .i64 most) := (blk_cell (blk_below H2.out hb) 0).trans rfl; obtain ⟨c6, e6⟩ := ev_text (EvAt.below HE.out hb); clear hb)
      all_goals go_returns
      all_goals exact ⟨by simp [hvd], put_text (EvAt.below HE.out HB.out) _, (Bg.of HB.out _).trans (Bg.set _ _ _ _)⟩
    · have hvd : decide (least ≤ (v.size : Int)) = false := decide_eq_false hv
      go_enter Tryz.func111, Tryz.ntmps111
      go_wp2_with ((go_at_call 60); (with_reducible refine (unescape_calls HL.out s HS.out).mono ?_); rintro e w1 ⟨rfl, hb⟩; rw [HR.out]; simp only [HV.out]; have HB := Lib.hid hb; have g1 : w1.cell? ⟨b1, 0, none⟩ = some (.int .i64 least) := (blk_cell (blk_below H1.out hb) 0).trans rfl; have g2 : w1.cell? ⟨b2, 0, none⟩ = some (.int .i64 most) := (blk_cell (blk_below H2.out hb) 0).trans rfl; obtain ⟨c6, e6⟩ := ev_text (EvAt.below HE.out hb); clear hb)
      all_goals go_returns
      all_goals exact ⟨by simp [hvd], put_text (EvAt.below HE.out HB.out) _, (Bg.of HB.out _).trans (Bg.set _ _ _ _)⟩
  · have hee : (er == 0) = false := by simpa using he
    go_enter Tryz.func111, Tryz.ntmps111
    go_wp2_with ((go_at_call 60); (with_reducible refine (unescape_calls HL.out s HS.out).mono ?_); rintro e w1 ⟨rfl, hb⟩; rw [HR.out]; simp only [HV.out]; have HB := Lib.hid hb; have g1 : w1.cell? ⟨b1, 0, none⟩ = some (.int .i64 least) := (blk_cell (blk_below H1.out hb) 0).trans rfl; have g2 : w1.cell? ⟨b2, 0, none⟩ = some (.int .i64 most) := (blk_cell (blk_below H2.out hb) 0).trans rfl; obtain ⟨c6, e6⟩ := ev_text (EvAt.below HE.out hb); clear hb)
    all_goals go_returns
    all_goals exact ⟨by simp [hee], put_text (EvAt.below HE.out HB.out) _, (Bg.of HB.out _).trans (Bg.set _ _ _ _)⟩
theorem plan_quiet (w : World) (s : ByteArray) (hs : s.size ≤ 1099511627776) : Calls Tryz.prog 122 #[.string s] w fun e w' => e = .returned (.bool (planN s.data.toList)) ∧ ∃ n, w' = w.drewN n := by
  obtain ⟨k, hk⟩ := (plan_ev s hs).rounds
  exact (POct.wire_isPlanText.calls k s _ w hk).mono fun e w' h => ⟨h.1, h.2.out⟩
theorem pick_layout (g : Nat) (w : World) : Calls Tryz.prog 73 #[.pointer (some ⟨g, 0, none⟩)] w fun e w' => e = .returned (.pointer (some ⟨g, 11, none⟩)) ∧ w' = w := by
  go_enter Tryz.func73, Tryz.ntmps73
  go_wp2
  all_goals go_returns
  all_goals exact ⟨rfl, rfl⟩
set_option maxHeartbeats 1600000 in
theorem plan_put_layout {w : World} {ge b1 : Nat} {ev : Evt} (he : EvAt w ge ev) (hs : ev.layout.size ≤ 1099511627776) (h1 : w.heap[b1]? = some (.cells #[.func (.func 73) #[] #[]] 104 (0, 0))) :
    Calls Tryz.prog 121 #[.pointer (some ⟨ge, 0, none⟩), .pointer (some ⟨b1, 0, none⟩)] w fun e w' => e = .returned (.tuple #[.string ev.layout, .bool (!ev.layout.toList.isEmpty && planN ev.layout.data.toList)]) ∧ Below w.heap.size w w' := by
  have HS := Lib.hid hs
  obtain ⟨c6, e6⟩ := ev_layout he
  have g1 : w.cell? ⟨b1, 0, none⟩ = some (.func (.func 73) #[] #[]) := (blk_cell h1 0).trans rfl
  clear he h1 hs
  generalize ev.layout = s at c6 HS ⊢
  by_cases hz : s.toList.isEmpty = true
  · go_enter Tryz.func121, Tryz.ntmps121
    go_wp2_with ((go_at_call 73); (with_reducible refine (pick_layout ge _).mono ?_); rintro e w2 ⟨rfl, hw⟩; rw [hw]; clear hw)
    (try go_quiet (fail))
    (try go_wp2)
    all_goals go_returns
    all_goals exact ⟨by simp [hz], by repeat (first | exact Below.refl _ _ | apply pw_below_drewN | apply below_drew1)⟩
  · have hz' : s.toList.isEmpty = false := by simpa using hz
    have HQ := Lib.hid (show ∀ n, Calls Tryz.prog 122 #[.string s] (w.drewN n) (fun e w'' => e = .returned (.bool (planN s.data.toList)) ∧ ∃ m, w'' = w.drewN m) from fun n => Calls.quiet_of (plan_quiet _ s HS.out))
    go_enter Tryz.func121, Tryz.ntmps121
    go_wp2_with (first | ((go_at_call 73); (with_reducible refine (pick_layout ge _).mono ?_); rintro e w2 ⟨rfl, hw⟩; rw [hw]; clear hw) | ((go_at_call 122); (with_reducible refine (plan_quiet _ s HS.out).mono ?_); rintro e w3 ⟨rfl, nd, rfl⟩))
    (try go_quiet (first | ((go_at_call 122); (exact HQ.out _))))
    (try go_wp2)
    all_goals go_returns
    all_goals exact ⟨by simp [hz'], by repeat (first | exact Below.refl _ _ | apply pw_below_drewN | apply below_drew1)⟩
set_option maxHeartbeats 1600000 in
theorem plan_get_layout {w : World} {ge b1 : Nat} {ev : Evt} {s : ByteArray} (he : EvAt w ge ev) (hs : s.size ≤ 1099511627776) (h1 : w.heap[b1]? = some (.cells #[.func (.func 73) #[] #[]] 104 (0, 0))) :
    Calls Tryz.prog 123 #[.pointer (some ⟨ge, 0, none⟩), .string s, .pointer (some ⟨b1, 0, none⟩)] w fun e w' => e = .returned (.bool (!s.toList.isEmpty && planN s.data.toList)) ∧ EvAt w' ge { ev with layout := s } ∧ Bg w w' ge := by
  have HS := Lib.hid hs
  have HE := Lib.hid he
  obtain ⟨c6, e6⟩ := ev_layout he
  have g1 : w.cell? ⟨b1, 0, none⟩ = some (.func (.func 73) #[] #[]) := (blk_cell h1 0).trans rfl
  clear he h1 hs
  have hset := Bg.set w ge 11 (.string s)
  have HSET := Lib.hid hset
  clear hset
  by_cases hz : s.toList.isEmpty = true
  · go_enter Tryz.func123, Tryz.ntmps123
    go_wp2_with ((go_at_call 73); (with_reducible refine (pick_layout ge _).mono ?_); rintro e w2 ⟨rfl, hw⟩; rw [hw]; clear hw)
    all_goals go_returns
    all_goals exact ⟨by simp [hz], by first | exact put_layout HE.out _, HSET.out⟩
  · have hz' : s.toList.isEmpty = false := by simpa using hz
    go_enter Tryz.func123, Tryz.ntmps123
    go_wp2_with (first | ((go_at_call 73); (with_reducible refine (pick_layout ge _).mono ?_); rintro e w2 ⟨rfl, hw⟩; rw [hw]; clear hw) | ((go_at_call 122); (with_reducible refine (plan_quiet _ s HS.out).mono ?_); rintro e w3 ⟨rfl, nd, rfl⟩))
    all_goals go_returns
    all_goals exact ⟨by simp [hz'], by first | exact put_layout HE.out _ | exact (show EvAt (World.drewN _ _) _ _ from put_layout HE.out s), HSET.out.trans (Bg.of (by repeat (first | exact Below.refl _ _ | apply pw_below_drewN | apply below_drew1)) _)⟩
set_option maxHeartbeats 1600000 in
theorem plan_keep_layout {w : World} {gt gf b1 : Nat} {et ef : Evt} (ht : EvAt w gt et) (hf : EvAt w gf ef) (h1 : w.heap[b1]? = some (.cells #[.func (.func 73) #[] #[]] 104 (0, 0))) :
    Calls Tryz.prog 124 #[.pointer (some ⟨gt, 0, none⟩), .pointer (some ⟨gf, 0, none⟩), .pointer (some ⟨b1, 0, none⟩)] w fun e w' => e = .returned (.tuple #[]) ∧ EvAt w' gt { et with layout := ef.layout } ∧ Bg w w' gt := by
  have HT := Lib.hid ht
  have g2 : w.cell? ⟨b1, 0, none⟩ = some (.func (.func 73) #[] #[]) := (blk_cell h1 0).trans rfl
  obtain ⟨c6, e6⟩ := ev_layout ht
  obtain ⟨c7, e7⟩ := ev_layout hf
  clear ht hf h1
  go_enter Tryz.func124, Tryz.ntmps124
  go_wp2
  go_region_with (first | ((go_at_call 73); (with_reducible refine (pick_layout gf _).mono ?_); rintro e w2 ⟨rfl, hw⟩; rw [hw]; clear hw) | ((go_at_call 73); (with_reducible refine (pick_layout gt _).mono ?_); rintro e w2 ⟨rfl, hw⟩; rw [hw]; clear hw))
  all_goals first | go_returns | go_end0
  all_goals exact ⟨rfl, by first | exact put_layout HT.out _ | exact put_layout (e := et) (w := w) HT.out _, by first | exact Bg.set _ _ _ _ | exact ⟨rfl, rfl, rfl, (Bg.set w gt _ _).size, (Bg.set w gt _ _).block⟩⟩
theorem pick_visible (g : Nat) (w : World) : Calls Tryz.prog 74 #[.pointer (some ⟨g, 0, none⟩)] w fun e w' => e = .returned (.pointer (some ⟨g, 12, none⟩)) ∧ w' = w := by
  go_enter Tryz.func74, Tryz.ntmps74
  go_wp2
  all_goals go_returns
  all_goals exact ⟨rfl, rfl⟩
set_option maxHeartbeats 1600000 in
theorem plan_put_visible {w : World} {ge b1 : Nat} {ev : Evt} (he : EvAt w ge ev) (hs : ev.visible.size ≤ 1099511627776) (h1 : w.heap[b1]? = some (.cells #[.func (.func 74) #[] #[]] 104 (0, 0))) :
    Calls Tryz.prog 121 #[.pointer (some ⟨ge, 0, none⟩), .pointer (some ⟨b1, 0, none⟩)] w fun e w' => e = .returned (.tuple #[.string ev.visible, .bool (!ev.visible.toList.isEmpty && planN ev.visible.data.toList)]) ∧ Below w.heap.size w w' := by
  have HS := Lib.hid hs
  obtain ⟨c6, e6⟩ := ev_visible he
  have g1 : w.cell? ⟨b1, 0, none⟩ = some (.func (.func 74) #[] #[]) := (blk_cell h1 0).trans rfl
  clear he h1 hs
  generalize ev.visible = s at c6 HS ⊢
  by_cases hz : s.toList.isEmpty = true
  · go_enter Tryz.func121, Tryz.ntmps121
    go_wp2_with ((go_at_call 74); (with_reducible refine (pick_visible ge _).mono ?_); rintro e w2 ⟨rfl, hw⟩; rw [hw]; clear hw)
    (try go_quiet (fail))
    (try go_wp2)
    all_goals go_returns
    all_goals exact ⟨by simp [hz], by repeat (first | exact Below.refl _ _ | apply pw_below_drewN | apply below_drew1)⟩
  · have hz' : s.toList.isEmpty = false := by simpa using hz
    have HQ := Lib.hid (show ∀ n, Calls Tryz.prog 122 #[.string s] (w.drewN n) (fun e w'' => e = .returned (.bool (planN s.data.toList)) ∧ ∃ m, w'' = w.drewN m) from fun n => Calls.quiet_of (plan_quiet _ s HS.out))
    go_enter Tryz.func121, Tryz.ntmps121
    go_wp2_with (first | ((go_at_call 74); (with_reducible refine (pick_visible ge _).mono ?_); rintro e w2 ⟨rfl, hw⟩; rw [hw]; clear hw) | ((go_at_call 122); (with_reducible refine (plan_quiet _ s HS.out).mono ?_); rintro e w3 ⟨rfl, nd, rfl⟩))
    (try go_quiet (first | ((go_at_call 122); (exact HQ.out _))))
    (try go_wp2)
    all_goals go_returns
    all_goals exact ⟨by simp [hz'], by repeat (first | exact Below.refl _ _ | apply pw_below_drewN | apply below_drew1)⟩
set_option maxHeartbeats 1600000 in
theorem plan_get_visible {w : World} {ge b1 : Nat} {ev : Evt} {s : ByteArray} (he : EvAt w ge ev) (hs : s.size ≤ 1099511627776) (h1 : w.heap[b1]? = some (.cells #[.func (.func 74) #[] #[]] 104 (0, 0))) :
    Calls Tryz.prog 123 #[.pointer (some ⟨ge, 0, none⟩), .string s, .pointer (some ⟨b1, 0, none⟩)] w fun e w' => e = .returned (.bool (!s.toList.isEmpty && planN s.data.toList)) ∧ EvAt w' ge { ev with visible := s } ∧ Bg w w' ge := by
  have HS := Lib.hid hs
  have HE := Lib.hid he
  obtain ⟨c6, e6⟩ := ev_visible he
  have g1 : w.cell? ⟨b1, 0, none⟩ = some (.func (.func 74) #[] #[]) := (blk_cell h1 0).trans rfl
  clear he h1 hs
  have hset := Bg.set w ge 12 (.string s)
  have HSET := Lib.hid hset
  clear hset
  by_cases hz : s.toList.isEmpty = true
  · go_enter Tryz.func123, Tryz.ntmps123
    go_wp2_with ((go_at_call 74); (with_reducible refine (pick_visible ge _).mono ?_); rintro e w2 ⟨rfl, hw⟩; rw [hw]; clear hw)
    all_goals go_returns
    all_goals exact ⟨by simp [hz], by first | exact put_visible HE.out _, HSET.out⟩
  · have hz' : s.toList.isEmpty = false := by simpa using hz
    go_enter Tryz.func123, Tryz.ntmps123
    go_wp2_with (first | ((go_at_call 74); (with_reducible refine (pick_visible ge _).mono ?_); rintro e w2 ⟨rfl, hw⟩; rw [hw]; clear hw) | ((go_at_call 122); (with_reducible refine (plan_quiet _ s HS.out).mono ?_); rintro e w3 ⟨rfl, nd, rfl⟩))
    all_goals go_returns
    all_goals exact ⟨by simp [hz'], by first | exact put_visible HE.out _ | exact (show EvAt (World.drewN _ _) _ _ from put_visible HE.out s), HSET.out.trans (Bg.of (by repeat (first | exact Below.refl _ _ | apply pw_below_drewN | apply below_drew1)) _)⟩
set_option maxHeartbeats 1600000 in
theorem plan_keep_visible {w : World} {gt gf b1 : Nat} {et ef : Evt} (ht : EvAt w gt et) (hf : EvAt w gf ef) (h1 : w.heap[b1]? = some (.cells #[.func (.func 74) #[] #[]] 104 (0, 0))) :
    Calls Tryz.prog 124 #[.pointer (some ⟨gt, 0, none⟩), .pointer (some ⟨gf, 0, none⟩), .pointer (some ⟨b1, 0, none⟩)] w fun e w' => e = .returned (.tuple #[]) ∧ EvAt w' gt { et with visible := ef.visible } ∧ Bg w w' gt := by
  have HT := Lib.hid ht
  have g2 : w.cell? ⟨b1, 0, none⟩ = some (.func (.func 74) #[] #[]) := (blk_cell h1 0).trans rfl
  obtain ⟨c6, e6⟩ := ev_visible ht
  obtain ⟨c7, e7⟩ := ev_visible hf
  clear ht hf h1
  go_enter Tryz.func124, Tryz.ntmps124
  go_wp2
  go_region_with (first | ((go_at_call 74); (with_reducible refine (pick_visible gf _).mono ?_); rintro e w2 ⟨rfl, hw⟩; rw [hw]; clear hw) | ((go_at_call 74); (with_reducible refine (pick_visible gt _).mono ?_); rintro e w2 ⟨rfl, hw⟩; rw [hw]; clear hw))
  all_goals first | go_returns | go_end0
  all_goals exact ⟨rfl, by first | exact put_visible HT.out _ | exact put_visible (e := et) (w := w) HT.out _, by first | exact Bg.set _ _ _ _ | exact ⟨rfl, rfl, rfl, (Bg.set w gt _ _).size, (Bg.set w gt _ _).block⟩⟩
end Go.Proofs.YtnblabfkkcohgaaGreatDoor.Wire
end
section
/- The closures of an id field, walked: put, get, keep, begins. -/
namespace Go.Proofs.YtnblabfkkcohgaaGreatDoor.Wire
set_option linter.unusedVariables false
set_option linter.unusedSimpArgs false
open Go Go.Shelf Go.RowKit Go.Proofs.YtnblabfkkcohgaaGreatDoor.Given Go.Proofs.YtnblabfkkcohgaaGreatDoorW.PrintWords Go.Proofs.YtnblabfkkcohgaaGreatDoorW.PrintLast

/-! ### id, pane -/
set_option maxHeartbeats 1600000 in
theorem idget_pane {w : World} {ge b2 b3 : Nat} {s : ByteArray} {mark : UInt8} {ev : Evt} (hL : LaidW w) (hs : s.size ≤ 1099511627776)
    (he : EvAt w ge ev) (h2 : w.heap[b2]? = some (.cells #[.int .u8 mark.toNat] 5 (0, 0))) (h3 : w.heap[b3]? = some (.cells #[.func (.func 67) #[] #[]] 98 (0, 0))) (hn3 : b3 ≠ ge) :
    Calls Tryz.prog 104 #[.pointer (some ⟨ge, 0, none⟩), .string s, .pointer (some ⟨b2, 0, none⟩), .pointer (some ⟨b3, 0, none⟩)] w fun e w' => e = .returned (.bool (idR mark s.data.toList).2) ∧ EvAt w' ge { ev with pane := (idR mark s.data.toList).1 } ∧ Bg w w' ge := by
  have HL := Lib.hid hL
  have HS := Lib.hid hs
  have H3 := Lib.hid h3
  have HE := Lib.hid he
  have g2 : w.cell? ⟨b2, 0, none⟩ = some (.int .u8 mark.toNat) := (blk_cell h2 0).trans rfl
  clear hL hs h2 h3 he
  go_enter Tryz.func104, Tryz.ntmps104
  go_wp2_with (first | ((go_at_call 105); (with_reducible refine (id_calls HL.out mark s HS.out).mono ?_); rintro e w1 ⟨rfl, hb⟩; have HB := Lib.hid hb; have g3 : w1.cell? ⟨b3, 0, none⟩ = some (.func (.func 67) #[] #[]) := (blk_cell (blk_below H3.out hb) 0).trans rfl; obtain ⟨c6, e6⟩ := ev_pane (EvAt.below HE.out hb); clear hb) | ((go_at_call 67); (with_reducible refine (pick_pane ge _).mono ?_); rintro e w2 ⟨rfl, hw⟩; rw [hw]; clear hw))
  all_goals go_returns
  all_goals exact ⟨by first | rfl | simp [*], put_pane (EvAt.below HE.out HB.out) _, (Bg.of HB.out _).trans (Bg.set _ _ _ _)⟩
set_option maxHeartbeats 1600000 in
theorem idput_pane {w : World} {ge b2 b3 : Nat} {mark : UInt8} {ev : Evt} (hL : LaidW w) (he : EvAt w ge ev) (h2 : w.heap[b2]? = some (.cells #[.int .u8 mark.toNat] 5 (0, 0))) (h3 : w.heap[b3]? = some (.cells #[.func (.func 67) #[] #[]] 98 (0, 0))) :
    Calls Tryz.prog 106 #[.pointer (some ⟨ge, 0, none⟩), .pointer (some ⟨b2, 0, none⟩), .pointer (some ⟨b3, 0, none⟩)] w fun e w' => e = .returned (.tuple #[.string (ofL (putIdN mark ev.pane)), .bool (!(ofL (putIdN mark ev.pane)).toList.isEmpty)]) ∧ Below w.heap.size w w' := by
  have HL := Lib.hid hL
  have g2 : w.cell? ⟨b2, 0, none⟩ = some (.int .u8 mark.toNat) := (blk_cell h2 0).trans rfl
  have g3 : w.cell? ⟨b3, 0, none⟩ = some (.func (.func 67) #[] #[]) := (blk_cell h3 0).trans rfl
  obtain ⟨c6, e6⟩ := ev_pane he
  clear hL h2 h3 he
  generalize ev.pane = v at c6
  go_enter Tryz.func106, Tryz.ntmps106
  go_wp2
  go_region_with (first | ((go_at_call 67); (with_reducible refine (pick_pane ge _).mono ?_); rintro e w2 ⟨rfl, hw⟩; rw [hw]; clear hw) | ((go_at_call 107); (with_reducible refine (putId_calls (HL.out.below (by repeat (first | exact Below.refl _ _ | apply pw_below_drewN | apply below_drew1))) mark _).mono ?_); rintro e w3 ⟨rfl, hb⟩; have HB3 : Below w.heap.size w w3 := below_step (by repeat (first | exact Below.refl _ _ | apply pw_below_drewN | apply below_drew1)) hb; clear hb))
  all_goals go_wp2
  all_goals go_returns
  all_goals exact ⟨by first | rfl | simp, by repeat (first | assumption | apply pw_below_drewN | apply below_drew1)⟩
set_option maxHeartbeats 1600000 in
theorem idkeep_pane {w : World} {gt gf b3 : Nat} {et ef : Evt} (ht : EvAt w gt et) (hf : EvAt w gf ef) (h3 : w.heap[b3]? = some (.cells #[.func (.func 67) #[] #[]] 98 (0, 0))) :
    Calls Tryz.prog 108 #[.pointer (some ⟨gt, 0, none⟩), .pointer (some ⟨gf, 0, none⟩), .pointer (some ⟨b3, 0, none⟩)] w fun e w' => e = .returned (.tuple #[]) ∧ EvAt w' gt { et with pane := ef.pane } ∧ Bg w w' gt := by
  have HT := Lib.hid ht
  have HF := Lib.hid hf
  have g2 : w.cell? ⟨b3, 0, none⟩ = some (.func (.func 67) #[] #[]) := (blk_cell h3 0).trans rfl
  obtain ⟨c6, e6⟩ := ev_pane ht
  obtain ⟨c7, e7⟩ := ev_pane hf
  clear ht hf h3
  go_enter Tryz.func108, Tryz.ntmps108
  go_wp2
  go_region_with (first | ((go_at_call 67); (with_reducible refine (pick_pane gf _).mono ?_); rintro e w2 ⟨rfl, hw⟩; rw [hw]; clear hw) | ((go_at_call 67); (with_reducible refine (pick_pane gt _).mono ?_); rintro e w2 ⟨rfl, hw⟩; rw [hw]; clear hw))
  all_goals first | go_returns | go_end0
  all_goals exact ⟨rfl, by first | exact put_pane HT.out _ | exact put_pane (e := et) (w := w) HT.out _, by first | exact Bg.set _ _ _ _ | exact ⟨rfl, rfl, rfl, (Bg.set w gt _ _).size, (Bg.set w gt _ _).block⟩⟩
/-! ### id, window -/
set_option maxHeartbeats 1600000 in
theorem idget_window {w : World} {ge b2 b3 : Nat} {s : ByteArray} {mark : UInt8} {ev : Evt} (hL : LaidW w) (hs : s.size ≤ 1099511627776)
    (he : EvAt w ge ev) (h2 : w.heap[b2]? = some (.cells #[.int .u8 mark.toNat] 5 (0, 0))) (h3 : w.heap[b3]? = some (.cells #[.func (.func 70) #[] #[]] 98 (0, 0))) (hn3 : b3 ≠ ge) :
    Calls Tryz.prog 104 #[.pointer (some ⟨ge, 0, none⟩), .string s, .pointer (some ⟨b2, 0, none⟩), .pointer (some ⟨b3, 0, none⟩)] w fun e w' => e = .returned (.bool (idR mark s.data.toList).2) ∧ EvAt w' ge { ev with window := (idR mark s.data.toList).1 } ∧ Bg w w' ge := by
  have HL := Lib.hid hL
  have HS := Lib.hid hs
  have H3 := Lib.hid h3
  have HE := Lib.hid he
  have g2 : w.cell? ⟨b2, 0, none⟩ = some (.int .u8 mark.toNat) := (blk_cell h2 0).trans rfl
  clear hL hs h2 h3 he
  go_enter Tryz.func104, Tryz.ntmps104
  go_wp2_with (first | ((go_at_call 105); (with_reducible refine (id_calls HL.out mark s HS.out).mono ?_); rintro e w1 ⟨rfl, hb⟩; have HB := Lib.hid hb; have g3 : w1.cell? ⟨b3, 0, none⟩ = some (.func (.func 70) #[] #[]) := (blk_cell (blk_below H3.out hb) 0).trans rfl; obtain ⟨c6, e6⟩ := ev_window (EvAt.below HE.out hb); clear hb) | ((go_at_call 70); (with_reducible refine (pick_window ge _).mono ?_); rintro e w2 ⟨rfl, hw⟩; rw [hw]; clear hw))
  all_goals go_returns
  all_goals exact ⟨by first | rfl | simp [*], put_window (EvAt.below HE.out HB.out) _, (Bg.of HB.out _).trans (Bg.set _ _ _ _)⟩
set_option maxHeartbeats 1600000 in
theorem idput_window {w : World} {ge b2 b3 : Nat} {mark : UInt8} {ev : Evt} (hL : LaidW w) (he : EvAt w ge ev) (h2 : w.heap[b2]? = some (.cells #[.int .u8 mark.toNat] 5 (0, 0))) (h3 : w.heap[b3]? = some (.cells #[.func (.func 70) #[] #[]] 98 (0, 0))) :
    Calls Tryz.prog 106 #[.pointer (some ⟨ge, 0, none⟩), .pointer (some ⟨b2, 0, none⟩), .pointer (some ⟨b3, 0, none⟩)] w fun e w' => e = .returned (.tuple #[.string (ofL (putIdN mark ev.window)), .bool (!(ofL (putIdN mark ev.window)).toList.isEmpty)]) ∧ Below w.heap.size w w' := by
  have HL := Lib.hid hL
  have g2 : w.cell? ⟨b2, 0, none⟩ = some (.int .u8 mark.toNat) := (blk_cell h2 0).trans rfl
  have g3 : w.cell? ⟨b3, 0, none⟩ = some (.func (.func 70) #[] #[]) := (blk_cell h3 0).trans rfl
  obtain ⟨c6, e6⟩ := ev_window he
  clear hL h2 h3 he
  generalize ev.window = v at c6
  go_enter Tryz.func106, Tryz.ntmps106
  go_wp2
  go_region_with (first | ((go_at_call 70); (with_reducible refine (pick_window ge _).mono ?_); rintro e w2 ⟨rfl, hw⟩; rw [hw]; clear hw) | ((go_at_call 107); (with_reducible refine (putId_calls (HL.out.below (by repeat (first | exact Below.refl _ _ | apply pw_below_drewN | apply below_drew1))) mark _).mono ?_); rintro e w3 ⟨rfl, hb⟩; have HB3 : Below w.heap.size w w3 := below_step (by repeat (first | exact Below.refl _ _ | apply pw_below_drewN | apply below_drew1)) hb; clear hb))
  all_goals go_wp2
  all_goals go_returns
  all_goals exact ⟨by first | rfl | simp, by repeat (first | assumption | apply pw_below_drewN | apply below_drew1)⟩
set_option maxHeartbeats 1600000 in
theorem idkeep_window {w : World} {gt gf b3 : Nat} {et ef : Evt} (ht : EvAt w gt et) (hf : EvAt w gf ef) (h3 : w.heap[b3]? = some (.cells #[.func (.func 70) #[] #[]] 98 (0, 0))) :
    Calls Tryz.prog 108 #[.pointer (some ⟨gt, 0, none⟩), .pointer (some ⟨gf, 0, none⟩), .pointer (some ⟨b3, 0, none⟩)] w fun e w' => e = .returned (.tuple #[]) ∧ EvAt w' gt { et with window := ef.window } ∧ Bg w w' gt := by
  have HT := Lib.hid ht
  have HF := Lib.hid hf
  have g2 : w.cell? ⟨b3, 0, none⟩ = some (.func (.func 70) #[] #[]) := (blk_cell h3 0).trans rfl
  obtain ⟨c6, e6⟩ := ev_window ht
  obtain ⟨c7, e7⟩ := ev_window hf
  clear ht hf h3
  go_enter Tryz.func108, Tryz.ntmps108
  go_wp2
  go_region_with (first | ((go_at_call 70); (with_reducible refine (pick_window gf _).mono ?_); rintro e w2 ⟨rfl, hw⟩; rw [hw]; clear hw) | ((go_at_call 70); (with_reducible refine (pick_window gt _).mono ?_); rintro e w2 ⟨rfl, hw⟩; rw [hw]; clear hw))
  all_goals first | go_returns | go_end0
  all_goals exact ⟨rfl, by first | exact put_window HT.out _ | exact put_window (e := et) (w := w) HT.out _, by first | exact Bg.set _ _ _ _ | exact ⟨rfl, rfl, rfl, (Bg.set w gt _ _).size, (Bg.set w gt _ _).block⟩⟩
/-! ### id, session -/
set_option maxHeartbeats 1600000 in
theorem idget_session {w : World} {ge b2 b3 : Nat} {s : ByteArray} {mark : UInt8} {ev : Evt} (hL : LaidW w) (hs : s.size ≤ 1099511627776)
    (he : EvAt w ge ev) (h2 : w.heap[b2]? = some (.cells #[.int .u8 mark.toNat] 5 (0, 0))) (h3 : w.heap[b3]? = some (.cells #[.func (.func 76) #[] #[]] 98 (0, 0))) (hn3 : b3 ≠ ge) :
    Calls Tryz.prog 104 #[.pointer (some ⟨ge, 0, none⟩), .string s, .pointer (some ⟨b2, 0, none⟩), .pointer (some ⟨b3, 0, none⟩)] w fun e w' => e = .returned (.bool (idR mark s.data.toList).2) ∧ EvAt w' ge { ev with session := (idR mark s.data.toList).1 } ∧ Bg w w' ge := by
  have HL := Lib.hid hL
  have HS := Lib.hid hs
  have H3 := Lib.hid h3
  have HE := Lib.hid he
  have g2 : w.cell? ⟨b2, 0, none⟩ = some (.int .u8 mark.toNat) := (blk_cell h2 0).trans rfl
  clear hL hs h2 h3 he
  go_enter Tryz.func104, Tryz.ntmps104
  go_wp2_with (first | ((go_at_call 105); (with_reducible refine (id_calls HL.out mark s HS.out).mono ?_); rintro e w1 ⟨rfl, hb⟩; have HB := Lib.hid hb; have g3 : w1.cell? ⟨b3, 0, none⟩ = some (.func (.func 76) #[] #[]) := (blk_cell (blk_below H3.out hb) 0).trans rfl; obtain ⟨c6, e6⟩ := ev_session (EvAt.below HE.out hb); clear hb) | ((go_at_call 76); (with_reducible refine (pick_session ge _).mono ?_); rintro e w2 ⟨rfl, hw⟩; rw [hw]; clear hw))
  all_goals go_returns
  all_goals exact ⟨by first | rfl | simp [*], put_session (EvAt.below HE.out HB.out) _, (Bg.of HB.out _).trans (Bg.set _ _ _ _)⟩
set_option maxHeartbeats 1600000 in
theorem idput_session {w : World} {ge b2 b3 : Nat} {mark : UInt8} {ev : Evt} (hL : LaidW w) (he : EvAt w ge ev) (h2 : w.heap[b2]? = some (.cells #[.int .u8 mark.toNat] 5 (0, 0))) (h3 : w.heap[b3]? = some (.cells #[.func (.func 76) #[] #[]] 98 (0, 0))) :
    Calls Tryz.prog 106 #[.pointer (some ⟨ge, 0, none⟩), .pointer (some ⟨b2, 0, none⟩), .pointer (some ⟨b3, 0, none⟩)] w fun e w' => e = .returned (.tuple #[.string (ofL (putIdN mark ev.session)), .bool (!(ofL (putIdN mark ev.session)).toList.isEmpty)]) ∧ Below w.heap.size w w' := by
  have HL := Lib.hid hL
  have g2 : w.cell? ⟨b2, 0, none⟩ = some (.int .u8 mark.toNat) := (blk_cell h2 0).trans rfl
  have g3 : w.cell? ⟨b3, 0, none⟩ = some (.func (.func 76) #[] #[]) := (blk_cell h3 0).trans rfl
  obtain ⟨c6, e6⟩ := ev_session he
  clear hL h2 h3 he
  generalize ev.session = v at c6
  go_enter Tryz.func106, Tryz.ntmps106
  go_wp2
  go_region_with (first | ((go_at_call 76); (with_reducible refine (pick_session ge _).mono ?_); rintro e w2 ⟨rfl, hw⟩; rw [hw]; clear hw) | ((go_at_call 107); (with_reducible refine (putId_calls (HL.out.below (by repeat (first | exact Below.refl _ _ | apply pw_below_drewN | apply below_drew1))) mark _).mono ?_); rintro e w3 ⟨rfl, hb⟩; have HB3 : Below w.heap.size w w3 := below_step (by repeat (first | exact Below.refl _ _ | apply pw_below_drewN | apply below_drew1)) hb; clear hb))
  all_goals go_wp2
  all_goals go_returns
  all_goals exact ⟨by first | rfl | simp, by repeat (first | assumption | apply pw_below_drewN | apply below_drew1)⟩
set_option maxHeartbeats 1600000 in
theorem idkeep_session {w : World} {gt gf b3 : Nat} {et ef : Evt} (ht : EvAt w gt et) (hf : EvAt w gf ef) (h3 : w.heap[b3]? = some (.cells #[.func (.func 76) #[] #[]] 98 (0, 0))) :
    Calls Tryz.prog 108 #[.pointer (some ⟨gt, 0, none⟩), .pointer (some ⟨gf, 0, none⟩), .pointer (some ⟨b3, 0, none⟩)] w fun e w' => e = .returned (.tuple #[]) ∧ EvAt w' gt { et with session := ef.session } ∧ Bg w w' gt := by
  have HT := Lib.hid ht
  have HF := Lib.hid hf
  have g2 : w.cell? ⟨b3, 0, none⟩ = some (.func (.func 76) #[] #[]) := (blk_cell h3 0).trans rfl
  obtain ⟨c6, e6⟩ := ev_session ht
  obtain ⟨c7, e7⟩ := ev_session hf
  clear ht hf h3
  go_enter Tryz.func108, Tryz.ntmps108
  go_wp2
  go_region_with (first | ((go_at_call 76); (with_reducible refine (pick_session gf _).mono ?_); rintro e w2 ⟨rfl, hw⟩; rw [hw]; clear hw) | ((go_at_call 76); (with_reducible refine (pick_session gt _).mono ?_); rintro e w2 ⟨rfl, hw⟩; rw [hw]; clear hw))
  all_goals first | go_returns | go_end0
  all_goals exact ⟨rfl, by first | exact put_session HT.out _ | exact put_session (e := et) (w := w) HT.out _, by first | exact Bg.set _ _ _ _ | exact ⟨rfl, rfl, rfl, (Bg.set w gt _ _).size, (Bg.set w gt _ _).block⟩⟩
end Go.Proofs.YtnblabfkkcohgaaGreatDoor.Wire
end
section
/- The closures of a number field, walked: put, get, keep, begins. -/
namespace Go.Proofs.YtnblabfkkcohgaaGreatDoor.Wire
set_option linter.unusedVariables false
set_option linter.unusedSimpArgs false
open Go Go.Shelf Go.RowKit Go.Proofs.YtnblabfkkcohgaaGreatDoor.Given Go.Proofs.YtnblabfkkcohgaaGreatDoorW.PrintWords Go.Proofs.YtnblabfkkcohgaaGreatDoorW.PrintLast

theorem putNumber_neg (n : Int) (h0 : n < 0) (w : World) : Calls Tryz.prog 101 #[.int .i64 n] w fun e w' => e = .returned (.string (ofL (putNumN n))) ∧ w' = w := by
  have HE : Aside0 (putNumN n = []) := ⟨by unfold putNumN; rw [if_neg (by omega)]⟩
  go_enter Tryz.func101, Tryz.ntmps101
  go_wp2
  all_goals go_returns
  all_goals exact ⟨by rw [HE.out]; rfl, rfl⟩
/-! ### number, tick -/
set_option maxHeartbeats 1600000 in
theorem numget_tick {w : World} {ge b2 b3 : Nat} {s : ByteArray} {most : Int} {ev : Evt} (hL : LaidW w) (hs : s.size ≤ 1099511627776)
    (he : EvAt w ge ev) (h2 : w.heap[b2]? = some (.cells #[.func (.func 63) #[] #[]] 98 (0, 0))) (h3 : w.heap[b3]? = some (.cells #[.int .i64 most] 3 (0, 0))) (hn3 : b3 ≠ ge) :
    Calls Tryz.prog 98 #[.pointer (some ⟨ge, 0, none⟩), .string s, .pointer (some ⟨b2, 0, none⟩), .pointer (some ⟨b3, 0, none⟩)] w fun e w' => e = .returned (.bool ((numR s.data.toList).2 && decide ((numR s.data.toList).1 ≤ most))) ∧ EvAt w' ge { ev with tick := (numR s.data.toList).1 } ∧ Bg w w' ge := by
  have HL := Lib.hid hL
  have HS := Lib.hid hs
  have H2 := Lib.hid h2
  have H3 := Lib.hid h3
  have HE := Lib.hid he
  have hn3' : ge ≠ b3 := fun e => hn3 e.symm
  clear hL hs h2 h3 he
  go_enter Tryz.func98, Tryz.ntmps98
  go_wp2_with (first | ((go_at_call 99); (with_reducible refine (number_calls HL.out s HS.out).mono ?_); rintro e w1 ⟨rfl, hb⟩; have HB := Lib.hid hb; have g2 : w1.cell? ⟨b2, 0, none⟩ = some (.func (.func 63) #[] #[]) := (blk_cell (blk_below H2.out hb) 0).trans rfl; have g3 : w1.cell? ⟨b3, 0, none⟩ = some (.int .i64 most) := (blk_cell (blk_below H3.out hb) 0).trans rfl; obtain ⟨c6, e6⟩ := ev_tick (EvAt.below HE.out hb); clear hb) | ((go_at_call 63); (with_reducible refine (pick_tick ge _).mono ?_); rintro e w2 ⟨rfl, hw⟩; rw [hw]; clear hw))
  all_goals go_returns
  all_goals exact ⟨by simp [*], put_tick (EvAt.below HE.out HB.out) _, (Bg.of HB.out _).trans (Bg.set _ _ _ _)⟩
set_option maxHeartbeats 1600000 in
theorem numput_tick {w : World} {ge b2 b3 : Nat} {most : Int} {ev : Evt} (hL : LaidW w)
    (he : EvAt w ge ev) (h2 : w.heap[b2]? = some (.cells #[.func (.func 63) #[] #[]] 98 (0, 0))) (h3 : w.heap[b3]? = some (.cells #[.int .i64 most] 3 (0, 0))) :
    Calls Tryz.prog 100 #[.pointer (some ⟨ge, 0, none⟩), .pointer (some ⟨b2, 0, none⟩), .pointer (some ⟨b3, 0, none⟩)] w fun e w' => e = .returned (.tuple #[.string (ofL (putNumN ev.tick)), .bool (decide (0 ≤ ev.tick) && decide (ev.tick ≤ most))]) ∧ Below w.heap.size w w' := by
  have HL := Lib.hid hL
  have H2 := Lib.hid h2
  have H3 := Lib.hid h3
  have HE := Lib.hid he
  have g2 : w.cell? ⟨b2, 0, none⟩ = some (.func (.func 63) #[] #[]) := (blk_cell h2 0).trans rfl
  have g3 : w.cell? ⟨b3, 0, none⟩ = some (.int .i64 most) := (blk_cell h3 0).trans rfl
  obtain ⟨c6, e6⟩ := ev_tick he
  clear hL h2 h3 he
  generalize ev.tick = v at c6
  go_enter Tryz.func100, Tryz.ntmps100
  by_cases hv : 0 ≤ v
  · have hvd : decide (0 ≤ v) = true := decide_eq_true hv
    go_wp2_with ((go_at_call 63); (with_reducible refine (pick_tick ge _).mono ?_); rintro e w2 ⟨rfl, hw⟩; rw [hw]; clear hw)
    go_region_with ((go_at_call 101); (with_reducible refine (putNumber_calls (HL.out.below (by repeat (first | exact Below.refl _ _ | apply pw_below_drewN | apply below_drew1))) _).mono ?_); rintro e w3 ⟨rfl, hb⟩; have HB3 : Below w.heap.size w w3 := below_step (by repeat (first | exact Below.refl _ _ | apply pw_below_drewN | apply below_drew1)) hb; have q3 : w3.cell? ⟨b3, 0, none⟩ = some (.int .i64 most) := (blk_cell (blk_below (w := w.drew) H3.out hb) 0).trans rfl; clear hb)
    all_goals go_wp2
    all_goals go_returns
    all_goals exact ⟨by first | (rw [hvd, Bool.true_and]; rfl) | simp [hvd], by repeat (first | assumption | apply pw_below_drewN | apply below_drew1)⟩
  · have hvd : decide (0 ≤ v) = false := decide_eq_false hv
    have HQ := Lib.hid (show ∀ n, Calls Tryz.prog 101 #[.int .i64 v] (w.drewN n) (fun e w'' => e = .returned (.string (ofL (putNumN v))) ∧ ∃ m, w'' = w.drewN m) from fun n => Calls.quiet_of_same ((putNumber_neg v (by omega) _).mono fun e w' h => h))
    go_wp2_with ((go_at_call 63); (with_reducible refine (pick_tick ge _).mono ?_); rintro e w2 ⟨rfl, hw⟩; rw [hw]; clear hw)
    go_quiet (first | ((go_at_call 101); (exact HQ.out _)))
    go_wp2
    all_goals go_returns
    all_goals exact ⟨by simp [hvd], by repeat (first | exact Below.refl _ _ | apply pw_below_drewN | apply below_drew1)⟩
set_option maxHeartbeats 1600000 in
theorem numkeep_tick {w : World} {gt gf b2 : Nat} {et ef : Evt}
    (ht : EvAt w gt et) (hf : EvAt w gf ef) (h2 : w.heap[b2]? = some (.cells #[.func (.func 63) #[] #[]] 98 (0, 0))) :
    Calls Tryz.prog 102 #[.pointer (some ⟨gt, 0, none⟩), .pointer (some ⟨gf, 0, none⟩), .pointer (some ⟨b2, 0, none⟩)] w fun e w' => e = .returned (.tuple #[]) ∧ EvAt w' gt { et with tick := ef.tick } ∧ Bg w w' gt := by
  have HT := Lib.hid ht
  have HF := Lib.hid hf
  have g2 : w.cell? ⟨b2, 0, none⟩ = some (.func (.func 63) #[] #[]) := (blk_cell h2 0).trans rfl
  obtain ⟨c6, e6⟩ := ev_tick ht
  obtain ⟨c7, e7⟩ := ev_tick hf
  clear ht hf h2
  go_enter Tryz.func102, Tryz.ntmps102
  go_wp2
  go_region_with (first | ((go_at_call 63); (with_reducible refine (pick_tick gf _).mono ?_); rintro e w2 ⟨rfl, hw⟩; rw [hw]; clear hw) | ((go_at_call 63); (with_reducible refine (pick_tick gt _).mono ?_); rintro e w2 ⟨rfl, hw⟩; rw [hw]; clear hw))
  all_goals first | go_returns | go_end0
  all_goals exact ⟨rfl, by first | exact put_tick HT.out _ | exact put_tick (e := et) (w := w) HT.out _, by first | exact Bg.set _ _ _ _ | exact ⟨rfl, rfl, rfl, (Bg.set w gt _ _).size, (Bg.set w gt _ _).block⟩⟩
/-! ### number, number -/
set_option maxHeartbeats 1600000 in
theorem numget_number {w : World} {ge b2 b3 : Nat} {s : ByteArray} {most : Int} {ev : Evt} (hL : LaidW w) (hs : s.size ≤ 1099511627776)
    (he : EvAt w ge ev) (h2 : w.heap[b2]? = some (.cells #[.func (.func 64) #[] #[]] 98 (0, 0))) (h3 : w.heap[b3]? = some (.cells #[.int .i64 most] 3 (0, 0))) (hn3 : b3 ≠ ge) :
    Calls Tryz.prog 98 #[.pointer (some ⟨ge, 0, none⟩), .string s, .pointer (some ⟨b2, 0, none⟩), .pointer (some ⟨b3, 0, none⟩)] w fun e w' => e = .returned (.bool ((numR s.data.toList).2 && decide ((numR s.data.toList).1 ≤ most))) ∧ EvAt w' ge { ev with number := (numR s.data.toList).1 } ∧ Bg w w' ge := by
  have HL := Lib.hid hL
  have HS := Lib.hid hs
  have H2 := Lib.hid h2
  have H3 := Lib.hid h3
  have HE := Lib.hid he
  have hn3' : ge ≠ b3 := fun e => hn3 e.symm
  clear hL hs h2 h3 he
  go_enter Tryz.func98, Tryz.ntmps98
  go_wp2_with (first | ((go_at_call 99); (with_reducible refine (number_calls HL.out s HS.out).mono ?_); rintro e w1 ⟨rfl, hb⟩; have HB := Lib.hid hb; have g2 : w1.cell? ⟨b2, 0, none⟩ = some (.func (.func 64) #[] #[]) := (blk_cell (blk_below H2.out hb) 0).trans rfl; have g3 : w1.cell? ⟨b3, 0, none⟩ = some (.int .i64 most) := (blk_cell (blk_below H3.out hb) 0).trans rfl; obtain ⟨c6, e6⟩ := ev_number (EvAt.below HE.out hb); clear hb) | ((go_at_call 64); (with_reducible refine (pick_number ge _).mono ?_); rintro e w2 ⟨rfl, hw⟩; rw [hw]; clear hw))
  all_goals go_returns
  all_goals exact ⟨by simp [*], put_number (EvAt.below HE.out HB.out) _, (Bg.of HB.out _).trans (Bg.set _ _ _ _)⟩
set_option maxHeartbeats 1600000 in
theorem numput_number {w : World} {ge b2 b3 : Nat} {most : Int} {ev : Evt} (hL : LaidW w)
    (he : EvAt w ge ev) (h2 : w.heap[b2]? = some (.cells #[.func (.func 64) #[] #[]] 98 (0, 0))) (h3 : w.heap[b3]? = some (.cells #[.int .i64 most] 3 (0, 0))) :
    Calls Tryz.prog 100 #[.pointer (some ⟨ge, 0, none⟩), .pointer (some ⟨b2, 0, none⟩), .pointer (some ⟨b3, 0, none⟩)] w fun e w' => e = .returned (.tuple #[.string (ofL (putNumN ev.number)), .bool (decide (0 ≤ ev.number) && decide (ev.number ≤ most))]) ∧ Below w.heap.size w w' := by
  have HL := Lib.hid hL
  have H2 := Lib.hid h2
  have H3 := Lib.hid h3
  have HE := Lib.hid he
  have g2 : w.cell? ⟨b2, 0, none⟩ = some (.func (.func 64) #[] #[]) := (blk_cell h2 0).trans rfl
  have g3 : w.cell? ⟨b3, 0, none⟩ = some (.int .i64 most) := (blk_cell h3 0).trans rfl
  obtain ⟨c6, e6⟩ := ev_number he
  clear hL h2 h3 he
  generalize ev.number = v at c6
  go_enter Tryz.func100, Tryz.ntmps100
  by_cases hv : 0 ≤ v
  · have hvd : decide (0 ≤ v) = true := decide_eq_true hv
    go_wp2_with ((go_at_call 64); (with_reducible refine (pick_number ge _).mono ?_); rintro e w2 ⟨rfl, hw⟩; rw [hw]; clear hw)
    go_region_with ((go_at_call 101); (with_reducible refine (putNumber_calls (HL.out.below (by repeat (first | exact Below.refl _ _ | apply pw_below_drewN | apply below_drew1))) _).mono ?_); rintro e w3 ⟨rfl, hb⟩; have HB3 : Below w.heap.size w w3 := below_step (by repeat (first | exact Below.refl _ _ | apply pw_below_drewN | apply below_drew1)) hb; have q3 : w3.cell? ⟨b3, 0, none⟩ = some (.int .i64 most) := (blk_cell (blk_below (w := w.drew) H3.out hb) 0).trans rfl; clear hb)
    all_goals go_wp2
    all_goals go_returns
    all_goals exact ⟨by first | (rw [hvd, Bool.true_and]; rfl) | simp [hvd], by repeat (first | assumption | apply pw_below_drewN | apply below_drew1)⟩
  · have hvd : decide (0 ≤ v) = false := decide_eq_false hv
    have HQ := Lib.hid (show ∀ n, Calls Tryz.prog 101 #[.int .i64 v] (w.drewN n) (fun e w'' => e = .returned (.string (ofL (putNumN v))) ∧ ∃ m, w'' = w.drewN m) from fun n => Calls.quiet_of_same ((putNumber_neg v (by omega) _).mono fun e w' h => h))
    go_wp2_with ((go_at_call 64); (with_reducible refine (pick_number ge _).mono ?_); rintro e w2 ⟨rfl, hw⟩; rw [hw]; clear hw)
    go_quiet (first | ((go_at_call 101); (exact HQ.out _)))
    go_wp2
    all_goals go_returns
    all_goals exact ⟨by simp [hvd], by repeat (first | exact Below.refl _ _ | apply pw_below_drewN | apply below_drew1)⟩
set_option maxHeartbeats 1600000 in
theorem numkeep_number {w : World} {gt gf b2 : Nat} {et ef : Evt}
    (ht : EvAt w gt et) (hf : EvAt w gf ef) (h2 : w.heap[b2]? = some (.cells #[.func (.func 64) #[] #[]] 98 (0, 0))) :
    Calls Tryz.prog 102 #[.pointer (some ⟨gt, 0, none⟩), .pointer (some ⟨gf, 0, none⟩), .pointer (some ⟨b2, 0, none⟩)] w fun e w' => e = .returned (.tuple #[]) ∧ EvAt w' gt { et with number := ef.number } ∧ Bg w w' gt := by
  have HT := Lib.hid ht
  have HF := Lib.hid hf
  have g2 : w.cell? ⟨b2, 0, none⟩ = some (.func (.func 64) #[] #[]) := (blk_cell h2 0).trans rfl
  obtain ⟨c6, e6⟩ := ev_number ht
  obtain ⟨c7, e7⟩ := ev_number hf
  clear ht hf h2
  go_enter Tryz.func102, Tryz.ntmps102
  go_wp2
  go_region_with (first | ((go_at_call 64); (with_reducible refine (pick_number gf _).mono ?_); rintro e w2 ⟨rfl, hw⟩; rw [hw]; clear hw) | ((go_at_call 64); (with_reducible refine (pick_number gt _).mono ?_); rintro e w2 ⟨rfl, hw⟩; rw [hw]; clear hw))
  all_goals first | go_returns | go_end0
  all_goals exact ⟨rfl, by first | exact put_number HT.out _ | exact put_number (e := et) (w := w) HT.out _, by first | exact Bg.set _ _ _ _ | exact ⟨rfl, rfl, rfl, (Bg.set w gt _ _).size, (Bg.set w gt _ _).block⟩⟩
/-! ### number, flag -/
set_option maxHeartbeats 1600000 in
theorem numget_flag {w : World} {ge b2 b3 : Nat} {s : ByteArray} {most : Int} {ev : Evt} (hL : LaidW w) (hs : s.size ≤ 1099511627776)
    (he : EvAt w ge ev) (h2 : w.heap[b2]? = some (.cells #[.func (.func 65) #[] #[]] 98 (0, 0))) (h3 : w.heap[b3]? = some (.cells #[.int .i64 most] 3 (0, 0))) (hn3 : b3 ≠ ge) :
    Calls Tryz.prog 98 #[.pointer (some ⟨ge, 0, none⟩), .string s, .pointer (some ⟨b2, 0, none⟩), .pointer (some ⟨b3, 0, none⟩)] w fun e w' => e = .returned (.bool ((numR s.data.toList).2 && decide ((numR s.data.toList).1 ≤ most))) ∧ EvAt w' ge { ev with flag := (numR s.data.toList).1 } ∧ Bg w w' ge := by
  have HL := Lib.hid hL
  have HS := Lib.hid hs
  have H2 := Lib.hid h2
  have H3 := Lib.hid h3
  have HE := Lib.hid he
  have hn3' : ge ≠ b3 := fun e => hn3 e.symm
  clear hL hs h2 h3 he
  go_enter Tryz.func98, Tryz.ntmps98
  go_wp2_with (first | ((go_at_call 99); (with_reducible refine (number_calls HL.out s HS.out).mono ?_); rintro e w1 ⟨rfl, hb⟩; have HB := Lib.hid hb; have g2 : w1.cell? ⟨b2, 0, none⟩ = some (.func (.func 65) #[] #[]) := (blk_cell (blk_below H2.out hb) 0).trans rfl; have g3 : w1.cell? ⟨b3, 0, none⟩ = some (.int .i64 most) := (blk_cell (blk_below H3.out hb) 0).trans rfl; obtain ⟨c6, e6⟩ := ev_flag (EvAt.below HE.out hb); clear hb) | ((go_at_call 65); (with_reducible refine (pick_flag ge _).mono ?_); rintro e w2 ⟨rfl, hw⟩; rw [hw]; clear hw))
  all_goals go_returns
  all_goals exact ⟨by simp [*], put_flag (EvAt.below HE.out HB.out) _, (Bg.of HB.out _).trans (Bg.set _ _ _ _)⟩
set_option maxHeartbeats 1600000 in
theorem numput_flag {w : World} {ge b2 b3 : Nat} {most : Int} {ev : Evt} (hL : LaidW w)
    (he : EvAt w ge ev) (h2 : w.heap[b2]? = some (.cells #[.func (.func 65) #[] #[]] 98 (0, 0))) (h3 : w.heap[b3]? = some (.cells #[.int .i64 most] 3 (0, 0))) :
    Calls Tryz.prog 100 #[.pointer (some ⟨ge, 0, none⟩), .pointer (some ⟨b2, 0, none⟩), .pointer (some ⟨b3, 0, none⟩)] w fun e w' => e = .returned (.tuple #[.string (ofL (putNumN ev.flag)), .bool (decide (0 ≤ ev.flag) && decide (ev.flag ≤ most))]) ∧ Below w.heap.size w w' := by
  have HL := Lib.hid hL
  have H2 := Lib.hid h2
  have H3 := Lib.hid h3
  have HE := Lib.hid he
  have g2 : w.cell? ⟨b2, 0, none⟩ = some (.func (.func 65) #[] #[]) := (blk_cell h2 0).trans rfl
  have g3 : w.cell? ⟨b3, 0, none⟩ = some (.int .i64 most) := (blk_cell h3 0).trans rfl
  obtain ⟨c6, e6⟩ := ev_flag he
  clear hL h2 h3 he
  generalize ev.flag = v at c6
  go_enter Tryz.func100, Tryz.ntmps100
  by_cases hv : 0 ≤ v
  · have hvd : decide (0 ≤ v) = true := decide_eq_true hv
    go_wp2_with ((go_at_call 65); (with_reducible refine (pick_flag ge _).mono ?_); rintro e w2 ⟨rfl, hw⟩; rw [hw]; clear hw)
    go_region_with ((go_at_call 101); (with_reducible refine (putNumber_calls (HL.out.below (by repeat (first | exact Below.refl _ _ | apply pw_below_drewN | apply below_drew1))) _).mono ?_); rintro e w3 ⟨rfl, hb⟩; have HB3 : Below w.heap.size w w3 := below_step (by repeat (first | exact Below.refl _ _ | apply pw_below_drewN | apply below_drew1)) hb; have q3 : w3.cell? ⟨b3, 0, none⟩ = some (.int .i64 most) := (blk_cell (blk_below (w := w.drew) H3.out hb) 0).trans rfl; clear hb)
    all_goals go_wp2
    all_goals go_returns
    all_goals exact ⟨by first | (rw [hvd, Bool.true_and]; rfl) | simp [hvd], by repeat (first | assumption | apply pw_below_drewN | apply below_drew1)⟩
  · have hvd : decide (0 ≤ v) = false := decide_eq_false hv
    have HQ := Lib.hid (show ∀ n, Calls Tryz.prog 101 #[.int .i64 v] (w.drewN n) (fun e w'' => e = .returned (.string (ofL (putNumN v))) ∧ ∃ m, w'' = w.drewN m) from fun n => Calls.quiet_of_same ((putNumber_neg v (by omega) _).mono fun e w' h => h))
    go_wp2_with ((go_at_call 65); (with_reducible refine (pick_flag ge _).mono ?_); rintro e w2 ⟨rfl, hw⟩; rw [hw]; clear hw)
    go_quiet (first | ((go_at_call 101); (exact HQ.out _)))
    go_wp2
    all_goals go_returns
    all_goals exact ⟨by simp [hvd], by repeat (first | exact Below.refl _ _ | apply pw_below_drewN | apply below_drew1)⟩
set_option maxHeartbeats 1600000 in
theorem numkeep_flag {w : World} {gt gf b2 : Nat} {et ef : Evt}
    (ht : EvAt w gt et) (hf : EvAt w gf ef) (h2 : w.heap[b2]? = some (.cells #[.func (.func 65) #[] #[]] 98 (0, 0))) :
    Calls Tryz.prog 102 #[.pointer (some ⟨gt, 0, none⟩), .pointer (some ⟨gf, 0, none⟩), .pointer (some ⟨b2, 0, none⟩)] w fun e w' => e = .returned (.tuple #[]) ∧ EvAt w' gt { et with flag := ef.flag } ∧ Bg w w' gt := by
  have HT := Lib.hid ht
  have HF := Lib.hid hf
  have g2 : w.cell? ⟨b2, 0, none⟩ = some (.func (.func 65) #[] #[]) := (blk_cell h2 0).trans rfl
  obtain ⟨c6, e6⟩ := ev_flag ht
  obtain ⟨c7, e7⟩ := ev_flag hf
  clear ht hf h2
  go_enter Tryz.func102, Tryz.ntmps102
  go_wp2
  go_region_with (first | ((go_at_call 65); (with_reducible refine (pick_flag gf _).mono ?_); rintro e w2 ⟨rfl, hw⟩; rw [hw]; clear hw) | ((go_at_call 65); (with_reducible refine (pick_flag gt _).mono ?_); rintro e w2 ⟨rfl, hw⟩; rw [hw]; clear hw))
  all_goals first | go_returns | go_end0
  all_goals exact ⟨rfl, by first | exact put_flag HT.out _ | exact put_flag (e := et) (w := w) HT.out _, by first | exact Bg.set _ _ _ _ | exact ⟨rfl, rfl, rfl, (Bg.set w gt _ _).size, (Bg.set w gt _ _).block⟩⟩
/-! ### number, offset -/
set_option maxHeartbeats 1600000 in
theorem numget_offset {w : World} {ge b2 b3 : Nat} {s : ByteArray} {most : Int} {ev : Evt} (hL : LaidW w) (hs : s.size ≤ 1099511627776)
    (he : EvAt w ge ev) (h2 : w.heap[b2]? = some (.cells #[.func (.func 69) #[] #[]] 98 (0, 0))) (h3 : w.heap[b3]? = some (.cells #[.int .i64 most] 3 (0, 0))) (hn3 : b3 ≠ ge) :
    Calls Tryz.prog 98 #[.pointer (some ⟨ge, 0, none⟩), .string s, .pointer (some ⟨b2, 0, none⟩), .pointer (some ⟨b3, 0, none⟩)] w fun e w' => e = .returned (.bool ((numR s.data.toList).2 && decide ((numR s.data.toList).1 ≤ most))) ∧ EvAt w' ge { ev with offset := (numR s.data.toList).1 } ∧ Bg w w' ge := by
  have HL := Lib.hid hL
  have HS := Lib.hid hs
  have H2 := Lib.hid h2
  have H3 := Lib.hid h3
  have HE := Lib.hid he
  have hn3' : ge ≠ b3 := fun e => hn3 e.symm
  clear hL hs h2 h3 he
  go_enter Tryz.func98, Tryz.ntmps98
  go_wp2_with (first | ((go_at_call 99); (with_reducible refine (number_calls HL.out s HS.out).mono ?_); rintro e w1 ⟨rfl, hb⟩; have HB := Lib.hid hb; have g2 : w1.cell? ⟨b2, 0, none⟩ = some (.func (.func 69) #[] #[]) := (blk_cell (blk_below H2.out hb) 0).trans rfl; have g3 : w1.cell? ⟨b3, 0, none⟩ = some (.int .i64 most) := (blk_cell (blk_below H3.out hb) 0).trans rfl; obtain ⟨c6, e6⟩ := ev_offset (EvAt.below HE.out hb); clear hb) | ((go_at_call 69); (with_reducible refine (pick_offset ge _).mono ?_); rintro e w2 ⟨rfl, hw⟩; rw [hw]; clear hw))
  all_goals go_returns
  all_goals exact ⟨by simp [*], put_offset (EvAt.below HE.out HB.out) _, (Bg.of HB.out _).trans (Bg.set _ _ _ _)⟩
set_option maxHeartbeats 1600000 in
theorem numput_offset {w : World} {ge b2 b3 : Nat} {most : Int} {ev : Evt} (hL : LaidW w)
    (he : EvAt w ge ev) (h2 : w.heap[b2]? = some (.cells #[.func (.func 69) #[] #[]] 98 (0, 0))) (h3 : w.heap[b3]? = some (.cells #[.int .i64 most] 3 (0, 0))) :
    Calls Tryz.prog 100 #[.pointer (some ⟨ge, 0, none⟩), .pointer (some ⟨b2, 0, none⟩), .pointer (some ⟨b3, 0, none⟩)] w fun e w' => e = .returned (.tuple #[.string (ofL (putNumN ev.offset)), .bool (decide (0 ≤ ev.offset) && decide (ev.offset ≤ most))]) ∧ Below w.heap.size w w' := by
  have HL := Lib.hid hL
  have H2 := Lib.hid h2
  have H3 := Lib.hid h3
  have HE := Lib.hid he
  have g2 : w.cell? ⟨b2, 0, none⟩ = some (.func (.func 69) #[] #[]) := (blk_cell h2 0).trans rfl
  have g3 : w.cell? ⟨b3, 0, none⟩ = some (.int .i64 most) := (blk_cell h3 0).trans rfl
  obtain ⟨c6, e6⟩ := ev_offset he
  clear hL h2 h3 he
  generalize ev.offset = v at c6
  go_enter Tryz.func100, Tryz.ntmps100
  by_cases hv : 0 ≤ v
  · have hvd : decide (0 ≤ v) = true := decide_eq_true hv
    go_wp2_with ((go_at_call 69); (with_reducible refine (pick_offset ge _).mono ?_); rintro e w2 ⟨rfl, hw⟩; rw [hw]; clear hw)
    go_region_with ((go_at_call 101); (with_reducible refine (putNumber_calls (HL.out.below (by repeat (first | exact Below.refl _ _ | apply pw_below_drewN | apply below_drew1))) _).mono ?_); rintro e w3 ⟨rfl, hb⟩; have HB3 : Below w.heap.size w w3 := below_step (by repeat (first | exact Below.refl _ _ | apply pw_below_drewN | apply below_drew1)) hb; have q3 : w3.cell? ⟨b3, 0, none⟩ = some (.int .i64 most) := (blk_cell (blk_below (w := w.drew) H3.out hb) 0).trans rfl; clear hb)
    all_goals go_wp2
    all_goals go_returns
    all_goals exact ⟨by first | (rw [hvd, Bool.true_and]; rfl) | simp [hvd], by repeat (first | assumption | apply pw_below_drewN | apply below_drew1)⟩
  · have hvd : decide (0 ≤ v) = false := decide_eq_false hv
    have HQ := Lib.hid (show ∀ n, Calls Tryz.prog 101 #[.int .i64 v] (w.drewN n) (fun e w'' => e = .returned (.string (ofL (putNumN v))) ∧ ∃ m, w'' = w.drewN m) from fun n => Calls.quiet_of_same ((putNumber_neg v (by omega) _).mono fun e w' h => h))
    go_wp2_with ((go_at_call 69); (with_reducible refine (pick_offset ge _).mono ?_); rintro e w2 ⟨rfl, hw⟩; rw [hw]; clear hw)
    go_quiet (first | ((go_at_call 101); (exact HQ.out _)))
    go_wp2
    all_goals go_returns
    all_goals exact ⟨by simp [hvd], by repeat (first | exact Below.refl _ _ | apply pw_below_drewN | apply below_drew1)⟩
set_option maxHeartbeats 1600000 in
theorem numkeep_offset {w : World} {gt gf b2 : Nat} {et ef : Evt}
    (ht : EvAt w gt et) (hf : EvAt w gf ef) (h2 : w.heap[b2]? = some (.cells #[.func (.func 69) #[] #[]] 98 (0, 0))) :
    Calls Tryz.prog 102 #[.pointer (some ⟨gt, 0, none⟩), .pointer (some ⟨gf, 0, none⟩), .pointer (some ⟨b2, 0, none⟩)] w fun e w' => e = .returned (.tuple #[]) ∧ EvAt w' gt { et with offset := ef.offset } ∧ Bg w w' gt := by
  have HT := Lib.hid ht
  have HF := Lib.hid hf
  have g2 : w.cell? ⟨b2, 0, none⟩ = some (.func (.func 69) #[] #[]) := (blk_cell h2 0).trans rfl
  obtain ⟨c6, e6⟩ := ev_offset ht
  obtain ⟨c7, e7⟩ := ev_offset hf
  clear ht hf h2
  go_enter Tryz.func102, Tryz.ntmps102
  go_wp2
  go_region_with (first | ((go_at_call 69); (with_reducible refine (pick_offset gf _).mono ?_); rintro e w2 ⟨rfl, hw⟩; rw [hw]; clear hw) | ((go_at_call 69); (with_reducible refine (pick_offset gt _).mono ?_); rintro e w2 ⟨rfl, hw⟩; rw [hw]; clear hw))
  all_goals first | go_returns | go_end0
  all_goals exact ⟨rfl, by first | exact put_offset HT.out _ | exact put_offset (e := et) (w := w) HT.out _, by first | exact Bg.set _ _ _ _ | exact ⟨rfl, rfl, rfl, (Bg.set w gt _ _).size, (Bg.set w gt _ _).block⟩⟩
/-! ### number, index -/
set_option maxHeartbeats 1600000 in
theorem numget_index {w : World} {ge b2 b3 : Nat} {s : ByteArray} {most : Int} {ev : Evt} (hL : LaidW w) (hs : s.size ≤ 1099511627776)
    (he : EvAt w ge ev) (h2 : w.heap[b2]? = some (.cells #[.func (.func 77) #[] #[]] 98 (0, 0))) (h3 : w.heap[b3]? = some (.cells #[.int .i64 most] 3 (0, 0))) (hn3 : b3 ≠ ge) :
    Calls Tryz.prog 98 #[.pointer (some ⟨ge, 0, none⟩), .string s, .pointer (some ⟨b2, 0, none⟩), .pointer (some ⟨b3, 0, none⟩)] w fun e w' => e = .returned (.bool ((numR s.data.toList).2 && decide ((numR s.data.toList).1 ≤ most))) ∧ EvAt w' ge { ev with index := (numR s.data.toList).1 } ∧ Bg w w' ge := by
  have HL := Lib.hid hL
  have HS := Lib.hid hs
  have H2 := Lib.hid h2
  have H3 := Lib.hid h3
  have HE := Lib.hid he
  have hn3' : ge ≠ b3 := fun e => hn3 e.symm
  clear hL hs h2 h3 he
  go_enter Tryz.func98, Tryz.ntmps98
  go_wp2_with (first | ((go_at_call 99); (with_reducible refine (number_calls HL.out s HS.out).mono ?_); rintro e w1 ⟨rfl, hb⟩; have HB := Lib.hid hb; have g2 : w1.cell? ⟨b2, 0, none⟩ = some (.func (.func 77) #[] #[]) := (blk_cell (blk_below H2.out hb) 0).trans rfl; have g3 : w1.cell? ⟨b3, 0, none⟩ = some (.int .i64 most) := (blk_cell (blk_below H3.out hb) 0).trans rfl; obtain ⟨c6, e6⟩ := ev_index (EvAt.below HE.out hb); clear hb) | ((go_at_call 77); (with_reducible refine (pick_index ge _).mono ?_); rintro e w2 ⟨rfl, hw⟩; rw [hw]; clear hw))
  all_goals go_returns
  all_goals exact ⟨by simp [*], put_index (EvAt.below HE.out HB.out) _, (Bg.of HB.out _).trans (Bg.set _ _ _ _)⟩
set_option maxHeartbeats 1600000 in
theorem numput_index {w : World} {ge b2 b3 : Nat} {most : Int} {ev : Evt} (hL : LaidW w)
    (he : EvAt w ge ev) (h2 : w.heap[b2]? = some (.cells #[.func (.func 77) #[] #[]] 98 (0, 0))) (h3 : w.heap[b3]? = some (.cells #[.int .i64 most] 3 (0, 0))) :
    Calls Tryz.prog 100 #[.pointer (some ⟨ge, 0, none⟩), .pointer (some ⟨b2, 0, none⟩), .pointer (some ⟨b3, 0, none⟩)] w fun e w' => e = .returned (.tuple #[.string (ofL (putNumN ev.index)), .bool (decide (0 ≤ ev.index) && decide (ev.index ≤ most))]) ∧ Below w.heap.size w w' := by
  have HL := Lib.hid hL
  have H2 := Lib.hid h2
  have H3 := Lib.hid h3
  have HE := Lib.hid he
  have g2 : w.cell? ⟨b2, 0, none⟩ = some (.func (.func 77) #[] #[]) := (blk_cell h2 0).trans rfl
  have g3 : w.cell? ⟨b3, 0, none⟩ = some (.int .i64 most) := (blk_cell h3 0).trans rfl
  obtain ⟨c6, e6⟩ := ev_index he
  clear hL h2 h3 he
  generalize ev.index = v at c6
  go_enter Tryz.func100, Tryz.ntmps100
  by_cases hv : 0 ≤ v
  · have hvd : decide (0 ≤ v) = true := decide_eq_true hv
    go_wp2_with ((go_at_call 77); (with_reducible refine (pick_index ge _).mono ?_); rintro e w2 ⟨rfl, hw⟩; rw [hw]; clear hw)
    go_region_with ((go_at_call 101); (with_reducible refine (putNumber_calls (HL.out.below (by repeat (first | exact Below.refl _ _ | apply pw_below_drewN | apply below_drew1))) _).mono ?_); rintro e w3 ⟨rfl, hb⟩; have HB3 : Below w.heap.size w w3 := below_step (by repeat (first | exact Below.refl _ _ | apply pw_below_drewN | apply below_drew1)) hb; have q3 : w3.cell? ⟨b3, 0, none⟩ = some (.int .i64 most) := (blk_cell (blk_below (w := w.drew) H3.out hb) 0).trans rfl; clear hb)
    all_goals go_wp2
    all_goals go_returns
    all_goals exact ⟨by first | (rw [hvd, Bool.true_and]; rfl) | simp [hvd], by repeat (first | assumption | apply pw_below_drewN | apply below_drew1)⟩
  · have hvd : decide (0 ≤ v) = false := decide_eq_false hv
    have HQ := Lib.hid (show ∀ n, Calls Tryz.prog 101 #[.int .i64 v] (w.drewN n) (fun e w'' => e = .returned (.string (ofL (putNumN v))) ∧ ∃ m, w'' = w.drewN m) from fun n => Calls.quiet_of_same ((putNumber_neg v (by omega) _).mono fun e w' h => h))
    go_wp2_with ((go_at_call 77); (with_reducible refine (pick_index ge _).mono ?_); rintro e w2 ⟨rfl, hw⟩; rw [hw]; clear hw)
    go_quiet (first | ((go_at_call 101); (exact HQ.out _)))
    go_wp2
    all_goals go_returns
    all_goals exact ⟨by simp [hvd], by repeat (first | exact Below.refl _ _ | apply pw_below_drewN | apply below_drew1)⟩
set_option maxHeartbeats 1600000 in
theorem numkeep_index {w : World} {gt gf b2 : Nat} {et ef : Evt}
    (ht : EvAt w gt et) (hf : EvAt w gf ef) (h2 : w.heap[b2]? = some (.cells #[.func (.func 77) #[] #[]] 98 (0, 0))) :
    Calls Tryz.prog 102 #[.pointer (some ⟨gt, 0, none⟩), .pointer (some ⟨gf, 0, none⟩), .pointer (some ⟨b2, 0, none⟩)] w fun e w' => e = .returned (.tuple #[]) ∧ EvAt w' gt { et with index := ef.index } ∧ Bg w w' gt := by
  have HT := Lib.hid ht
  have HF := Lib.hid hf
  have g2 : w.cell? ⟨b2, 0, none⟩ = some (.func (.func 77) #[] #[]) := (blk_cell h2 0).trans rfl
  obtain ⟨c6, e6⟩ := ev_index ht
  obtain ⟨c7, e7⟩ := ev_index hf
  clear ht hf h2
  go_enter Tryz.func102, Tryz.ntmps102
  go_wp2
  go_region_with (first | ((go_at_call 77); (with_reducible refine (pick_index gf _).mono ?_); rintro e w2 ⟨rfl, hw⟩; rw [hw]; clear hw) | ((go_at_call 77); (with_reducible refine (pick_index gt _).mono ?_); rintro e w2 ⟨rfl, hw⟩; rw [hw]; clear hw))
  all_goals first | go_returns | go_end0
  all_goals exact ⟨rfl, by first | exact put_index HT.out _ | exact put_index (e := et) (w := w) HT.out _, by first | exact Bg.set _ _ _ _ | exact ⟨rfl, rfl, rfl, (Bg.set w gt _ _).size, (Bg.set w gt _ _).block⟩⟩
end Go.Proofs.YtnblabfkkcohgaaGreatDoor.Wire
end
