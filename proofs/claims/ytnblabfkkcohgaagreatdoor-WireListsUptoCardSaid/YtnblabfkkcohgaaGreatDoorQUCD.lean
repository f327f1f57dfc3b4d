/- Texts of this claim, put together by a program of this session (prune.py): FldE, FldF, FldG, PWireOnex0, PWireOnex1. -/
import Derived.Test.YtnblabfkkcohgaaGreatDoorQUCC
import Derived.Deep.Heap
import Derived.Test.YtnblabfkkcohgaaGreatDoorProg
import Derived.Below
import Derived.Deep.Draws
import Derived.Deep.AppendLies
import Derived.Maps.AppendAt
import Derived.OwnWalk
import Derived.Laws.BytesArg
import Derived.Laws.MakeOwn
import Derived.Laws.OwnMore
import Derived.Deep.OwnRows
import Derived.Tactics
import Derived.Lib.ConvBytes
import Derived.Laws.Slices
import Derived.WalkKit
import Derived.KernelRfl
import Derived.RowKit3
import Derived.Deep.LoopGhost
import Derived.Deep.QuietTactic
import Derived.BigQuiet
import Derived.WideLaws
import Derived.Deep.DeepCutAuto
import Derived.Deep.CutBlock
import Derived.Deep.RegionHeld3
import Derived.Laws.Rows
import Derived.Lib.AppendStr
import Derived.ArgAppend
import Derived.Laws.IdiomCopy
import Derived.OrdersHeld
import Derived.Laws.BitsLemmas
import Derived.RowKit
import Derived.Test.YtnblabfkkcohgaaGreatDoorQUWWords
import Derived.Test.YtnblabfkkcohgaaGreatDoorQUWLast
import Derived.Test.YtnblabfkkcohgaaGreatDoorQUWTab
import Derived.Test.YtnblabfkkcohgaaGreatDoorQUWFour
import Derived.Test.YtnblabfkkcohgaaGreatDoorQUWQPut
import Derived.Test.YtnblabfkkcohgaaGreatDoorQUWApart
import Derived.Test.YtnblabfkkcohgaaGreatDoorQUWArr
import Derived.Test.YtnblabfkkcohgaaGreatDoorQUWZeros
import Derived.Test.YtnblabfkkcohgaaGreatDoorQUWFoot
import Derived.Test.YtnblabfkkcohgaaGreatDoorQUWKept
import Derived.Test.YtnblabfkkcohgaaGreatDoorQUWShare
import Derived.Test.YtnblabfkkcohgaaGreatDoorQUWN
import Derived.Test.YtnblabfkkcohgaaGreatDoorQUWFootNe
import Derived.Test.YtnblabfkkcohgaaGreatDoorQUWAt
import Derived.Test.YtnblabfkkcohgaaGreatDoorQUWEqStruct
import Derived.Test.YtnblabfkkcohgaaGreatDoorQUWRepsOne
import Derived.Test.YtnblabfkkcohgaaGreatDoorQUWInv
import Derived.Test.YtnblabfkkcohgaaGreatDoorQUWInvWords
import Derived.Test.YtnblabfkkcohgaaGreatDoorQUWGuard
import Derived.Test.YtnblabfkkcohgaaGreatDoorQUWNEv
import Derived.Test.YtnblabfkkcohgaaGreatDoorQUWMore
section
/- The functions that make the fields of a line, walked. -/
namespace Go.Proofs.YtnblabfkkcohgaaGreatDoor.Wire
set_option linter.unusedVariables false
set_option linter.unusedSimpArgs false
open Go Go.Shelf Go.RowKit Go.Proofs.YtnblabfkkcohgaaGreatDoor.Given Go.Proofs.YtnblabfkkcohgaaGreatDoorW.PrintWords Go.Proofs.YtnblabfkkcohgaaGreatDoorW.PrintLast

theorem store_one {w : World} {a : Addr} {u v : Value} {m : Mode} (hc : w.cell? a = some u) (hf : w.frozen? a = false) (hv : v.oneCell' = true) : (store a v m).run Tryz.prog w = .ok () (w.setCell a v) := by
  rw [run_store _ _ _ _ _ hv, hc]
  simp [hf]
theorem store_func {w : World} {a : Addr} {u : Value} {fn : Fn} {b c : Array Value} {m : Mode} (hc : w.cell? a = some u) (hf : w.frozen? a = false) : (store a (.func fn b c) m).run Tryz.prog w = .ok () (w.setCell a (.func fn b c)) := store_one hc hf rfl
attribute [local go_sem] store_func
/-- Which number of an event is picked. -/
inductive NP | tick | number | flag | offset | index
/-- Which id of an event is picked. -/
inductive IP | pane | window | session
def NP.fn : NP → Nat | .tick => 63 | .number => 64 | .flag => 65 | .offset => 69 | .index => 77
def IP.fn : IP → Nat | .pane => 67 | .window => 70 | .session => 76
def planF (vis : Bool) : Nat := if vis then 74 else 73
/-- A field of a line. -/
inductive Fd | num (p : NP) (most : Int) | id (mark : UInt8) (p : IP) | name (blanks : Bool) | text (least most : Int) | plan (vis : Bool) | zoom | colon
def mayFn (b : Bool) : Nat := if b then 116 else 115
/-- The value v is the field fd, its captured variables in blocks from lo on. -/
def FdAt (w : World) (lo : Nat) : Fd → Value → Prop
  | .num p most, v => ∃ g2 g3 g5, v = .agg #[.func (.func 100) #[] #[.pointer (some ⟨g2, 0, none⟩), .pointer (some ⟨g3, 0, none⟩)], .func (.func 98) #[] #[.pointer (some ⟨g2, 0, none⟩), .pointer (some ⟨g3, 0, none⟩)], .func (.func 102) #[] #[.pointer (some ⟨g2, 0, none⟩)], .func (.func 103) #[] #[.pointer (some ⟨g5, 0, none⟩)]] ∧ lo ≤ g2 ∧ lo ≤ g3 ∧ lo ≤ g5 ∧ w.heap[g2]? = some (.cells #[.func (.func p.fn) #[] #[]] 98 (0, 0)) ∧ w.heap[g3]? = some (.cells #[.int .i64 most] 3 (0, 0)) ∧ w.heap[g5]? = some (.cells #[.func (.func 98) #[] #[.pointer (some ⟨g2, 0, none⟩), .pointer (some ⟨g3, 0, none⟩)]] 68 (0, 0))
  | .id mark p, v => ∃ g2 g3 g5, v = .agg #[.func (.func 106) #[] #[.pointer (some ⟨g2, 0, none⟩), .pointer (some ⟨g3, 0, none⟩)], .func (.func 104) #[] #[.pointer (some ⟨g2, 0, none⟩), .pointer (some ⟨g3, 0, none⟩)], .func (.func 108) #[] #[.pointer (some ⟨g3, 0, none⟩)], .func (.func 109) #[] #[.pointer (some ⟨g2, 0, none⟩), .pointer (some ⟨g5, 0, none⟩)]] ∧ lo ≤ g2 ∧ lo ≤ g3 ∧ lo ≤ g5 ∧ w.heap[g2]? = some (.cells #[.int .u8 mark.toNat] 5 (0, 0)) ∧ w.heap[g3]? = some (.cells #[.func (.func p.fn) #[] #[]] 98 (0, 0)) ∧ w.heap[g5]? = some (.cells #[.func (.func 104) #[] #[.pointer (some ⟨g2, 0, none⟩), .pointer (some ⟨g3, 0, none⟩)]] 68 (0, 0))
  | .name b, v => ∃ g1, v = .agg #[.func (.func 117) #[] #[.pointer (some ⟨g1, 0, none⟩)], .func (.func 118) #[] #[.pointer (some ⟨g1, 0, none⟩)], .func (.func 119) #[] #[], .func (.func 120) #[] #[.pointer (some ⟨g1, 0, none⟩)]] ∧ lo ≤ g1 ∧ w.heap[g1]? = some (.cells #[.func (.func (mayFn b)) #[] #[]] 30 (0, 0))
  | .text least most, v => ∃ g1 g2, v = .agg #[.func (.func 110) #[] #[.pointer (some ⟨g1, 0, none⟩), .pointer (some ⟨g2, 0, none⟩)], .func (.func 111) #[] #[.pointer (some ⟨g1, 0, none⟩), .pointer (some ⟨g2, 0, none⟩)], .func (.func 112) #[] #[], .func (.func 113) #[] #[.pointer (some ⟨g2, 0, none⟩)]] ∧ lo ≤ g1 ∧ lo ≤ g2 ∧ w.heap[g1]? = some (.cells #[.int .i64 least] 3 (0, 0)) ∧ w.heap[g2]? = some (.cells #[.int .i64 most] 3 (0, 0))
  | .plan vis, v => ∃ g1, v = .agg #[.func (.func 121) #[] #[.pointer (some ⟨g1, 0, none⟩)], .func (.func 123) #[] #[.pointer (some ⟨g1, 0, none⟩)], .func (.func 124) #[] #[.pointer (some ⟨g1, 0, none⟩)], .func (.func 122) #[] #[]] ∧ lo ≤ g1 ∧ w.heap[g1]? = some (.cells #[.func (.func (planF vis)) #[] #[]] 104 (0, 0))
  | .zoom, v => v = .agg #[.func (.func 125) #[] #[], .func (.func 126) #[] #[], .func (.func 127) #[] #[], .func (.func 128) #[] #[]]
  | .colon, v => v = .agg #[.func (.func 129) #[] #[], .func (.func 130) #[] #[], .func (.func 131) #[] #[], .func (.func 132) #[] #[]]
theorem FdAt.below {w w' : World} {lo : Nat} {fd : Fd} {v : Value} (h : FdAt w lo fd v) (hb : Below w.heap.size w w') : FdAt w' lo fd v := by
  cases fd with
  | num p most => obtain ⟨g2, g3, g5, a, b, c, d, e, f, g⟩ := h; exact ⟨g2, g3, g5, a, b, c, d, blk_below e hb, blk_below f hb, blk_below g hb⟩
  | id mark p => obtain ⟨g2, g3, g5, a, b, c, d, e, f, g⟩ := h; exact ⟨g2, g3, g5, a, b, c, d, blk_below e hb, blk_below f hb, blk_below g hb⟩
  | name b => obtain ⟨g1, a, b, c⟩ := h; exact ⟨g1, a, b, blk_below c hb⟩
  | text least most => obtain ⟨g1, g2, a, b, c, d, e⟩ := h; exact ⟨g1, g2, a, b, c, blk_below d hb, blk_below e hb⟩
  | plan vis => obtain ⟨g1, a, b, c⟩ := h; exact ⟨g1, a, b, blk_below c hb⟩
  | zoom => exact h
  | colon => exact h
theorem FdAt.bg {w w' : World} {lo g : Nat} {fd : Fd} {v : Value} (h : FdAt w lo fd v) (hb : Bg w w' g) (hg : g < lo) : FdAt w' lo fd v := by
  cases fd with
  | num p most => obtain ⟨g2, g3, g5, a, b, c, d, e, f, g⟩ := h; exact ⟨g2, g3, g5, a, b, c, d, hb.blk e (by omega), hb.blk f (by omega), hb.blk g (by omega)⟩
  | id mark p => obtain ⟨g2, g3, g5, a, b, c, d, e, f, g⟩ := h; exact ⟨g2, g3, g5, a, b, c, d, hb.blk e (by omega), hb.blk f (by omega), hb.blk g (by omega)⟩
  | name b => obtain ⟨g1, a, b, c⟩ := h; exact ⟨g1, a, b, hb.blk c (by omega)⟩
  | text least most => obtain ⟨g1, g2, a, b, c, d, e⟩ := h; exact ⟨g1, g2, a, b, c, hb.blk d (by omega), hb.blk e (by omega)⟩
  | plan vis => obtain ⟨g1, a, b, c⟩ := h; exact ⟨g1, a, b, hb.blk c (by omega)⟩
  | zoom => exact h
  | colon => exact h
set_option maxHeartbeats 3200000 in
theorem mk_num (w : World) (p : NP) (most : Int) : Calls Tryz.prog 62 #[.func (.func p.fn) #[] #[], .int .i64 most] w fun e w' => ∃ v, e = .returned v ∧ FdAt w' w.heap.size (.num p most) v ∧ Below w.heap.size w w' := by
  have hone : ∀ (fn : Fn) (a b : Array Value), (Value.func fn a b).oneCell' = true := fun _ _ _ => rfl
  go_enter Tryz.func62, Tryz.ntmps62
  go_wp2_with (first | ((with_reducible refine gate_dst (N := 2) rfl ?_); refine box_event ?hg (N := 2) ?hd (cs := #[.func (.func p.fn) #[] #[]]) (t := 98) ?hr ?_; (case hd => rfl); (case hg => rfl); (case hr => first | (go_simp; done) | (go_simp; rfl)); intro g2 hgb w1 hbox hbb; have HGg2 := Lib.hid (show w.heap.size ≤ g2 by rw [hgb]; exact Nat.le_refl _); have HXg2 := Lib.hid hbox; have HBg2 := Lib.hid hbb; clear hgb hbox hbb) | ((with_reducible refine gate_dst (N := 3) rfl ?_); refine box_event ?hg (N := 3) ?hd (cs := #[.int .i64 most]) (t := 3) ?hr ?_; (case hd => rfl); (case hg => rfl); (case hr => first | (go_simp; done) | (go_simp; rfl)); intro g3 hgb w2 hbox hbb; have HGg3 := Lib.hid (show w1.heap.size ≤ g3 by rw [hgb]; exact Nat.le_refl _); have HXg3 := Lib.hid hbox; have HBg3 := Lib.hid hbb; clear hgb hbox hbb) | ((with_reducible refine gate_dst (N := 4) rfl ?_); refine box_event ?hg (N := 4) ?hd (cs := #[.nilFunc, .nilFunc, .nilFunc, .nilFunc]) (t := 71) ?hr ?_; (case hd => rfl); (case hg => rfl); (case hr => first | (go_simp; done) | (go_simp; rfl)); intro gr hgb w3 hbox hbb; have HGgr := Lib.hid (show w2.heap.size ≤ gr by rw [hgb]; exact Nat.le_refl _); have HXgr := Lib.hid hbox; have HBgr := Lib.hid hbb; clear hgb hbox hbb) | ((with_reducible refine gate_dst (N := 5) rfl ?_); refine box_event ?hg (N := 5) ?hd (cs := #[.nilFunc]) (t := 68) ?hr ?_; (case hd => rfl); (case hg => rfl); (case hr => first | (go_simp; done) | (go_simp; rfl)); intro g5 hgb w4 hbox hbb; have HGg5 := Lib.hid (show w3.heap.size ≤ g5 by rw [hgb]; exact Nat.le_refl _); have HXg5 := Lib.hid hbox; have HBg5 := Lib.hid hbb; have hn0 : g2 ≠ g3 := (by have := blk_lt HXg2.out; have := HGg3.out; omega); have hm0 : g3 ≠ g2 := fun e => hn0 e.symm; have hn1 : g2 ≠ gr := (by have := blk_lt HXg2.out; have := HGgr.out; have := HBg3.out.size; omega); have hm1 : gr ≠ g2 := fun e => hn1 e.symm; have hn2 : g2 ≠ g5 := (by have := blk_lt HXg2.out; have := HGg5.out; have := HBg3.out.size; have := HBgr.out.size; omega); have hm2 : g5 ≠ g2 := fun e => hn2 e.symm; have hn3 : g3 ≠ gr := (by have := blk_lt HXg3.out; have := HGgr.out; omega); have hm3 : gr ≠ g3 := fun e => hn3 e.symm; have hn4 : g3 ≠ g5 := (by have := blk_lt HXg3.out; have := HGg5.out; have := HBgr.out.size; omega); have hm4 : g5 ≠ g3 := fun e => hn4 e.symm; have hn5 : gr ≠ g5 := (by have := blk_lt HXgr.out; have := HGg5.out; omega); have hm5 : g5 ≠ gr := fun e => hn5 e.symm; have cgrq0 : w4.cell? ⟨gr, 0, none⟩ = some (.nilFunc) := (blk_cell (blk_below HXgr.out hbb) 0).trans rfl; have cgrz0 := blk_frozen (blk_below HXgr.out hbb) 0; have cgrq1 : w4.cell? ⟨gr, 1, none⟩ = some (.nilFunc) := (blk_cell (blk_below HXgr.out hbb) 1).trans rfl; have cgrz1 := blk_frozen (blk_below HXgr.out hbb) 1; have cgrq2 : w4.cell? ⟨gr, 2, none⟩ = some (.nilFunc) := (blk_cell (blk_below HXgr.out hbb) 2).trans rfl; have cgrz2 := blk_frozen (blk_below HXgr.out hbb) 2; have cgrq3 : w4.cell? ⟨gr, 3, none⟩ = some (.nilFunc) := (blk_cell (blk_below HXgr.out hbb) 3).trans rfl; have cgrz3 := blk_frozen (blk_below HXgr.out hbb) 3; have cg5q0 : w4.cell? ⟨g5, 0, none⟩ = some (.nilFunc) := (blk_cell hbox 0).trans rfl; have cg5z0 := blk_frozen hbox 0; clear hgb hbox hbb))
  refine bodyPost_ret (results_cell_row rfl _ _ gr 71 #[.func (.func 100) #[] #[.pointer (some ⟨g2, 0, none⟩), .pointer (some ⟨g3, 0, none⟩)], .func (.func 98) #[] #[.pointer (some ⟨g2, 0, none⟩), .pointer (some ⟨g3, 0, none⟩)], .func (.func 102) #[] #[.pointer (some ⟨g2, 0, none⟩)], .func (.func 103) #[] #[.pointer (some ⟨g5, 0, none⟩)]] (0, 0) _ rfl (by exact (blk_put (cs' := #[.func (.func 100) #[] #[.pointer (some ⟨g2, 0, none⟩), .pointer (some ⟨g3, 0, none⟩)], .func (.func 98) #[] #[.pointer (some ⟨g2, 0, none⟩), .pointer (some ⟨g3, 0, none⟩)], .func (.func 102) #[] #[.pointer (some ⟨g2, 0, none⟩)], .func (.func 103) #[] #[.pointer (some ⟨g5, 0, none⟩)]]) (blk_put (cs' := #[.func (.func 100) #[] #[.pointer (some ⟨g2, 0, none⟩), .pointer (some ⟨g3, 0, none⟩)], .func (.func 98) #[] #[.pointer (some ⟨g2, 0, none⟩), .pointer (some ⟨g3, 0, none⟩)], .func (.func 102) #[] #[.pointer (some ⟨g2, 0, none⟩)], .nilFunc]) (blk_put (cs' := #[.func (.func 100) #[] #[.pointer (some ⟨g2, 0, none⟩), .pointer (some ⟨g3, 0, none⟩)], .func (.func 98) #[] #[.pointer (some ⟨g2, 0, none⟩), .pointer (some ⟨g3, 0, none⟩)], .nilFunc, .nilFunc]) (blk_put (cs' := #[.func (.func 100) #[] #[.pointer (some ⟨g2, 0, none⟩), .pointer (some ⟨g3, 0, none⟩)], .nilFunc, .nilFunc, .nilFunc]) ((Go.Deep.blk_setCell_other _ _ _ _ (by assumption)).trans (blk_below HXgr.out HBg5.out)) 0 _ rfl) 1 _ rfl) 2 _ rfl) 3 _ rfl)) Tryz.underlying71 rfl (by kernel_rfl)) rfl ?_
  have hlg2 : w.heap.size ≤ g2 := (by have := HGg2.out; omega)
  have hlg3 : w.heap.size ≤ g3 := (by have := HGg3.out; have := HBg2.out.size; omega)
  have hlgr : w.heap.size ≤ gr := (by have := HGgr.out; have := HBg2.out.size; have := HBg3.out.size; omega)
  have hlg5 : w.heap.size ≤ g5 := (by have := HGg5.out; have := HBg2.out.size; have := HBg3.out.size; have := HBgr.out.size; omega)
  refine ⟨_, rfl, ⟨g2, g3, g5, rfl, (by have := HGg2.out; omega), (by have := HGg3.out; have := HBg2.out.size; omega), (by have := HGg5.out; have := HBg2.out.size; have := HBg3.out.size; have := HBgr.out.size; omega), ((Go.Deep.blk_setCell_other _ _ _ _ (by assumption)).trans ((Go.Deep.blk_setCell_other _ _ _ _ (by assumption)).trans ((Go.Deep.blk_setCell_other _ _ _ _ (by assumption)).trans ((Go.Deep.blk_setCell_other _ _ _ _ (by assumption)).trans ((Go.Deep.blk_setCell_other _ _ _ _ (by assumption)).trans (blk_below (blk_below (blk_below HXg2.out HBg3.out) HBgr.out) HBg5.out)))))), ((Go.Deep.blk_setCell_other _ _ _ _ (by assumption)).trans ((Go.Deep.blk_setCell_other _ _ _ _ (by assumption)).trans ((Go.Deep.blk_setCell_other _ _ _ _ (by assumption)).trans ((Go.Deep.blk_setCell_other _ _ _ _ (by assumption)).trans ((Go.Deep.blk_setCell_other _ _ _ _ (by assumption)).trans (blk_below (blk_below HXg3.out HBgr.out) HBg5.out)))))), ((Go.Deep.blk_setCell_other _ _ _ _ (by assumption)).trans ((Go.Deep.blk_setCell_other _ _ _ _ (by assumption)).trans ((Go.Deep.blk_setCell_other _ _ _ _ (by assumption)).trans ((Go.Deep.blk_setCell_other _ _ _ _ (by assumption)).trans (blk_put HXg5.out 0 _ rfl)))))⟩, ?_⟩
  have hB := (below_step (below_step (below_step HBg2.out HBg3.out) HBgr.out) HBg5.out)
  exact (below_set (below_set (below_set (below_set (below_set hB hlg5) hlgr) hlgr) hlgr) hlgr)
set_option maxHeartbeats 3200000 in
theorem mk_id (w : World) (p : IP) (mark : UInt8) : Calls Tryz.prog 66 #[.int .u8 mark.toNat, .func (.func p.fn) #[] #[]] w fun e w' => ∃ v, e = .returned v ∧ FdAt w' w.heap.size (.id mark p) v ∧ Below w.heap.size w w' := by
  have hone : ∀ (fn : Fn) (a b : Array Value), (Value.func fn a b).oneCell' = true := fun _ _ _ => rfl
  go_enter Tryz.func66, Tryz.ntmps66
  go_wp2_with (first | ((with_reducible refine gate_dst (N := 2) rfl ?_); refine box_event ?hg (N := 2) ?hd (cs := #[.int .u8 mark.toNat]) (t := 5) ?hr ?_; (case hd => rfl); (case hg => rfl); (case hr => first | (go_simp; done) | (go_simp; rfl)); intro g2 hgb w1 hbox hbb; have HGg2 := Lib.hid (show w.heap.size ≤ g2 by rw [hgb]; exact Nat.le_refl _); have HXg2 := Lib.hid hbox; have HBg2 := Lib.hid hbb; clear hgb hbox hbb) | ((with_reducible refine gate_dst (N := 3) rfl ?_); refine box_event ?hg (N := 3) ?hd (cs := #[.func (.func p.fn) #[] #[]]) (t := 98) ?hr ?_; (case hd => rfl); (case hg => rfl); (case hr => first | (go_simp; done) | (go_simp; rfl)); intro g3 hgb w2 hbox hbb; have HGg3 := Lib.hid (show w1.heap.size ≤ g3 by rw [hgb]; exact Nat.le_refl _); have HXg3 := Lib.hid hbox; have HBg3 := Lib.hid hbb; clear hgb hbox hbb) | ((with_reducible refine gate_dst (N := 4) rfl ?_); refine box_event ?hg (N := 4) ?hd (cs := #[.nilFunc, .nilFunc, .nilFunc, .nilFunc]) (t := 71) ?hr ?_; (case hd => rfl); (case hg => rfl); (case hr => first | (go_simp; done) | (go_simp; rfl)); intro gr hgb w3 hbox hbb; have HGgr := Lib.hid (show w2.heap.size ≤ gr by rw [hgb]; exact Nat.le_refl _); have HXgr := Lib.hid hbox; have HBgr := Lib.hid hbb; clear hgb hbox hbb) | ((with_reducible refine gate_dst (N := 5) rfl ?_); refine box_event ?hg (N := 5) ?hd (cs := #[.nilFunc]) (t := 68) ?hr ?_; (case hd => rfl); (case hg => rfl); (case hr => first | (go_simp; done) | (go_simp; rfl)); intro g5 hgb w4 hbox hbb; have HGg5 := Lib.hid (show w3.heap.size ≤ g5 by rw [hgb]; exact Nat.le_refl _); have HXg5 := Lib.hid hbox; have HBg5 := Lib.hid hbb; have hn0 : g2 ≠ g3 := (by have := blk_lt HXg2.out; have := HGg3.out; omega); have hm0 : g3 ≠ g2 := fun e => hn0 e.symm; have hn1 : g2 ≠ gr := (by have := blk_lt HXg2.out; have := HGgr.out; have := HBg3.out.size; omega); have hm1 : gr ≠ g2 := fun e => hn1 e.symm; have hn2 : g2 ≠ g5 := (by have := blk_lt HXg2.out; have := HGg5.out; have := HBg3.out.size; have := HBgr.out.size; omega); have hm2 : g5 ≠ g2 := fun e => hn2 e.symm; have hn3 : g3 ≠ gr := (by have := blk_lt HXg3.out; have := HGgr.out; omega); have hm3 : gr ≠ g3 := fun e => hn3 e.symm; have hn4 : g3 ≠ g5 := (by have := blk_lt HXg3.out; have := HGg5.out; have := HBgr.out.size; omega); have hm4 : g5 ≠ g3 := fun e => hn4 e.symm; have hn5 : gr ≠ g5 := (by have := blk_lt HXgr.out; have := HGg5.out; omega); have hm5 : g5 ≠ gr := fun e => hn5 e.symm; have cgrq0 : w4.cell? ⟨gr, 0, none⟩ = some (.nilFunc) := (blk_cell (blk_below HXgr.out hbb) 0).trans rfl; have cgrz0 := blk_frozen (blk_below HXgr.out hbb) 0; have cgrq1 : w4.cell? ⟨gr, 1, none⟩ = some (.nilFunc) := (blk_cell (blk_below HXgr.out hbb) 1).trans rfl; have cgrz1 := blk_frozen (blk_below HXgr.out hbb) 1; have cgrq2 : w4.cell? ⟨gr, 2, none⟩ = some (.nilFunc) := (blk_cell (blk_below HXgr.out hbb) 2).trans rfl; have cgrz2 := blk_frozen (blk_below HXgr.out hbb) 2; have cgrq3 : w4.cell? ⟨gr, 3, none⟩ = some (.nilFunc) := (blk_cell (blk_below HXgr.out hbb) 3).trans rfl; have cgrz3 := blk_frozen (blk_below HXgr.out hbb) 3; have cg5q0 : w4.cell? ⟨g5, 0, none⟩ = some (.nilFunc) := (blk_cell hbox 0).trans rfl; have cg5z0 := blk_frozen hbox 0; clear hgb hbox hbb))
  refine bodyPost_ret (results_cell_row rfl _ _ gr 71 #[.func (.func 106) #[] #[.pointer (some ⟨g2, 0, none⟩), .pointer (some ⟨g3, 0, none⟩)], .func (.func 104) #[] #[.pointer (some ⟨g2, 0, none⟩), .pointer (some ⟨g3, 0, none⟩)], .func (.func 108) #[] #[.pointer (some ⟨g3, 0, none⟩)], .func (.func 109) #[] #[.pointer (some ⟨g2, 0, none⟩), .pointer (some ⟨g5, 0, none⟩)]] (0, 0) _ rfl (by exact (blk_put (cs' := #[.func (.func 106) #[] #[.pointer (some ⟨g2, 0, none⟩), .pointer (some ⟨g3, 0, none⟩)], .func (.func 104) #[] #[.pointer (some ⟨g2, 0, none⟩), .pointer (some ⟨g3, 0, none⟩)], .func (.func 108) #[] #[.pointer (some ⟨g3, 0, none⟩)], .func (.func 109) #[] #[.pointer (some ⟨g2, 0, none⟩), .pointer (some ⟨g5, 0, none⟩)]]) (blk_put (cs' := #[.func (.func 106) #[] #[.pointer (some ⟨g2, 0, none⟩), .pointer (some ⟨g3, 0, none⟩)], .func (.func 104) #[] #[.pointer (some ⟨g2, 0, none⟩), .pointer (some ⟨g3, 0, none⟩)], .func (.func 108) #[] #[.pointer (some ⟨g3, 0, none⟩)], .nilFunc]) (blk_put (cs' := #[.func (.func 106) #[] #[.pointer (some ⟨g2, 0, none⟩), .pointer (some ⟨g3, 0, none⟩)], .func (.func 104) #[] #[.pointer (some ⟨g2, 0, none⟩), .pointer (some ⟨g3, 0, none⟩)], .nilFunc, .nilFunc]) (blk_put (cs' := #[.func (.func 106) #[] #[.pointer (some ⟨g2, 0, none⟩), .pointer (some ⟨g3, 0, none⟩)], .nilFunc, .nilFunc, .nilFunc]) ((Go.Deep.blk_setCell_other _ _ _ _ (by assumption)).trans (blk_below HXgr.out HBg5.out)) 0 _ rfl) 1 _ rfl) 2 _ rfl) 3 _ rfl)) Tryz.underlying71 rfl (by kernel_rfl)) rfl ?_
  have hlg2 : w.heap.size ≤ g2 := (by have := HGg2.out; omega)
  have hlg3 : w.heap.size ≤ g3 := (by have := HGg3.out; have := HBg2.out.size; omega)
  have hlgr : w.heap.size ≤ gr := (by have := HGgr.out; have := HBg2.out.size; have := HBg3.out.size; omega)
  have hlg5 : w.heap.size ≤ g5 := (by have := HGg5.out; have := HBg2.out.size; have := HBg3.out.size; have := HBgr.out.size; omega)
  refine ⟨_, rfl, ⟨g2, g3, g5, rfl, (by have := HGg2.out; omega), (by have := HGg3.out; have := HBg2.out.size; omega), (by have := HGg5.out; have := HBg2.out.size; have := HBg3.out.size; have := HBgr.out.size; omega), ((Go.Deep.blk_setCell_other _ _ _ _ (by assumption)).trans ((Go.Deep.blk_setCell_other _ _ _ _ (by assumption)).trans ((Go.Deep.blk_setCell_other _ _ _ _ (by assumption)).trans ((Go.Deep.blk_setCell_other _ _ _ _ (by assumption)).trans ((Go.Deep.blk_setCell_other _ _ _ _ (by assumption)).trans (blk_below (blk_below (blk_below HXg2.out HBg3.out) HBgr.out) HBg5.out)))))), ((Go.Deep.blk_setCell_other _ _ _ _ (by assumption)).trans ((Go.Deep.blk_setCell_other _ _ _ _ (by assumption)).trans ((Go.Deep.blk_setCell_other _ _ _ _ (by assumption)).trans ((Go.Deep.blk_setCell_other _ _ _ _ (by assumption)).trans ((Go.Deep.blk_setCell_other _ _ _ _ (by assumption)).trans (blk_below (blk_below HXg3.out HBgr.out) HBg5.out)))))), ((Go.Deep.blk_setCell_other _ _ _ _ (by assumption)).trans ((Go.Deep.blk_setCell_other _ _ _ _ (by assumption)).trans ((Go.Deep.blk_setCell_other _ _ _ _ (by assumption)).trans ((Go.Deep.blk_setCell_other _ _ _ _ (by assumption)).trans (blk_put HXg5.out 0 _ rfl)))))⟩, ?_⟩
  have hB := (below_step (below_step (below_step HBg2.out HBg3.out) HBgr.out) HBg5.out)
  exact (below_set (below_set (below_set (below_set (below_set hB hlg5) hlgr) hlgr) hlgr) hlgr)
set_option maxHeartbeats 3200000 in
theorem mk_text (w : World) (least most : Int) : Calls Tryz.prog 68 #[.int .i64 least, .int .i64 most] w fun e w' => ∃ v, e = .returned v ∧ FdAt w' w.heap.size (.text least most) v ∧ Below w.heap.size w w' := by
  have hone : ∀ (fn : Fn) (a b : Array Value), (Value.func fn a b).oneCell' = true := fun _ _ _ => rfl
  go_enter Tryz.func68, Tryz.ntmps68
  go_wp2_with (first | ((with_reducible refine gate_dst (N := 2) rfl ?_); refine box_event ?hg (N := 2) ?hd (cs := #[.int .i64 least]) (t := 3) ?hr ?_; (case hd => rfl); (case hg => rfl); (case hr => first | (go_simp; done) | (go_simp; rfl)); intro g1 hgb w1 hbox hbb; have HGg1 := Lib.hid (show w.heap.size ≤ g1 by rw [hgb]; exact Nat.le_refl _); have HXg1 := Lib.hid hbox; have HBg1 := Lib.hid hbb; clear hgb hbox hbb) | ((with_reducible refine gate_dst (N := 3) rfl ?_); refine box_event ?hg (N := 3) ?hd (cs := #[.int .i64 most]) (t := 3) ?hr ?_; (case hd => rfl); (case hg => rfl); (case hr => first | (go_simp; done) | (go_simp; rfl)); intro g2 hgb w2 hbox hbb; have HGg2 := Lib.hid (show w1.heap.size ≤ g2 by rw [hgb]; exact Nat.le_refl _); have HXg2 := Lib.hid hbox; have HBg2 := Lib.hid hbb; clear hgb hbox hbb) | ((with_reducible refine gate_dst (N := 4) rfl ?_); refine box_event ?hg (N := 4) ?hd (cs := #[.nilFunc, .nilFunc, .nilFunc, .nilFunc]) (t := 71) ?hr ?_; (case hd => rfl); (case hg => rfl); (case hr => first | (go_simp; done) | (go_simp; rfl)); intro gr hgb w3 hbox hbb; have HGgr := Lib.hid (show w2.heap.size ≤ gr by rw [hgb]; exact Nat.le_refl _); have HXgr := Lib.hid hbox; have HBgr := Lib.hid hbb; have hn0 : g1 ≠ g2 := (by have := blk_lt HXg1.out; have := HGg2.out; omega); have hm0 : g2 ≠ g1 := fun e => hn0 e.symm; have hn1 : g1 ≠ gr := (by have := blk_lt HXg1.out; have := HGgr.out; have := HBg2.out.size; omega); have hm1 : gr ≠ g1 := fun e => hn1 e.symm; have hn2 : g2 ≠ gr := (by have := blk_lt HXg2.out; have := HGgr.out; omega); have hm2 : gr ≠ g2 := fun e => hn2 e.symm; have cgrq0 : w3.cell? ⟨gr, 0, none⟩ = some (.nilFunc) := (blk_cell hbox 0).trans rfl; have cgrz0 := blk_frozen hbox 0; have cgrq1 : w3.cell? ⟨gr, 1, none⟩ = some (.nilFunc) := (blk_cell hbox 1).trans rfl; have cgrz1 := blk_frozen hbox 1; have cgrq2 : w3.cell? ⟨gr, 2, none⟩ = some (.nilFunc) := (blk_cell hbox 2).trans rfl; have cgrz2 := blk_frozen hbox 2; have cgrq3 : w3.cell? ⟨gr, 3, none⟩ = some (.nilFunc) := (blk_cell hbox 3).trans rfl; have cgrz3 := blk_frozen hbox 3; clear hgb hbox hbb))
  refine bodyPost_ret (results_cell_row rfl _ _ gr 71 #[.func (.func 110) #[] #[.pointer (some ⟨g1, 0, none⟩), .pointer (some ⟨g2, 0, none⟩)], .func (.func 111) #[] #[.pointer (some ⟨g1, 0, none⟩), .pointer (some ⟨g2, 0, none⟩)], .func (.func 112) #[] #[], .func (.func 113) #[] #[.pointer (some ⟨g2, 0, none⟩)]] (0, 0) _ rfl (by exact (blk_put (cs' := #[.func (.func 110) #[] #[.pointer (some ⟨g1, 0, none⟩), .pointer (some ⟨g2, 0, none⟩)], .func (.func 111) #[] #[.pointer (some ⟨g1, 0, none⟩), .pointer (some ⟨g2, 0, none⟩)], .func (.func 112) #[] #[], .func (.func 113) #[] #[.pointer (some ⟨g2, 0, none⟩)]]) (blk_put (cs' := #[.func (.func 110) #[] #[.pointer (some ⟨g1, 0, none⟩), .pointer (some ⟨g2, 0, none⟩)], .func (.func 111) #[] #[.pointer (some ⟨g1, 0, none⟩), .pointer (some ⟨g2, 0, none⟩)], .func (.func 112) #[] #[], .nilFunc]) (blk_put (cs' := #[.func (.func 110) #[] #[.pointer (some ⟨g1, 0, none⟩), .pointer (some ⟨g2, 0, none⟩)], .func (.func 111) #[] #[.pointer (some ⟨g1, 0, none⟩), .pointer (some ⟨g2, 0, none⟩)], .nilFunc, .nilFunc]) (blk_put (cs' := #[.func (.func 110) #[] #[.pointer (some ⟨g1, 0, none⟩), .pointer (some ⟨g2, 0, none⟩)], .nilFunc, .nilFunc, .nilFunc]) HXgr.out 0 _ rfl) 1 _ rfl) 2 _ rfl) 3 _ rfl)) Tryz.underlying71 rfl (by kernel_rfl)) rfl ?_
  have hlg1 : w.heap.size ≤ g1 := (by have := HGg1.out; omega)
  have hlg2 : w.heap.size ≤ g2 := (by have := HGg2.out; have := HBg1.out.size; omega)
  have hlgr : w.heap.size ≤ gr := (by have := HGgr.out; have := HBg1.out.size; have := HBg2.out.size; omega)
  refine ⟨_, rfl, ⟨g1, g2, rfl, (by have := HGg1.out; omega), (by have := HGg2.out; have := HBg1.out.size; omega), ((Go.Deep.blk_setCell_other _ _ _ _ (by assumption)).trans ((Go.Deep.blk_setCell_other _ _ _ _ (by assumption)).trans ((Go.Deep.blk_setCell_other _ _ _ _ (by assumption)).trans ((Go.Deep.blk_setCell_other _ _ _ _ (by assumption)).trans (blk_below (blk_below HXg1.out HBg2.out) HBgr.out))))), ((Go.Deep.blk_setCell_other _ _ _ _ (by assumption)).trans ((Go.Deep.blk_setCell_other _ _ _ _ (by assumption)).trans ((Go.Deep.blk_setCell_other _ _ _ _ (by assumption)).trans ((Go.Deep.blk_setCell_other _ _ _ _ (by assumption)).trans (blk_below HXg2.out HBgr.out)))))⟩, ?_⟩
  have hB := (below_step (below_step HBg1.out HBg2.out) HBgr.out)
  exact (below_set (below_set (below_set (below_set hB hlgr) hlgr) hlgr) hlgr)
set_option maxHeartbeats 3200000 in
theorem mk_name_true (w : World)  : Calls Tryz.prog 71 #[.bool true] w fun e w' => ∃ v, e = .returned v ∧ FdAt w' w.heap.size (.name true) v ∧ Below w.heap.size w w' := by
  have hone : ∀ (fn : Fn) (a b : Array Value), (Value.func fn a b).oneCell' = true := fun _ _ _ => rfl
  go_enter Tryz.func71, Tryz.ntmps71
  go_wp2_with (first | ((with_reducible refine gate_dst (N := 2) rfl ?_); refine box_event ?hg (N := 2) ?hd (cs := #[.nilFunc, .nilFunc, .nilFunc, .nilFunc]) (t := 71) ?hr ?_; (case hd => rfl); (case hg => rfl); (case hr => first | (go_simp; done) | (go_simp; rfl)); intro gr hgb w1 hbox hbb; have HGgr := Lib.hid (show w.heap.size ≤ gr by rw [hgb]; exact Nat.le_refl _); have HXgr := Lib.hid hbox; have HBgr := Lib.hid hbb; clear hgb hbox hbb) | ((with_reducible refine gate_dst (N := 3) rfl ?_); refine box_event ?hg (N := 3) ?hd (cs := #[.nilFunc]) (t := 30) ?hr ?_; (case hd => rfl); (case hg => rfl); (case hr => first | (go_simp; done) | (go_simp; rfl)); intro g1 hgb w2 hbox hbb; have HGg1 := Lib.hid (show w1.heap.size ≤ g1 by rw [hgb]; exact Nat.le_refl _); have HXg1 := Lib.hid hbox; have HBg1 := Lib.hid hbb; have hn0 : gr ≠ g1 := (by have := blk_lt HXgr.out; have := HGg1.out; omega); have hm0 : g1 ≠ gr := fun e => hn0 e.symm; have cgrq0 : w2.cell? ⟨gr, 0, none⟩ = some (.nilFunc) := (blk_cell (blk_below HXgr.out hbb) 0).trans rfl; have cgrz0 := blk_frozen (blk_below HXgr.out hbb) 0; have cgrq1 : w2.cell? ⟨gr, 1, none⟩ = some (.nilFunc) := (blk_cell (blk_below HXgr.out hbb) 1).trans rfl; have cgrz1 := blk_frozen (blk_below HXgr.out hbb) 1; have cgrq2 : w2.cell? ⟨gr, 2, none⟩ = some (.nilFunc) := (blk_cell (blk_below HXgr.out hbb) 2).trans rfl; have cgrz2 := blk_frozen (blk_below HXgr.out hbb) 2; have cgrq3 : w2.cell? ⟨gr, 3, none⟩ = some (.nilFunc) := (blk_cell (blk_below HXgr.out hbb) 3).trans rfl; have cgrz3 := blk_frozen (blk_below HXgr.out hbb) 3; have cg1q0 : w2.cell? ⟨g1, 0, none⟩ = some (.nilFunc) := (blk_cell hbox 0).trans rfl; have cg1z0 := blk_frozen hbox 0; clear hgb hbox hbb))
  refine bodyPost_ret (results_cell_row rfl _ _ gr 71 #[.func (.func 117) #[] #[.pointer (some ⟨g1, 0, none⟩)], .func (.func 118) #[] #[.pointer (some ⟨g1, 0, none⟩)], .func (.func 119) #[] #[], .func (.func 120) #[] #[.pointer (some ⟨g1, 0, none⟩)]] (0, 0) _ rfl (by exact (blk_put (cs' := #[.func (.func 117) #[] #[.pointer (some ⟨g1, 0, none⟩)], .func (.func 118) #[] #[.pointer (some ⟨g1, 0, none⟩)], .func (.func 119) #[] #[], .func (.func 120) #[] #[.pointer (some ⟨g1, 0, none⟩)]]) (blk_put (cs' := #[.func (.func 117) #[] #[.pointer (some ⟨g1, 0, none⟩)], .func (.func 118) #[] #[.pointer (some ⟨g1, 0, none⟩)], .func (.func 119) #[] #[], .nilFunc]) (blk_put (cs' := #[.func (.func 117) #[] #[.pointer (some ⟨g1, 0, none⟩)], .func (.func 118) #[] #[.pointer (some ⟨g1, 0, none⟩)], .nilFunc, .nilFunc]) (blk_put (cs' := #[.func (.func 117) #[] #[.pointer (some ⟨g1, 0, none⟩)], .nilFunc, .nilFunc, .nilFunc]) ((Go.Deep.blk_setCell_other _ _ _ _ (by assumption)).trans ((Go.Deep.blk_setCell_other _ _ _ _ (by assumption)).trans (blk_below HXgr.out HBg1.out))) 0 _ rfl) 1 _ rfl) 2 _ rfl) 3 _ rfl)) Tryz.underlying71 rfl (by kernel_rfl)) rfl ?_
  have hlgr : w.heap.size ≤ gr := (by have := HGgr.out; omega)
  have hlg1 : w.heap.size ≤ g1 := (by have := HGg1.out; have := HBgr.out.size; omega)
  refine ⟨_, rfl, ⟨g1, rfl, (by have := HGg1.out; have := HBgr.out.size; omega), ((Go.Deep.blk_setCell_other _ _ _ _ (by assumption)).trans ((Go.Deep.blk_setCell_other _ _ _ _ (by assumption)).trans ((Go.Deep.blk_setCell_other _ _ _ _ (by assumption)).trans ((Go.Deep.blk_setCell_other _ _ _ _ (by assumption)).trans (blk_put (blk_put HXg1.out 0 _ rfl) 0 _ rfl)))))⟩, ?_⟩
  have hB := (below_step HBgr.out HBg1.out)
  exact (below_set (below_set (below_set (below_set (below_set (below_set hB hlg1) hlg1) hlgr) hlgr) hlgr) hlgr)
set_option maxHeartbeats 3200000 in
theorem mk_name_false (w : World)  : Calls Tryz.prog 71 #[.bool false] w fun e w' => ∃ v, e = .returned v ∧ FdAt w' w.heap.size (.name false) v ∧ Below w.heap.size w w' := by
  have hone : ∀ (fn : Fn) (a b : Array Value), (Value.func fn a b).oneCell' = true := fun _ _ _ => rfl
  go_enter Tryz.func71, Tryz.ntmps71
  go_wp2_with (first | ((with_reducible refine gate_dst (N := 2) rfl ?_); refine box_event ?hg (N := 2) ?hd (cs := #[.nilFunc, .nilFunc, .nilFunc, .nilFunc]) (t := 71) ?hr ?_; (case hd => rfl); (case hg => rfl); (case hr => first | (go_simp; done) | (go_simp; rfl)); intro gr hgb w1 hbox hbb; have HGgr := Lib.hid (show w.heap.size ≤ gr by rw [hgb]; exact Nat.le_refl _); have HXgr := Lib.hid hbox; have HBgr := Lib.hid hbb; clear hgb hbox hbb) | ((with_reducible refine gate_dst (N := 3) rfl ?_); refine box_event ?hg (N := 3) ?hd (cs := #[.nilFunc]) (t := 30) ?hr ?_; (case hd => rfl); (case hg => rfl); (case hr => first | (go_simp; done) | (go_simp; rfl)); intro g1 hgb w2 hbox hbb; have HGg1 := Lib.hid (show w1.heap.size ≤ g1 by rw [hgb]; exact Nat.le_refl _); have HXg1 := Lib.hid hbox; have HBg1 := Lib.hid hbb; have hn0 : gr ≠ g1 := (by have := blk_lt HXgr.out; have := HGg1.out; omega); have hm0 : g1 ≠ gr := fun e => hn0 e.symm; have cgrq0 : w2.cell? ⟨gr, 0, none⟩ = some (.nilFunc) := (blk_cell (blk_below HXgr.out hbb) 0).trans rfl; have cgrz0 := blk_frozen (blk_below HXgr.out hbb) 0; have cgrq1 : w2.cell? ⟨gr, 1, none⟩ = some (.nilFunc) := (blk_cell (blk_below HXgr.out hbb) 1).trans rfl; have cgrz1 := blk_frozen (blk_below HXgr.out hbb) 1; have cgrq2 : w2.cell? ⟨gr, 2, none⟩ = some (.nilFunc) := (blk_cell (blk_below HXgr.out hbb) 2).trans rfl; have cgrz2 := blk_frozen (blk_below HXgr.out hbb) 2; have cgrq3 : w2.cell? ⟨gr, 3, none⟩ = some (.nilFunc) := (blk_cell (blk_below HXgr.out hbb) 3).trans rfl; have cgrz3 := blk_frozen (blk_below HXgr.out hbb) 3; have cg1q0 : w2.cell? ⟨g1, 0, none⟩ = some (.nilFunc) := (blk_cell hbox 0).trans rfl; have cg1z0 := blk_frozen hbox 0; clear hgb hbox hbb))
  refine bodyPost_ret (results_cell_row rfl _ _ gr 71 #[.func (.func 117) #[] #[.pointer (some ⟨g1, 0, none⟩)], .func (.func 118) #[] #[.pointer (some ⟨g1, 0, none⟩)], .func (.func 119) #[] #[], .func (.func 120) #[] #[.pointer (some ⟨g1, 0, none⟩)]] (0, 0) _ rfl (by exact (blk_put (cs' := #[.func (.func 117) #[] #[.pointer (some ⟨g1, 0, none⟩)], .func (.func 118) #[] #[.pointer (some ⟨g1, 0, none⟩)], .func (.func 119) #[] #[], .func (.func 120) #[] #[.pointer (some ⟨g1, 0, none⟩)]]) (blk_put (cs' := #[.func (.func 117) #[] #[.pointer (some ⟨g1, 0, none⟩)], .func (.func 118) #[] #[.pointer (some ⟨g1, 0, none⟩)], .func (.func 119) #[] #[], .nilFunc]) (blk_put (cs' := #[.func (.func 117) #[] #[.pointer (some ⟨g1, 0, none⟩)], .func (.func 118) #[] #[.pointer (some ⟨g1, 0, none⟩)], .nilFunc, .nilFunc]) (blk_put (cs' := #[.func (.func 117) #[] #[.pointer (some ⟨g1, 0, none⟩)], .nilFunc, .nilFunc, .nilFunc]) ((Go.Deep.blk_setCell_other _ _ _ _ (by assumption)).trans (blk_below HXgr.out HBg1.out)) 0 _ rfl) 1 _ rfl) 2 _ rfl) 3 _ rfl)) Tryz.underlying71 rfl (by kernel_rfl)) rfl ?_
  have hlgr : w.heap.size ≤ gr := (by have := HGgr.out; omega)
  have hlg1 : w.heap.size ≤ g1 := (by have := HGg1.out; have := HBgr.out.size; omega)
  refine ⟨_, rfl, ⟨g1, rfl, (by have := HGg1.out; have := HBgr.out.size; omega), ((Go.Deep.blk_setCell_other _ _ _ _ (by assumption)).trans ((Go.Deep.blk_setCell_other _ _ _ _ (by assumption)).trans ((Go.Deep.blk_setCell_other _ _ _ _ (by assumption)).trans ((Go.Deep.blk_setCell_other _ _ _ _ (by assumption)).trans (blk_put HXg1.out 0 _ rfl)))))⟩, ?_⟩
  have hB := (below_step HBgr.out HBg1.out)
  exact (below_set (below_set (below_set (below_set (below_set hB hlg1) hlgr) hlgr) hlgr) hlgr)
set_option maxHeartbeats 3200000 in
theorem mk_plan (w : World) (vis : Bool) : Calls Tryz.prog 72 #[.func (.func (planF vis)) #[] #[]] w fun e w' => ∃ v, e = .returned v ∧ FdAt w' w.heap.size (.plan vis) v ∧ Below w.heap.size w w' := by
  have hone : ∀ (fn : Fn) (a b : Array Value), (Value.func fn a b).oneCell' = true := fun _ _ _ => rfl
  go_enter Tryz.func72, Tryz.ntmps72
  go_wp2_with (first | ((with_reducible refine gate_dst (N := 1) rfl ?_); refine box_event ?hg (N := 1) ?hd (cs := #[.func (.func (planF vis)) #[] #[]]) (t := 104) ?hr ?_; (case hd => rfl); (case hg => rfl); (case hr => first | (go_simp; done) | (go_simp; rfl)); intro g1 hgb w1 hbox hbb; have HGg1 := Lib.hid (show w.heap.size ≤ g1 by rw [hgb]; exact Nat.le_refl _); have HXg1 := Lib.hid hbox; have HBg1 := Lib.hid hbb; clear hgb hbox hbb) | ((with_reducible refine gate_dst (N := 2) rfl ?_); refine box_event ?hg (N := 2) ?hd (cs := #[.nilFunc, .nilFunc, .nilFunc, .nilFunc]) (t := 71) ?hr ?_; (case hd => rfl); (case hg => rfl); (case hr => first | (go_simp; done) | (go_simp; rfl)); intro gr hgb w2 hbox hbb; have HGgr := Lib.hid (show w1.heap.size ≤ gr by rw [hgb]; exact Nat.le_refl _); have HXgr := Lib.hid hbox; have HBgr := Lib.hid hbb; have hn0 : g1 ≠ gr := (by have := blk_lt HXg1.out; have := HGgr.out; omega); have hm0 : gr ≠ g1 := fun e => hn0 e.symm; have cgrq0 : w2.cell? ⟨gr, 0, none⟩ = some (.nilFunc) := (blk_cell hbox 0).trans rfl; have cgrz0 := blk_frozen hbox 0; have cgrq1 : w2.cell? ⟨gr, 1, none⟩ = some (.nilFunc) := (blk_cell hbox 1).trans rfl; have cgrz1 := blk_frozen hbox 1; have cgrq2 : w2.cell? ⟨gr, 2, none⟩ = some (.nilFunc) := (blk_cell hbox 2).trans rfl; have cgrz2 := blk_frozen hbox 2; have cgrq3 : w2.cell? ⟨gr, 3, none⟩ = some (.nilFunc) := (blk_cell hbox 3).trans rfl; have cgrz3 := blk_frozen hbox 3; clear hgb hbox hbb))
  refine bodyPost_ret (results_cell_row rfl _ _ gr 71 #[.func (.func 121) #[] #[.pointer (some ⟨g1, 0, none⟩)], .func (.func 123) #[] #[.pointer (some ⟨g1, 0, none⟩)], .func (.func 124) #[] #[.pointer (some ⟨g1, 0, none⟩)], .func (.func 122) #[] #[]] (0, 0) _ rfl (by exact (blk_put (cs' := #[.func (.func 121) #[] #[.pointer (some ⟨g1, 0, none⟩)], .func (.func 123) #[] #[.pointer (some ⟨g1, 0, none⟩)], .func (.func 124) #[] #[.pointer (some ⟨g1, 0, none⟩)], .func (.func 122) #[] #[]]) (blk_put (cs' := #[.func (.func 121) #[] #[.pointer (some ⟨g1, 0, none⟩)], .func (.func 123) #[] #[.pointer (some ⟨g1, 0, none⟩)], .func (.func 124) #[] #[.pointer (some ⟨g1, 0, none⟩)], .nilFunc]) (blk_put (cs' := #[.func (.func 121) #[] #[.pointer (some ⟨g1, 0, none⟩)], .func (.func 123) #[] #[.pointer (some ⟨g1, 0, none⟩)], .nilFunc, .nilFunc]) (blk_put (cs' := #[.func (.func 121) #[] #[.pointer (some ⟨g1, 0, none⟩)], .nilFunc, .nilFunc, .nilFunc]) HXgr.out 0 _ rfl) 1 _ rfl) 2 _ rfl) 3 _ rfl)) Tryz.underlying71 rfl (by kernel_rfl)) rfl ?_
  have hlg1 : w.heap.size ≤ g1 := (by have := HGg1.out; omega)
  have hlgr : w.heap.size ≤ gr := (by have := HGgr.out; have := HBg1.out.size; omega)
  refine ⟨_, rfl, ⟨g1, rfl, (by have := HGg1.out; omega), ((Go.Deep.blk_setCell_other _ _ _ _ (by assumption)).trans ((Go.Deep.blk_setCell_other _ _ _ _ (by assumption)).trans ((Go.Deep.blk_setCell_other _ _ _ _ (by assumption)).trans ((Go.Deep.blk_setCell_other _ _ _ _ (by assumption)).trans (blk_below HXg1.out HBgr.out)))))⟩, ?_⟩
  have hB := (below_step HBg1.out HBgr.out)
  exact (below_set (below_set (below_set (below_set hB hlgr) hlgr) hlgr) hlgr)
set_option maxHeartbeats 3200000 in
theorem mk_zoom (w : World)  : Calls Tryz.prog 75 #[] w fun e w' => ∃ v, e = .returned v ∧ FdAt w' w.heap.size (.zoom) v ∧ Below w.heap.size w w' := by
  have hone : ∀ (fn : Fn) (a b : Array Value), (Value.func fn a b).oneCell' = true := fun _ _ _ => rfl
  go_enter Tryz.func75, Tryz.ntmps75
  go_wp2_with (first | ((with_reducible refine gate_dst (N := 0) rfl ?_); refine box_event ?hg (N := 0) ?hd (cs := #[.nilFunc, .nilFunc, .nilFunc, .nilFunc]) (t := 71) ?hr ?_; (case hd => rfl); (case hg => rfl); (case hr => first | (go_simp; done) | (go_simp; rfl)); intro gr hgb w1 hbox hbb; have HGgr := Lib.hid (show w.heap.size ≤ gr by rw [hgb]; exact Nat.le_refl _); have HXgr := Lib.hid hbox; have HBgr := Lib.hid hbb; have cgrq0 : w1.cell? ⟨gr, 0, none⟩ = some (.nilFunc) := (blk_cell hbox 0).trans rfl; have cgrz0 := blk_frozen hbox 0; have cgrq1 : w1.cell? ⟨gr, 1, none⟩ = some (.nilFunc) := (blk_cell hbox 1).trans rfl; have cgrz1 := blk_frozen hbox 1; have cgrq2 : w1.cell? ⟨gr, 2, none⟩ = some (.nilFunc) := (blk_cell hbox 2).trans rfl; have cgrz2 := blk_frozen hbox 2; have cgrq3 : w1.cell? ⟨gr, 3, none⟩ = some (.nilFunc) := (blk_cell hbox 3).trans rfl; have cgrz3 := blk_frozen hbox 3; clear hgb hbox hbb))
  refine bodyPost_ret (results_cell_row rfl _ _ gr 71 #[.func (.func 125) #[] #[], .func (.func 126) #[] #[], .func (.func 127) #[] #[], .func (.func 128) #[] #[]] (0, 0) _ rfl (by exact (blk_put (cs' := #[.func (.func 125) #[] #[], .func (.func 126) #[] #[], .func (.func 127) #[] #[], .func (.func 128) #[] #[]]) (blk_put (cs' := #[.func (.func 125) #[] #[], .func (.func 126) #[] #[], .func (.func 127) #[] #[], .nilFunc]) (blk_put (cs' := #[.func (.func 125) #[] #[], .func (.func 126) #[] #[], .nilFunc, .nilFunc]) (blk_put (cs' := #[.func (.func 125) #[] #[], .nilFunc, .nilFunc, .nilFunc]) HXgr.out 0 _ rfl) 1 _ rfl) 2 _ rfl) 3 _ rfl)) Tryz.underlying71 rfl (by kernel_rfl)) rfl ?_
  have hlgr : w.heap.size ≤ gr := (by have := HGgr.out; omega)
  refine ⟨_, rfl, rfl, ?_⟩
  have hB := HBgr.out
  exact (below_set (below_set (below_set (below_set hB hlgr) hlgr) hlgr) hlgr)
set_option maxHeartbeats 3200000 in
theorem mk_colon (w : World)  : Calls Tryz.prog 78 #[] w fun e w' => ∃ v, e = .returned v ∧ FdAt w' w.heap.size (.colon) v ∧ Below w.heap.size w w' := by
  have hone : ∀ (fn : Fn) (a b : Array Value), (Value.func fn a b).oneCell' = true := fun _ _ _ => rfl
  go_enter Tryz.func78, Tryz.ntmps78
  go_wp2_with (first | ((with_reducible refine gate_dst (N := 0) rfl ?_); refine box_event ?hg (N := 0) ?hd (cs := #[.nilFunc, .nilFunc, .nilFunc, .nilFunc]) (t := 71) ?hr ?_; (case hd => rfl); (case hg => rfl); (case hr => first | (go_simp; done) | (go_simp; rfl)); intro gr hgb w1 hbox hbb; have HGgr := Lib.hid (show w.heap.size ≤ gr by rw [hgb]; exact Nat.le_refl _); have HXgr := Lib.hid hbox; have HBgr := Lib.hid hbb; have cgrq0 : w1.cell? ⟨gr, 0, none⟩ = some (.nilFunc) := (blk_cell hbox 0).trans rfl; have cgrz0 := blk_frozen hbox 0; have cgrq1 : w1.cell? ⟨gr, 1, none⟩ = some (.nilFunc) := (blk_cell hbox 1).trans rfl; have cgrz1 := blk_frozen hbox 1; have cgrq2 : w1.cell? ⟨gr, 2, none⟩ = some (.nilFunc) := (blk_cell hbox 2).trans rfl; have cgrz2 := blk_frozen hbox 2; have cgrq3 : w1.cell? ⟨gr, 3, none⟩ = some (.nilFunc) := (blk_cell hbox 3).trans rfl; have cgrz3 := blk_frozen hbox 3; clear hgb hbox hbb))
  refine bodyPost_ret (results_cell_row rfl _ _ gr 71 #[.func (.func 129) #[] #[], .func (.func 130) #[] #[], .func (.func 131) #[] #[], .func (.func 132) #[] #[]] (0, 0) _ rfl (by exact (blk_put (cs' := #[.func (.func 129) #[] #[], .func (.func 130) #[] #[], .func (.func 131) #[] #[], .func (.func 132) #[] #[]]) (blk_put (cs' := #[.func (.func 129) #[] #[], .func (.func 130) #[] #[], .func (.func 131) #[] #[], .nilFunc]) (blk_put (cs' := #[.func (.func 129) #[] #[], .func (.func 130) #[] #[], .nilFunc, .nilFunc]) (blk_put (cs' := #[.func (.func 129) #[] #[], .nilFunc, .nilFunc, .nilFunc]) HXgr.out 0 _ rfl) 1 _ rfl) 2 _ rfl) 3 _ rfl)) Tryz.underlying71 rfl (by kernel_rfl)) rfl ?_
  have hlgr : w.heap.size ≤ gr := (by have := HGgr.out; omega)
  refine ⟨_, rfl, rfl, ?_⟩
  have hB := HBgr.out
  exact (below_set (below_set (below_set (below_set hB hlgr) hlgr) hlgr) hlgr)
end Go.Proofs.YtnblabfkkcohgaaGreatDoor.Wire
end
section
/- A field's four functions as one contract. -/
namespace Go.Proofs.YtnblabfkkcohgaaGreatDoor.Wire
set_option linter.unusedVariables false
set_option linter.unusedSimpArgs false
open Go Go.Shelf Go.RowKit Go.Proofs.YtnblabfkkcohgaaGreatDoor.Given Go.Proofs.YtnblabfkkcohgaaGreatDoorW.PrintWords Go.Proofs.YtnblabfkkcohgaaGreatDoorW.PrintLast

def NP.get : NP → Evt → Int
  | .tick, e => e.tick
  | .number, e => e.number
  | .flag, e => e.flag
  | .offset, e => e.offset
  | .index, e => e.index
def NP.set : NP → Evt → Int → Evt
  | .tick, e, v => { e with tick := v }
  | .number, e, v => { e with number := v }
  | .flag, e, v => { e with flag := v }
  | .offset, e, v => { e with offset := v }
  | .index, e, v => { e with index := v }
def IP.get : IP → Evt → Int
  | .pane, e => e.pane
  | .window, e => e.window
  | .session, e => e.session
def IP.set : IP → Evt → Int → Evt
  | .pane, e, v => { e with pane := v }
  | .window, e, v => { e with window := v }
  | .session, e, v => { e with session := v }
/-- What a field writes of an event, and whether it may. -/
def Fd.put : Fd → Evt → ByteArray × Bool
  | .num p most, e => (ofL (putNumN (p.get e)), decide (0 ≤ p.get e) && decide (p.get e ≤ most))
  | .id m p, e => (ofL (putIdN m (p.get e)), !(ofL (putIdN m (p.get e))).toList.isEmpty)
  | .name b, e => (e.name, mayN b e.name.data.toList)
  | .text least most, e => (ofL (escL e.text.data.toList), decide (least ≤ (e.text.size : Int)) && decide ((e.text.size : Int) ≤ most))
  | .plan false, e => (e.layout, !e.layout.toList.isEmpty && planN e.layout.data.toList)
  | .plan true, e => (e.visible, !e.visible.toList.isEmpty && planN e.visible.data.toList)
  | .zoom, e => (ofL (if e.zoom then [90] else [45]), true)
  | .colon, _ => (ofL [58], true)
/-- What a field reads into an event, and whether it was one. -/
def Fd.get : Fd → Evt → ByteArray → Evt × Bool
  | .num p most, e, s => (p.set e (numR s.data.toList).1, (numR s.data.toList).2 && decide ((numR s.data.toList).1 ≤ most))
  | .id m p, e, s => (p.set e (idR m s.data.toList).1, (idR m s.data.toList).2)
  | .name b, e, s => ({ e with name := s }, mayN b s.data.toList)
  | .text least most, e, s => ({ e with text := ofL (unescR s.data.toList).1 }, ((unescR s.data.toList).2 == 0) && (decide (least ≤ ((unescR s.data.toList).1.length : Int)) && decide (((unescR s.data.toList).1.length : Int) ≤ most)))
  | .plan false, e, s => ({ e with layout := s }, !s.toList.isEmpty && planN s.data.toList)
  | .plan true, e, s => ({ e with visible := s }, !s.toList.isEmpty && planN s.data.toList)
  | .zoom, e, s => ({ e with zoom := (s.toList == [90]) }, (s.toList == [90]) || (s.toList == [45]))
  | .colon, e, s => (e, s.toList == [58])
/-- What a field keeps of an event. -/
def Fd.keep : Fd → Evt → Evt → Evt
  | .num p _, t, f => p.set t (p.get f)
  | .id _ p, t, f => p.set t (p.get f)
  | .name _, t, f => { t with name := f.name }
  | .text _ _, t, f => { t with text := f.text }
  | .plan false, t, f => { t with layout := f.layout }
  | .plan true, t, f => { t with visible := f.visible }
  | .zoom, t, f => { t with zoom := f.zoom }
  | .colon, t, _ => t
/-- The sizes of an event's texts are within the bounds. -/
structure EvSz (e : Evt) : Prop where
  name : e.name.size ≤ 1099511627776
  text : e.text.size ≤ 1099511627776
  layout : e.layout.size ≤ 1099511627776
  visible : e.visible.size ≤ 1099511627776
/-- What lay from block lo on lies there still. -/
def Kp (lo : Nat) (w w' : World) : Prop := ∀ k o, lo ≤ k → w.heap[k]? = some o → w'.heap[k]? = some o
theorem Kp.refl (lo : Nat) (w : World) : Kp lo w w := fun _ _ _ h => h
theorem Kp.trans {lo : Nat} {a b c : World} (h : Kp lo a b) (k : Kp lo b c) : Kp lo a c := fun i o hi ho => k i o hi (h i o hi ho)
theorem Kp.of {lo : Nat} {w w' : World} (h : Below w.heap.size w w') : Kp lo w w' := fun k o _ hk => blk_below hk h
theorem Kp.bg {lo g : Nat} {w w' : World} (h : Bg w w' g) (hg : g < lo) : Kp lo w w' := fun k o hk ho => h.blk ho (by omega)
theorem FdAt.kp {w w' : World} {lo : Nat} {fd : Fd} {v : Value} (h : FdAt w lo fd v) (hb : Kp lo w w') : FdAt w' lo fd v := by
  cases fd with
  | num p most => obtain ⟨g2, g3, g5, a, b, c, d, e, f, g⟩ := h; exact ⟨g2, g3, g5, a, b, c, d, hb _ _ b e, hb _ _ c f, hb _ _ d g⟩
  | id mark p => obtain ⟨g2, g3, g5, a, b, c, d, e, f, g⟩ := h; exact ⟨g2, g3, g5, a, b, c, d, hb _ _ b e, hb _ _ c f, hb _ _ d g⟩
  | name b => obtain ⟨g1, a, b, c⟩ := h; exact ⟨g1, a, b, hb _ _ b c⟩
  | text least most => obtain ⟨g1, g2, a, b, c, d, e⟩ := h; exact ⟨g1, g2, a, b, c, hb _ _ b d, hb _ _ c e⟩
  | plan vis => obtain ⟨g1, a, b, c⟩ := h; exact ⟨g1, a, b, hb _ _ b c⟩
  | zoom => exact h
  | colon => exact h
/-- A field's functions and what they capture. -/
structure FdCode (w : World) (lo : Nat) (fd : Fd) (v : Value) (kp : Nat) (cp : Array Value) (kg : Nat) (cg : Array Value) (kk : Nat) (ck : Array Value) (kb : Nat) (cb : Array Value) : Prop where
  val : v = .agg #[.func (.func kp) #[] cp, .func (.func kg) #[] cg, .func (.func kk) #[] ck, .func (.func kb) #[] cb]
  put : ∀ w', Kp lo w w' → LaidW w' → ∀ ge ev, EvAt w' ge ev → EvSz ev → Calls Tryz.prog kp (#[.pointer (some ⟨ge, 0, none⟩)] ++ cp) w' fun e w2 => e = .returned (.tuple #[.string (fd.put ev).1, .bool (fd.put ev).2]) ∧ Below w'.heap.size w' w2
  get : ∀ w', Kp lo w w' → LaidW w' → ∀ ge ev s, EvAt w' ge ev → (ge < lo ∨ w.heap.size ≤ ge) → s.size ≤ 1099511627776 → Calls Tryz.prog kg (#[.pointer (some ⟨ge, 0, none⟩), .string s] ++ cg) w' fun e w2 => e = .returned (.bool (fd.get ev s).2) ∧ EvAt w2 ge (fd.get ev s).1 ∧ Bg w' w2 ge
  keep : ∀ w', Kp lo w w' → ∀ gt gf et ef, EvAt w' gt et → EvAt w' gf ef → Calls Tryz.prog kk (#[.pointer (some ⟨gt, 0, none⟩), .pointer (some ⟨gf, 0, none⟩)] ++ ck) w' fun e w2 => e = .returned (.tuple #[]) ∧ EvAt w2 gt (fd.keep et ef) ∧ Bg w' w2 gt
theorem ne_of {lo g ge : Nat} {w : World} {o : Obj} (h : lo ≤ g) (hg : w.heap[g]? = some o) (hn : ge < lo ∨ w.heap.size ≤ ge) : g ≠ ge := by
  have := blk_lt hg
  omega
set_option maxHeartbeats 1600000 in
theorem FdAt.code {w : World} {lo : Nat} {fd : Fd} {v : Value} (h : FdAt w lo fd v) : ∃ kp cp kg cg kk ck kb cb, FdCode w lo fd v kp cp kg cg kk ck kb cb := by
  cases fd with
  | num p most =>
    obtain ⟨g2, g3, g5, rfl, b, c, d, e, f, g⟩ := h
    refine ⟨_, _, _, _, _, _, _, _, rfl, ?_, ?_, ?_⟩
    · intro w' hk hL ge ev he hs
      cases p with
      | tick => exact numput_tick hL he (hk _ _ b e) (hk _ _ c f)
      | number => exact numput_number hL he (hk _ _ b e) (hk _ _ c f)
      | flag => exact numput_flag hL he (hk _ _ b e) (hk _ _ c f)
      | offset => exact numput_offset hL he (hk _ _ b e) (hk _ _ c f)
      | index => exact numput_index hL he (hk _ _ b e) (hk _ _ c f)
    · intro w' hk hL ge ev s he hn hs
      cases p with
      | tick => exact numget_tick hL hs he (hk _ _ b e) (hk _ _ c f) (ne_of c f hn)
      | number => exact numget_number hL hs he (hk _ _ b e) (hk _ _ c f) (ne_of c f hn)
      | flag => exact numget_flag hL hs he (hk _ _ b e) (hk _ _ c f) (ne_of c f hn)
      | offset => exact numget_offset hL hs he (hk _ _ b e) (hk _ _ c f) (ne_of c f hn)
      | index => exact numget_index hL hs he (hk _ _ b e) (hk _ _ c f) (ne_of c f hn)
    · intro w' hk gt gf et ef ht hf
      cases p with
      | tick => exact numkeep_tick ht hf (hk _ _ b e)
      | number => exact numkeep_number ht hf (hk _ _ b e)
      | flag => exact numkeep_flag ht hf (hk _ _ b e)
      | offset => exact numkeep_offset ht hf (hk _ _ b e)
      | index => exact numkeep_index ht hf (hk _ _ b e)
  | id m p =>
    obtain ⟨g2, g3, g5, rfl, b, c, d, e, f, g⟩ := h
    refine ⟨_, _, _, _, _, _, _, _, rfl, ?_, ?_, ?_⟩
    · intro w' hk hL ge ev he hs
      cases p with
      | pane => exact idput_pane hL he (hk _ _ b e) (hk _ _ c f)
      | window => exact idput_window hL he (hk _ _ b e) (hk _ _ c f)
      | session => exact idput_session hL he (hk _ _ b e) (hk _ _ c f)
    · intro w' hk hL ge ev s he hn hs
      cases p with
      | pane => exact idget_pane hL hs he (hk _ _ b e) (hk _ _ c f) (ne_of c f hn)
      | window => exact idget_window hL hs he (hk _ _ b e) (hk _ _ c f) (ne_of c f hn)
      | session => exact idget_session hL hs he (hk _ _ b e) (hk _ _ c f) (ne_of c f hn)
    · intro w' hk gt gf et ef ht hf
      cases p with
      | pane => exact idkeep_pane ht hf (hk _ _ c f)
      | window => exact idkeep_window ht hf (hk _ _ c f)
      | session => exact idkeep_session ht hf (hk _ _ c f)
  | name bl =>
    obtain ⟨g1, rfl, b, c⟩ := h
    refine ⟨_, _, _, _, _, _, _, _, rfl, ?_, ?_, ?_⟩
    · intro w' hk hL ge ev he hs
      cases bl with
      | true => exact name_put_true he hs.name (hk _ _ b c)
      | false => exact name_put_false he hs.name (hk _ _ b c)
    · intro w' hk hL ge ev s he hn hs
      cases bl with
      | true => exact name_get_true he hs (hk _ _ b c) (ne_of b c hn)
      | false => exact name_get_false he hs (hk _ _ b c) (ne_of b c hn)
    · intro w' hk gt gf et ef ht hf
      exact name_keep ht hf
  | text least most =>
    obtain ⟨g1, g2, rfl, b, c, d, e⟩ := h
    refine ⟨_, _, _, _, _, _, _, _, rfl, ?_, ?_, ?_⟩
    · intro w' hk hL ge ev he hs
      exact text_put hL he hs.text (hk _ _ b d) (hk _ _ c e)
    · intro w' hk hL ge ev s he hn hs
      exact text_get hL he hs (hk _ _ b d) (hk _ _ c e) (ne_of b d hn) (ne_of c e hn)
    · intro w' hk gt gf et ef ht hf
      exact text_keep ht hf
  | plan vis =>
    obtain ⟨g1, rfl, b, c⟩ := h
    refine ⟨_, _, _, _, _, _, _, _, rfl, ?_, ?_, ?_⟩
    · intro w' hk hL ge ev he hs
      cases vis with
      | false => exact plan_put_layout he hs.layout (hk _ _ b c)
      | true => exact plan_put_visible he hs.visible (hk _ _ b c)
    · intro w' hk hL ge ev s he hn hs
      cases vis with
      | false => exact plan_get_layout he hs (hk _ _ b c)
      | true => exact plan_get_visible he hs (hk _ _ b c)
    · intro w' hk gt gf et ef ht hf
      cases vis with
      | false => exact plan_keep_layout ht hf (hk _ _ b c)
      | true => exact plan_keep_visible ht hf (hk _ _ b c)
  | zoom =>
    obtain rfl := h
    refine ⟨_, _, _, _, _, _, _, _, rfl, ?_, ?_, ?_⟩
    · intro w' hk hL ge ev he hs
      exact zoom_put he
    · intro w' hk hL ge ev s he hn hs
      exact zoom_get he
    · intro w' hk gt gf et ef ht hf
      exact zoom_keep ht hf
  | colon =>
    obtain rfl := h
    refine ⟨_, _, _, _, _, _, _, _, rfl, ?_, ?_, ?_⟩
    · intro w' hk hL ge ev he hs
      exact colon_put
    · intro w' hk hL ge ev s he hn hs
      exact colon_get he
    · intro w' hk gt gf et ef ht hf
      exact colon_keep ht
theorem builder_kp {T e : TypeId} {B b : Nat} {bs : List Value} {w w' : World} (h : Lib.IsBuilderF T e B b bs w) (hk : Kp B w w') : Lib.IsBuilderF T e B b bs w' := by
  have one : ∀ {p : Value}, Lib.BuilderAtF T e B b p bs w → Lib.BuilderAtF T e B b p bs w' := by
    intro p hp
    obtain ⟨hB, v, hb, hown, hne⟩ := hp
    refine ⟨hB, v, hk _ _ hB hb, ?_, hne⟩
    rcases hown with ⟨h1, ⟨h2, h3⟩ | ⟨g, cap, cur, fz, h2, h3, h4, h5⟩⟩
    · exact ⟨h1, .inl ⟨h2, h3⟩⟩
    · exact ⟨h1, .inr ⟨g, cap, cur, fz, h2, h3, hk _ _ h3 h4, h5⟩⟩
  exact h.imp one one
end Go.Proofs.YtnblabfkkcohgaaGreatDoor.Wire
end
section
/- The fields of a kind's line, walked. -/
namespace Go.Proofs.YtnblabfkkcohgaaGreatDoor.Wire
set_option linter.unusedVariables false
set_option linter.unusedSimpArgs false
open Go Go.Shelf Go.RowKit Go.Proofs.YtnblabfkkcohgaaGreatDoor.Given Go.Proofs.YtnblabfkkcohgaaGreatDoorW.PrintWords Go.Proofs.YtnblabfkkcohgaaGreatDoorW.PrintLast

/-- The fields of a kind's line. -/
def fdsOf : Nat → List Fd
  | 1 => [.num .tick 4611686018427387904, .num .number 4611686018427387904, .num .flag 1]
  | 2 => [.num .tick 4611686018427387904, .num .number 4611686018427387904, .num .flag 1]
  | 3 => [.num .tick 4611686018427387904, .num .number 4611686018427387904, .num .flag 1]
  | 5 => [.id 37 .pane, .text 1 256]
  | 6 => [.id 37 .pane, .num .offset 4611686018427387904]
  | 7 => [.id 37 .pane, .num .offset 4611686018427387904]
  | 8 => [.id 37 .pane, .num .offset 4611686018427387904]
  | 9 => [.id 37 .pane]
  | 10 => [.id 64 .window, .name true]
  | 11 => [.id 64 .window]
  | 12 => [.id 64 .window, .name true]
  | 13 => [.id 64 .window, .plan false, .plan true, .zoom]
  | 14 => [.id 64 .window, .id 37 .pane]
  | 15 => [.id 36 .session, .name true]
  | 16 => [.id 36 .session]
  | 17 => [.id 36 .session, .name true]
  | 18 => [.id 36 .session, .num .index 9999, .id 64 .window]
  | 19 => [.id 36 .session, .num .index 9999]
  | 20 => [.id 36 .session, .num .index 9999]
  | 21 => [.id 36 .session, .name true]
  | 22 => [.name false, .id 36 .session, .id 64 .window, .num .index 9999, .id 37 .pane, .colon, .text 0 1024]
  | 23 => [.text 0 1024]
  | 24 => [.text 1 1024]
  | _ => []
theorem FdAt.agg {w : World} {lo : Nat} {fd : Fd} {v : Value} (h : FdAt w lo fd v) : ∃ a b c d, v = .agg #[a, b, c, d] := by
  obtain ⟨_, _, _, _, _, _, _, _, hc⟩ := h.code
  exact ⟨_, _, _, _, hc.val⟩
theorem FdAt.lo {w : World} {lo lo' : Nat} {fd : Fd} {v : Value} (h : FdAt w lo fd v) (hl : lo' ≤ lo) : FdAt w lo' fd v := by
  cases fd with
  | num p most => obtain ⟨g2, g3, g5, a, b, c, d, e, f, g⟩ := h; exact ⟨g2, g3, g5, a, by omega, by omega, by omega, e, f, g⟩
  | id mark p => obtain ⟨g2, g3, g5, a, b, c, d, e, f, g⟩ := h; exact ⟨g2, g3, g5, a, by omega, by omega, by omega, e, f, g⟩
  | name b => obtain ⟨g1, a, b, c⟩ := h; exact ⟨g1, a, by omega, c⟩
  | text least most => obtain ⟨g1, g2, a, b, c, d, e⟩ := h; exact ⟨g1, g2, a, by omega, by omega, d, e⟩
  | plan vis => obtain ⟨g1, a, b, c⟩ := h; exact ⟨g1, a, by omega, c⟩
  | zoom => exact h
  | colon => exact h
/-- The value is the slice of the fields. -/
def RowAt (w : World) (lo : Nat) (fds : List Fd) (v : Value) : Prop :=
  (fds = [] ∧ v = .slice none 0 0) ∨ ∃ g cs, fds ≠ [] ∧ v = .slice (some ⟨g, 0, none⟩) fds.length fds.length ∧ lo ≤ g ∧ w.heap[g]? = some (.cells cs 71 (0, 0)) ∧ cs.size = 4 * fds.length ∧
    ∀ i fd, fds[i]? = some fd → ∃ a b c d, cs[4 * i]? = some a ∧ cs[4 * i + 1]? = some b ∧ cs[4 * i + 2]? = some c ∧ cs[4 * i + 3]? = some d ∧ FdAt w lo fd (.agg #[a, b, c, d])
theorem below_alloc0 (w : World) (o : Obj) : Below w.heap.size w (w.alloc o) := below_alloc (Below.refl _ _) _
theorem list_calls (w : World) (v : Value) : Calls Tryz.prog 61 #[v] w fun e w' => e = .returned v ∧ w' = w := by
  go_enter Tryz.func61, Tryz.ntmps61
  go_wp2
  all_goals go_returns
  all_goals exact ⟨rfl, rfl⟩
theorem mkn_tick_4611686018427387904 (w : World) : Calls Tryz.prog 62 #[.func (.func 63) #[] #[], .int .i64 4611686018427387904] w fun e w' => ∃ a b c d, e = .returned (.agg #[a, b, c, d]) ∧ FdAt w' w.heap.size (.num .tick 4611686018427387904) (.agg #[a, b, c, d]) ∧ Below w.heap.size w w' := by
  refine (mk_num w .tick 4611686018427387904).mono ?_
  rintro e w' ⟨v, rfl, hf, hb⟩
  obtain ⟨a, b, c, d, rfl⟩ := hf.agg
  exact ⟨a, b, c, d, rfl, hf, hb⟩
theorem mkn_number_4611686018427387904 (w : World) : Calls Tryz.prog 62 #[.func (.func 64) #[] #[], .int .i64 4611686018427387904] w fun e w' => ∃ a b c d, e = .returned (.agg #[a, b, c, d]) ∧ FdAt w' w.heap.size (.num .number 4611686018427387904) (.agg #[a, b, c, d]) ∧ Below w.heap.size w w' := by
  refine (mk_num w .number 4611686018427387904).mono ?_
  rintro e w' ⟨v, rfl, hf, hb⟩
  obtain ⟨a, b, c, d, rfl⟩ := hf.agg
  exact ⟨a, b, c, d, rfl, hf, hb⟩
theorem mkn_flag_1 (w : World) : Calls Tryz.prog 62 #[.func (.func 65) #[] #[], .int .i64 1] w fun e w' => ∃ a b c d, e = .returned (.agg #[a, b, c, d]) ∧ FdAt w' w.heap.size (.num .flag 1) (.agg #[a, b, c, d]) ∧ Below w.heap.size w w' := by
  refine (mk_num w .flag 1).mono ?_
  rintro e w' ⟨v, rfl, hf, hb⟩
  obtain ⟨a, b, c, d, rfl⟩ := hf.agg
  exact ⟨a, b, c, d, rfl, hf, hb⟩
theorem mki_pane (w : World) : Calls Tryz.prog 66 #[.int .u8 37, .func (.func 67) #[] #[]] w fun e w' => ∃ a b c d, e = .returned (.agg #[a, b, c, d]) ∧ FdAt w' w.heap.size (.id 37 .pane) (.agg #[a, b, c, d]) ∧ Below w.heap.size w w' := by
  refine (mk_id w .pane 37).mono ?_
  rintro e w' ⟨v, rfl, hf, hb⟩
  obtain ⟨a, b, c, d, rfl⟩ := hf.agg
  exact ⟨a, b, c, d, rfl, hf, hb⟩
theorem mkt_1_256 (w : World) : Calls Tryz.prog 68 #[.int .i64 1, .int .i64 256] w fun e w' => ∃ a b c d, e = .returned (.agg #[a, b, c, d]) ∧ FdAt w' w.heap.size (.text 1 256) (.agg #[a, b, c, d]) ∧ Below w.heap.size w w' := by
  refine (mk_text w 1 256).mono ?_
  rintro e w' ⟨v, rfl, hf, hb⟩
  obtain ⟨a, b, c, d, rfl⟩ := hf.agg
  exact ⟨a, b, c, d, rfl, hf, hb⟩
theorem mkn_offset_4611686018427387904 (w : World) : Calls Tryz.prog 62 #[.func (.func 69) #[] #[], .int .i64 4611686018427387904] w fun e w' => ∃ a b c d, e = .returned (.agg #[a, b, c, d]) ∧ FdAt w' w.heap.size (.num .offset 4611686018427387904) (.agg #[a, b, c, d]) ∧ Below w.heap.size w w' := by
  refine (mk_num w .offset 4611686018427387904).mono ?_
  rintro e w' ⟨v, rfl, hf, hb⟩
  obtain ⟨a, b, c, d, rfl⟩ := hf.agg
  exact ⟨a, b, c, d, rfl, hf, hb⟩
theorem mki_window (w : World) : Calls Tryz.prog 66 #[.int .u8 64, .func (.func 70) #[] #[]] w fun e w' => ∃ a b c d, e = .returned (.agg #[a, b, c, d]) ∧ FdAt w' w.heap.size (.id 64 .window) (.agg #[a, b, c, d]) ∧ Below w.heap.size w w' := by
  refine (mk_id w .window 64).mono ?_
  rintro e w' ⟨v, rfl, hf, hb⟩
  obtain ⟨a, b, c, d, rfl⟩ := hf.agg
  exact ⟨a, b, c, d, rfl, hf, hb⟩
theorem mkm_true (w : World) : Calls Tryz.prog 71 #[.bool true] w fun e w' => ∃ a b c d, e = .returned (.agg #[a, b, c, d]) ∧ FdAt w' w.heap.size (.name true) (.agg #[a, b, c, d]) ∧ Below w.heap.size w w' := by
  refine (mk_name_true w).mono ?_
  rintro e w' ⟨v, rfl, hf, hb⟩
  obtain ⟨a, b, c, d, rfl⟩ := hf.agg
  exact ⟨a, b, c, d, rfl, hf, hb⟩
theorem mkp_false (w : World) : Calls Tryz.prog 72 #[.func (.func 73) #[] #[]] w fun e w' => ∃ a b c d, e = .returned (.agg #[a, b, c, d]) ∧ FdAt w' w.heap.size (.plan false) (.agg #[a, b, c, d]) ∧ Below w.heap.size w w' := by
  refine (mk_plan w false).mono ?_
  rintro e w' ⟨v, rfl, hf, hb⟩
  obtain ⟨a, b, c, d, rfl⟩ := hf.agg
  exact ⟨a, b, c, d, rfl, hf, hb⟩
theorem mkp_true (w : World) : Calls Tryz.prog 72 #[.func (.func 74) #[] #[]] w fun e w' => ∃ a b c d, e = .returned (.agg #[a, b, c, d]) ∧ FdAt w' w.heap.size (.plan true) (.agg #[a, b, c, d]) ∧ Below w.heap.size w w' := by
  refine (mk_plan w true).mono ?_
  rintro e w' ⟨v, rfl, hf, hb⟩
  obtain ⟨a, b, c, d, rfl⟩ := hf.agg
  exact ⟨a, b, c, d, rfl, hf, hb⟩
theorem mkz (w : World) : Calls Tryz.prog 75 #[] w fun e w' => ∃ a b c d, e = .returned (.agg #[a, b, c, d]) ∧ FdAt w' w.heap.size (.zoom) (.agg #[a, b, c, d]) ∧ Below w.heap.size w w' := by
  refine (mk_zoom w).mono ?_
  rintro e w' ⟨v, rfl, hf, hb⟩
  obtain ⟨a, b, c, d, rfl⟩ := hf.agg
  exact ⟨a, b, c, d, rfl, hf, hb⟩
theorem mki_session (w : World) : Calls Tryz.prog 66 #[.int .u8 36, .func (.func 76) #[] #[]] w fun e w' => ∃ a b c d, e = .returned (.agg #[a, b, c, d]) ∧ FdAt w' w.heap.size (.id 36 .session) (.agg #[a, b, c, d]) ∧ Below w.heap.size w w' := by
  refine (mk_id w .session 36).mono ?_
  rintro e w' ⟨v, rfl, hf, hb⟩
  obtain ⟨a, b, c, d, rfl⟩ := hf.agg
  exact ⟨a, b, c, d, rfl, hf, hb⟩
theorem mkn_index_9999 (w : World) : Calls Tryz.prog 62 #[.func (.func 77) #[] #[], .int .i64 9999] w fun e w' => ∃ a b c d, e = .returned (.agg #[a, b, c, d]) ∧ FdAt w' w.heap.size (.num .index 9999) (.agg #[a, b, c, d]) ∧ Below w.heap.size w w' := by
  refine (mk_num w .index 9999).mono ?_
  rintro e w' ⟨v, rfl, hf, hb⟩
  obtain ⟨a, b, c, d, rfl⟩ := hf.agg
  exact ⟨a, b, c, d, rfl, hf, hb⟩
theorem mkm_false (w : World) : Calls Tryz.prog 71 #[.bool false] w fun e w' => ∃ a b c d, e = .returned (.agg #[a, b, c, d]) ∧ FdAt w' w.heap.size (.name false) (.agg #[a, b, c, d]) ∧ Below w.heap.size w w' := by
  refine (mk_name_false w).mono ?_
  rintro e w' ⟨v, rfl, hf, hb⟩
  obtain ⟨a, b, c, d, rfl⟩ := hf.agg
  exact ⟨a, b, c, d, rfl, hf, hb⟩
theorem mkc (w : World) : Calls Tryz.prog 78 #[] w fun e w' => ∃ a b c d, e = .returned (.agg #[a, b, c, d]) ∧ FdAt w' w.heap.size (.colon) (.agg #[a, b, c, d]) ∧ Below w.heap.size w w' := by
  refine (mk_colon w).mono ?_
  rintro e w' ⟨v, rfl, hf, hb⟩
  obtain ⟨a, b, c, d, rfl⟩ := hf.agg
  exact ⟨a, b, c, d, rfl, hf, hb⟩
theorem mkt_0_1024 (w : World) : Calls Tryz.prog 68 #[.int .i64 0, .int .i64 1024] w fun e w' => ∃ a b c d, e = .returned (.agg #[a, b, c, d]) ∧ FdAt w' w.heap.size (.text 0 1024) (.agg #[a, b, c, d]) ∧ Below w.heap.size w w' := by
  refine (mk_text w 0 1024).mono ?_
  rintro e w' ⟨v, rfl, hf, hb⟩
  obtain ⟨a, b, c, d, rfl⟩ := hf.agg
  exact ⟨a, b, c, d, rfl, hf, hb⟩
theorem mkt_1_1024 (w : World) : Calls Tryz.prog 68 #[.int .i64 1, .int .i64 1024] w fun e w' => ∃ a b c d, e = .returned (.agg #[a, b, c, d]) ∧ FdAt w' w.heap.size (.text 1 1024) (.agg #[a, b, c, d]) ∧ Below w.heap.size w w' := by
  refine (mk_text w 1 1024).mono ?_
  rintro e w' ⟨v, rfl, hf, hb⟩
  obtain ⟨a, b, c, d, rfl⟩ := hf.agg
  exact ⟨a, b, c, d, rfl, hf, hb⟩
set_option maxHeartbeats 3200000 in
theorem flds_1 (w : World) : Calls Tryz.prog 43 #[.int .i64 1] w fun e w' => ∃ v, e = .returned v ∧ RowAt w' w.heap.size (fdsOf 1) v ∧ Below w.heap.size w w' := by
  go_enter Tryz.func43, Tryz.ntmps43
  go_wp2_with (first | ((go_at_call 61); (with_reducible refine (list_calls _ _).mono ?_); rintro e wl ⟨rfl, rfl⟩) | ((go_at_call 62); (with_reducible refine (mkn_tick_4611686018427387904 _).mono ?_); rintro e wq1 ⟨a1, b1, c1, d1, rfl, hf, hb⟩; have HF1 := Lib.hid hf; have HB1 := Lib.hid hb; clear hf hb) | ((go_at_call 62); (with_reducible refine (mkn_number_4611686018427387904 _).mono ?_); rintro e wq2 ⟨a2, b2, c2, d2, rfl, hf, hb⟩; have HF2 := Lib.hid hf; have HB2 := Lib.hid hb; clear hf hb) | ((go_at_call 62); (with_reducible refine (mkn_flag_1 _).mono ?_); rintro e wq3 ⟨a3, b3, c3, d3, rfl, hf, hb⟩; have HF3 := Lib.hid hf; have HB3 := Lib.hid hb; clear hf hb))
  go_returns
  refine ⟨_, rfl, .inr ⟨wq3.heap.size, #[a1, b1, c1, d1, a2, b2, c2, d2, a3, b3, c3, d3], by decide, rfl, (below_step (below_step HB1.out HB2.out) HB3.out).size, heap_alloc_new _ _, rfl, ?_⟩, below_step (below_step (below_step HB1.out HB2.out) HB3.out) (below_alloc0 _ _)⟩
  intro i fd h
  exact (match i, h with
    | 0, h => by obtain rfl := Option.some.inj h; exact ⟨_, _, _, _, rfl, rfl, rfl, rfl, FdAt.lo (FdAt.below (FdAt.below (FdAt.below HF1.out HB2.out) HB3.out) (below_alloc0 _ _)) (Nat.le_refl _)⟩
    | 1, h => by obtain rfl := Option.some.inj h; exact ⟨_, _, _, _, rfl, rfl, rfl, rfl, FdAt.lo (FdAt.below (FdAt.below HF2.out HB3.out) (below_alloc0 _ _)) HB1.out.size⟩
    | 2, h => by obtain rfl := Option.some.inj h; exact ⟨_, _, _, _, rfl, rfl, rfl, rfl, FdAt.lo (FdAt.below HF3.out (below_alloc0 _ _)) (below_step HB1.out HB2.out).size⟩
    | n + 3, h => nomatch (show (none : Option Fd) = some fd from h))
set_option maxHeartbeats 3200000 in
theorem flds_2 (w : World) : Calls Tryz.prog 43 #[.int .i64 2] w fun e w' => ∃ v, e = .returned v ∧ RowAt w' w.heap.size (fdsOf 2) v ∧ Below w.heap.size w w' := by
  go_enter Tryz.func43, Tryz.ntmps43
  go_wp2_with (first | ((go_at_call 61); (with_reducible refine (list_calls _ _).mono ?_); rintro e wl ⟨rfl, rfl⟩) | ((go_at_call 62); (with_reducible refine (mkn_tick_4611686018427387904 _).mono ?_); rintro e wq1 ⟨a1, b1, c1, d1, rfl, hf, hb⟩; have HF1 := Lib.hid hf; have HB1 := Lib.hid hb; clear hf hb) | ((go_at_call 62); (with_reducible refine (mkn_number_4611686018427387904 _).mono ?_); rintro e wq2 ⟨a2, b2, c2, d2, rfl, hf, hb⟩; have HF2 := Lib.hid hf; have HB2 := Lib.hid hb; clear hf hb) | ((go_at_call 62); (with_reducible refine (mkn_flag_1 _).mono ?_); rintro e wq3 ⟨a3, b3, c3, d3, rfl, hf, hb⟩; have HF3 := Lib.hid hf; have HB3 := Lib.hid hb; clear hf hb))
  go_returns
  refine ⟨_, rfl, .inr ⟨wq3.heap.size, #[a1, b1, c1, d1, a2, b2, c2, d2, a3, b3, c3, d3], by decide, rfl, (below_step (below_step HB1.out HB2.out) HB3.out).size, heap_alloc_new _ _, rfl, ?_⟩, below_step (below_step (below_step HB1.out HB2.out) HB3.out) (below_alloc0 _ _)⟩
  intro i fd h
  exact (match i, h with
    | 0, h => by obtain rfl := Option.some.inj h; exact ⟨_, _, _, _, rfl, rfl, rfl, rfl, FdAt.lo (FdAt.below (FdAt.below (FdAt.below HF1.out HB2.out) HB3.out) (below_alloc0 _ _)) (Nat.le_refl _)⟩
    | 1, h => by obtain rfl := Option.some.inj h; exact ⟨_, _, _, _, rfl, rfl, rfl, rfl, FdAt.lo (FdAt.below (FdAt.below HF2.out HB3.out) (below_alloc0 _ _)) HB1.out.size⟩
    | 2, h => by obtain rfl := Option.some.inj h; exact ⟨_, _, _, _, rfl, rfl, rfl, rfl, FdAt.lo (FdAt.below HF3.out (below_alloc0 _ _)) (below_step HB1.out HB2.out).size⟩
    | n + 3, h => nomatch (show (none : Option Fd) = some fd from h))
set_option maxHeartbeats 3200000 in
theorem flds_3 (w : World) : Calls Tryz.prog 43 #[.int .i64 3] w fun e w' => ∃ v, e = .returned v ∧ RowAt w' w.heap.size (fdsOf 3) v ∧ Below w.heap.size w w' := by
  go_enter Tryz.func43, Tryz.ntmps43
  go_wp2_with (first | ((go_at_call 61); (with_reducible refine (list_calls _ _).mono ?_); rintro e wl ⟨rfl, rfl⟩) | ((go_at_call 62); (with_reducible refine (mkn_tick_4611686018427387904 _).mono ?_); rintro e wq1 ⟨a1, b1, c1, d1, rfl, hf, hb⟩; have HF1 := Lib.hid hf; have HB1 := Lib.hid hb; clear hf hb) | ((go_at_call 62); (with_reducible refine (mkn_number_4611686018427387904 _).mono ?_); rintro e wq2 ⟨a2, b2, c2, d2, rfl, hf, hb⟩; have HF2 := Lib.hid hf; have HB2 := Lib.hid hb; clear hf hb) | ((go_at_call 62); (with_reducible refine (mkn_flag_1 _).mono ?_); rintro e wq3 ⟨a3, b3, c3, d3, rfl, hf, hb⟩; have HF3 := Lib.hid hf; have HB3 := Lib.hid hb; clear hf hb))
  go_returns
  refine ⟨_, rfl, .inr ⟨wq3.heap.size, #[a1, b1, c1, d1, a2, b2, c2, d2, a3, b3, c3, d3], by decide, rfl, (below_step (below_step HB1.out HB2.out) HB3.out).size, heap_alloc_new _ _, rfl, ?_⟩, below_step (below_step (below_step HB1.out HB2.out) HB3.out) (below_alloc0 _ _)⟩
  intro i fd h
  exact (match i, h with
    | 0, h => by obtain rfl := Option.some.inj h; exact ⟨_, _, _, _, rfl, rfl, rfl, rfl, FdAt.lo (FdAt.below (FdAt.below (FdAt.below HF1.out HB2.out) HB3.out) (below_alloc0 _ _)) (Nat.le_refl _)⟩
    | 1, h => by obtain rfl := Option.some.inj h; exact ⟨_, _, _, _, rfl, rfl, rfl, rfl, FdAt.lo (FdAt.below (FdAt.below HF2.out HB3.out) (below_alloc0 _ _)) HB1.out.size⟩
    | 2, h => by obtain rfl := Option.some.inj h; exact ⟨_, _, _, _, rfl, rfl, rfl, rfl, FdAt.lo (FdAt.below HF3.out (below_alloc0 _ _)) (below_step HB1.out HB2.out).size⟩
    | n + 3, h => nomatch (show (none : Option Fd) = some fd from h))
set_option maxHeartbeats 3200000 in
theorem flds_5 (w : World) : Calls Tryz.prog 43 #[.int .i64 5] w fun e w' => ∃ v, e = .returned v ∧ RowAt w' w.heap.size (fdsOf 5) v ∧ Below w.heap.size w w' := by
  go_enter Tryz.func43, Tryz.ntmps43
  go_wp2_with (first | ((go_at_call 61); (with_reducible refine (list_calls _ _).mono ?_); rintro e wl ⟨rfl, rfl⟩) | ((go_at_call 66); (with_reducible refine (mki_pane _).mono ?_); rintro e wq1 ⟨a1, b1, c1, d1, rfl, hf, hb⟩; have HF1 := Lib.hid hf; have HB1 := Lib.hid hb; clear hf hb) | ((go_at_call 68); (with_reducible refine (mkt_1_256 _).mono ?_); rintro e wq2 ⟨a2, b2, c2, d2, rfl, hf, hb⟩; have HF2 := Lib.hid hf; have HB2 := Lib.hid hb; clear hf hb))
  go_returns
  refine ⟨_, rfl, .inr ⟨wq2.heap.size, #[a1, b1, c1, d1, a2, b2, c2, d2], by decide, rfl, (below_step HB1.out HB2.out).size, heap_alloc_new _ _, rfl, ?_⟩, below_step (below_step HB1.out HB2.out) (below_alloc0 _ _)⟩
  intro i fd h
  exact (match i, h with
    | 0, h => by obtain rfl := Option.some.inj h; exact ⟨_, _, _, _, rfl, rfl, rfl, rfl, FdAt.lo (FdAt.below (FdAt.below HF1.out HB2.out) (below_alloc0 _ _)) (Nat.le_refl _)⟩
    | 1, h => by obtain rfl := Option.some.inj h; exact ⟨_, _, _, _, rfl, rfl, rfl, rfl, FdAt.lo (FdAt.below HF2.out (below_alloc0 _ _)) HB1.out.size⟩
    | n + 2, h => nomatch (show (none : Option Fd) = some fd from h))
set_option maxHeartbeats 3200000 in
theorem flds_6 (w : World) : Calls Tryz.prog 43 #[.int .i64 6] w fun e w' => ∃ v, e = .returned v ∧ RowAt w' w.heap.size (fdsOf 6) v ∧ Below w.heap.size w w' := by
  go_enter Tryz.func43, Tryz.ntmps43
  go_wp2_with (first | ((go_at_call 61); (with_reducible refine (list_calls _ _).mono ?_); rintro e wl ⟨rfl, rfl⟩) | ((go_at_call 66); (with_reducible refine (mki_pane _).mono ?_); rintro e wq1 ⟨a1, b1, c1, d1, rfl, hf, hb⟩; have HF1 := Lib.hid hf; have HB1 := Lib.hid hb; clear hf hb) | ((go_at_call 62); (with_reducible refine (mkn_offset_4611686018427387904 _).mono ?_); rintro e wq2 ⟨a2, b2, c2, d2, rfl, hf, hb⟩; have HF2 := Lib.hid hf; have HB2 := Lib.hid hb; clear hf hb))
  go_returns
  refine ⟨_, rfl, .inr ⟨wq2.heap.size, #[a1, b1, c1, d1, a2, b2, c2, d2], by decide, rfl, (below_step HB1.out HB2.out).size, heap_alloc_new _ _, rfl, ?_⟩, below_step (below_step HB1.out HB2.out) (below_alloc0 _ _)⟩
  intro i fd h
  exact (match i, h with
    | 0, h => by obtain rfl := Option.some.inj h; exact ⟨_, _, _, _, rfl, rfl, rfl, rfl, FdAt.lo (FdAt.below (FdAt.below HF1.out HB2.out) (below_alloc0 _ _)) (Nat.le_refl _)⟩
    | 1, h => by obtain rfl := Option.some.inj h; exact ⟨_, _, _, _, rfl, rfl, rfl, rfl, FdAt.lo (FdAt.below HF2.out (below_alloc0 _ _)) HB1.out.size⟩
    | n + 2, h => nomatch (show (none : Option Fd) = some fd from h))
set_option maxHeartbeats 3200000 in
theorem flds_7 (w : World) : Calls Tryz.prog 43 #[.int .i64 7] w fun e w' => ∃ v, e = .returned v ∧ RowAt w' w.heap.size (fdsOf 7) v ∧ Below w.heap.size w w' := by
  go_enter Tryz.func43, Tryz.ntmps43
  go_wp2_with (first | ((go_at_call 61); (with_reducible refine (list_calls _ _).mono ?_); rintro e wl ⟨rfl, rfl⟩) | ((go_at_call 66); (with_reducible refine (mki_pane _).mono ?_); rintro e wq1 ⟨a1, b1, c1, d1, rfl, hf, hb⟩; have HF1 := Lib.hid hf; have HB1 := Lib.hid hb; clear hf hb) | ((go_at_call 62); (with_reducible refine (mkn_offset_4611686018427387904 _).mono ?_); rintro e wq2 ⟨a2, b2, c2, d2, rfl, hf, hb⟩; have HF2 := Lib.hid hf; have HB2 := Lib.hid hb; clear hf hb))
  go_returns
  refine ⟨_, rfl, .inr ⟨wq2.heap.size, #[a1, b1, c1, d1, a2, b2, c2, d2], by decide, rfl, (below_step HB1.out HB2.out).size, heap_alloc_new _ _, rfl, ?_⟩, below_step (below_step HB1.out HB2.out) (below_alloc0 _ _)⟩
  intro i fd h
  exact (match i, h with
    | 0, h => by obtain rfl := Option.some.inj h; exact ⟨_, _, _, _, rfl, rfl, rfl, rfl, FdAt.lo (FdAt.below (FdAt.below HF1.out HB2.out) (below_alloc0 _ _)) (Nat.le_refl _)⟩
    | 1, h => by obtain rfl := Option.some.inj h; exact ⟨_, _, _, _, rfl, rfl, rfl, rfl, FdAt.lo (FdAt.below HF2.out (below_alloc0 _ _)) HB1.out.size⟩
    | n + 2, h => nomatch (show (none : Option Fd) = some fd from h))
set_option maxHeartbeats 3200000 in
theorem flds_8 (w : World) : Calls Tryz.prog 43 #[.int .i64 8] w fun e w' => ∃ v, e = .returned v ∧ RowAt w' w.heap.size (fdsOf 8) v ∧ Below w.heap.size w w' := by
  go_enter Tryz.func43, Tryz.ntmps43
  go_wp2_with (first | ((go_at_call 61); (with_reducible refine (list_calls _ _).mono ?_); rintro e wl ⟨rfl, rfl⟩) | ((go_at_call 66); (with_reducible refine (mki_pane _).mono ?_); rintro e wq1 ⟨a1, b1, c1, d1, rfl, hf, hb⟩; have HF1 := Lib.hid hf; have HB1 := Lib.hid hb; clear hf hb) | ((go_at_call 62); (with_reducible refine (mkn_offset_4611686018427387904 _).mono ?_); rintro e wq2 ⟨a2, b2, c2, d2, rfl, hf, hb⟩; have HF2 := Lib.hid hf; have HB2 := Lib.hid hb; clear hf hb))
  go_returns
  refine ⟨_, rfl, .inr ⟨wq2.heap.size, #[a1, b1, c1, d1, a2, b2, c2, d2], by decide, rfl, (below_step HB1.out HB2.out).size, heap_alloc_new _ _, rfl, ?_⟩, below_step (below_step HB1.out HB2.out) (below_alloc0 _ _)⟩
  intro i fd h
  exact (match i, h with
    | 0, h => by obtain rfl := Option.some.inj h; exact ⟨_, _, _, _, rfl, rfl, rfl, rfl, FdAt.lo (FdAt.below (FdAt.below HF1.out HB2.out) (below_alloc0 _ _)) (Nat.le_refl _)⟩
    | 1, h => by obtain rfl := Option.some.inj h; exact ⟨_, _, _, _, rfl, rfl, rfl, rfl, FdAt.lo (FdAt.below HF2.out (below_alloc0 _ _)) HB1.out.size⟩
    | n + 2, h => nomatch (show (none : Option Fd) = some fd from h))
set_option maxHeartbeats 3200000 in
theorem flds_9 (w : World) : Calls Tryz.prog 43 #[.int .i64 9] w fun e w' => ∃ v, e = .returned v ∧ RowAt w' w.heap.size (fdsOf 9) v ∧ Below w.heap.size w w' := by
  go_enter Tryz.func43, Tryz.ntmps43
  go_wp2_with (first | ((go_at_call 61); (with_reducible refine (list_calls _ _).mono ?_); rintro e wl ⟨rfl, rfl⟩) | ((go_at_call 66); (with_reducible refine (mki_pane _).mono ?_); rintro e wq1 ⟨a1, b1, c1, d1, rfl, hf, hb⟩; have HF1 := Lib.hid hf; have HB1 := Lib.hid hb; clear hf hb))
  go_returns
  refine ⟨_, rfl, .inr ⟨wq1.heap.size, #[a1, b1, c1, d1], by decide, rfl, HB1.out.size, heap_alloc_new _ _, rfl, ?_⟩, below_step HB1.out (below_alloc0 _ _)⟩
  intro i fd h
  exact (match i, h with
    | 0, h => by obtain rfl := Option.some.inj h; exact ⟨_, _, _, _, rfl, rfl, rfl, rfl, FdAt.lo (FdAt.below HF1.out (below_alloc0 _ _)) (Nat.le_refl _)⟩
    | n + 1, h => nomatch (show (none : Option Fd) = some fd from h))
set_option maxHeartbeats 3200000 in
theorem flds_10 (w : World) : Calls Tryz.prog 43 #[.int .i64 10] w fun e w' => ∃ v, e = .returned v ∧ RowAt w' w.heap.size (fdsOf 10) v ∧ Below w.heap.size w w' := by
  go_enter Tryz.func43, Tryz.ntmps43
  go_wp2_with (first | ((go_at_call 61); (with_reducible refine (list_calls _ _).mono ?_); rintro e wl ⟨rfl, rfl⟩) | ((go_at_call 66); (with_reducible refine (mki_window _).mono ?_); rintro e wq1 ⟨a1, b1, c1, d1, rfl, hf, hb⟩; have HF1 := Lib.hid hf; have HB1 := Lib.hid hb; clear hf hb) | ((go_at_call 71); (with_reducible refine (mkm_true _).mono ?_); rintro e wq2 ⟨a2, b2, c2, d2, rfl, hf, hb⟩; have HF2 := Lib.hid hf; have HB2 := Lib.hid hb; clear hf hb))
  go_returns
  refine ⟨_, rfl, .inr ⟨wq2.heap.size, #[a1, b1, c1, d1, a2, b2, c2, d2], by decide, rfl, (below_step HB1.out HB2.out).size, heap_alloc_new _ _, rfl, ?_⟩, below_step (below_step HB1.out HB2.out) (below_alloc0 _ _)⟩
  intro i fd h
  exact (match i, h with
    | 0, h => by obtain rfl := Option.some.inj h; exact ⟨_, _, _, _, rfl, rfl, rfl, rfl, FdAt.lo (FdAt.below (FdAt.below HF1.out HB2.out) (below_alloc0 _ _)) (Nat.le_refl _)⟩
    | 1, h => by obtain rfl := Option.some.inj h; exact ⟨_, _, _, _, rfl, rfl, rfl, rfl, FdAt.lo (FdAt.below HF2.out (below_alloc0 _ _)) HB1.out.size⟩
    | n + 2, h => nomatch (show (none : Option Fd) = some fd from h))
set_option maxHeartbeats 3200000 in
theorem flds_11 (w : World) : Calls Tryz.prog 43 #[.int .i64 11] w fun e w' => ∃ v, e = .returned v ∧ RowAt w' w.heap.size (fdsOf 11) v ∧ Below w.heap.size w w' := by
  go_enter Tryz.func43, Tryz.ntmps43
  go_wp2_with (first | ((go_at_call 61); (with_reducible refine (list_calls _ _).mono ?_); rintro e wl ⟨rfl, rfl⟩) | ((go_at_call 66); (with_reducible refine (mki_window _).mono ?_); rintro e wq1 ⟨a1, b1, c1, d1, rfl, hf, hb⟩; have HF1 := Lib.hid hf; have HB1 := Lib.hid hb; clear hf hb))
  go_returns
  refine ⟨_, rfl, .inr ⟨wq1.heap.size, #[a1, b1, c1, d1], by decide, rfl, HB1.out.size, heap_alloc_new _ _, rfl, ?_⟩, below_step HB1.out (below_alloc0 _ _)⟩
  intro i fd h
  exact (match i, h with
    | 0, h => by obtain rfl := Option.some.inj h; exact ⟨_, _, _, _, rfl, rfl, rfl, rfl, FdAt.lo (FdAt.below HF1.out (below_alloc0 _ _)) (Nat.le_refl _)⟩
    | n + 1, h => nomatch (show (none : Option Fd) = some fd from h))
set_option maxHeartbeats 3200000 in
theorem flds_12 (w : World) : Calls Tryz.prog 43 #[.int .i64 12] w fun e w' => ∃ v, e = .returned v ∧ RowAt w' w.heap.size (fdsOf 12) v ∧ Below w.heap.size w w' := by
  go_enter Tryz.func43, Tryz.ntmps43
  go_wp2_with (first | ((go_at_call 61); (with_reducible refine (list_calls _ _).mono ?_); rintro e wl ⟨rfl, rfl⟩) | ((go_at_call 66); (with_reducible refine (mki_window _).mono ?_); rintro e wq1 ⟨a1, b1, c1, d1, rfl, hf, hb⟩; have HF1 := Lib.hid hf; have HB1 := Lib.hid hb; clear hf hb) | ((go_at_call 71); (with_reducible refine (mkm_true _).mono ?_); rintro e wq2 ⟨a2, b2, c2, d2, rfl, hf, hb⟩; have HF2 := Lib.hid hf; have HB2 := Lib.hid hb; clear hf hb))
  go_returns
  refine ⟨_, rfl, .inr ⟨wq2.heap.size, #[a1, b1, c1, d1, a2, b2, c2, d2], by decide, rfl, (below_step HB1.out HB2.out).size, heap_alloc_new _ _, rfl, ?_⟩, below_step (below_step HB1.out HB2.out) (below_alloc0 _ _)⟩
  intro i fd h
  exact (match i, h with
    | 0, h => by obtain rfl := Option.some.inj h; exact ⟨_, _, _, _, rfl, rfl, rfl, rfl, FdAt.lo (FdAt.below (FdAt.below HF1.out HB2.out) (below_alloc0 _ _)) (Nat.le_refl _)⟩
    | 1, h => by obtain rfl := Option.some.inj h; exact ⟨_, _, _, _, rfl, rfl, rfl, rfl, FdAt.lo (FdAt.below HF2.out (below_alloc0 _ _)) HB1.out.size⟩
    | n + 2, h => nomatch (show (none : Option Fd) = some fd from h))
set_option maxHeartbeats 3200000 in
theorem flds_13 (w : World) : Calls Tryz.prog 43 #[.int .i64 13] w fun e w' => ∃ v, e = .returned v ∧ RowAt w' w.heap.size (fdsOf 13) v ∧ Below w.heap.size w w' := by
  go_enter Tryz.func43, Tryz.ntmps43
  go_wp2_with (first | ((go_at_call 61); (with_reducible refine (list_calls _ _).mono ?_); rintro e wl ⟨rfl, rfl⟩) | ((go_at_call 66); (with_reducible refine (mki_window _).mono ?_); rintro e wq1 ⟨a1, b1, c1, d1, rfl, hf, hb⟩; have HF1 := Lib.hid hf; have HB1 := Lib.hid hb; clear hf hb) | ((go_at_call 72); (with_reducible refine (mkp_false _).mono ?_); rintro e wq2 ⟨a2, b2, c2, d2, rfl, hf, hb⟩; have HF2 := Lib.hid hf; have HB2 := Lib.hid hb; clear hf hb) | ((go_at_call 72); (with_reducible refine (mkp_true _).mono ?_); rintro e wq3 ⟨a3, b3, c3, d3, rfl, hf, hb⟩; have HF3 := Lib.hid hf; have HB3 := Lib.hid hb; clear hf hb) | ((go_at_call 75); (with_reducible refine (mkz _).mono ?_); rintro e wq4 ⟨a4, b4, c4, d4, rfl, hf, hb⟩; have HF4 := Lib.hid hf; have HB4 := Lib.hid hb; clear hf hb))
  go_returns
  refine ⟨_, rfl, .inr ⟨wq4.heap.size, #[a1, b1, c1, d1, a2, b2, c2, d2, a3, b3, c3, d3, a4, b4, c4, d4], by decide, rfl, (below_step (below_step (below_step HB1.out HB2.out) HB3.out) HB4.out).size, heap_alloc_new _ _, rfl, ?_⟩, below_step (below_step (below_step (below_step HB1.out HB2.out) HB3.out) HB4.out) (below_alloc0 _ _)⟩
  intro i fd h
  exact (match i, h with
    | 0, h => by obtain rfl := Option.some.inj h; exact ⟨_, _, _, _, rfl, rfl, rfl, rfl, FdAt.lo (FdAt.below (FdAt.below (FdAt.below (FdAt.below HF1.out HB2.out) HB3.out) HB4.out) (below_alloc0 _ _)) (Nat.le_refl _)⟩
    | 1, h => by obtain rfl := Option.some.inj h; exact ⟨_, _, _, _, rfl, rfl, rfl, rfl, FdAt.lo (FdAt.below (FdAt.below (FdAt.below HF2.out HB3.out) HB4.out) (below_alloc0 _ _)) HB1.out.size⟩
    | 2, h => by obtain rfl := Option.some.inj h; exact ⟨_, _, _, _, rfl, rfl, rfl, rfl, FdAt.lo (FdAt.below (FdAt.below HF3.out HB4.out) (below_alloc0 _ _)) (below_step HB1.out HB2.out).size⟩
    | 3, h => by obtain rfl := Option.some.inj h; exact ⟨_, _, _, _, rfl, rfl, rfl, rfl, FdAt.lo (FdAt.below HF4.out (below_alloc0 _ _)) (below_step (below_step HB1.out HB2.out) HB3.out).size⟩
    | n + 4, h => nomatch (show (none : Option Fd) = some fd from h))
set_option maxHeartbeats 3200000 in
theorem flds_14 (w : World) : Calls Tryz.prog 43 #[.int .i64 14] w fun e w' => ∃ v, e = .returned v ∧ RowAt w' w.heap.size (fdsOf 14) v ∧ Below w.heap.size w w' := by
  go_enter Tryz.func43, Tryz.ntmps43
  go_wp2_with (first | ((go_at_call 61); (with_reducible refine (list_calls _ _).mono ?_); rintro e wl ⟨rfl, rfl⟩) | ((go_at_call 66); (with_reducible refine (mki_window _).mono ?_); rintro e wq1 ⟨a1, b1, c1, d1, rfl, hf, hb⟩; have HF1 := Lib.hid hf; have HB1 := Lib.hid hb; clear hf hb) | ((go_at_call 66); (with_reducible refine (mki_pane _).mono ?_); rintro e wq2 ⟨a2, b2, c2, d2, rfl, hf, hb⟩; have HF2 := Lib.hid hf; have HB2 := Lib.hid hb; clear hf hb))
  go_returns
  refine ⟨_, rfl, .inr ⟨wq2.heap.size, #[a1, b1, c1, d1, a2, b2, c2, d2], by decide, rfl, (below_step HB1.out HB2.out).size, heap_alloc_new _ _, rfl, ?_⟩, below_step (below_step HB1.out HB2.out) (below_alloc0 _ _)⟩
  intro i fd h
  exact (match i, h with
    | 0, h => by obtain rfl := Option.some.inj h; exact ⟨_, _, _, _, rfl, rfl, rfl, rfl, FdAt.lo (FdAt.below (FdAt.below HF1.out HB2.out) (below_alloc0 _ _)) (Nat.le_refl _)⟩
    | 1, h => by obtain rfl := Option.some.inj h; exact ⟨_, _, _, _, rfl, rfl, rfl, rfl, FdAt.lo (FdAt.below HF2.out (below_alloc0 _ _)) HB1.out.size⟩
    | n + 2, h => nomatch (show (none : Option Fd) = some fd from h))
set_option maxHeartbeats 3200000 in
theorem flds_15 (w : World) : Calls Tryz.prog 43 #[.int .i64 15] w fun e w' => ∃ v, e = .returned v ∧ RowAt w' w.heap.size (fdsOf 15) v ∧ Below w.heap.size w w' := by
  go_enter Tryz.func43, Tryz.ntmps43
  go_wp2_with (first | ((go_at_call 61); (with_reducible refine (list_calls _ _).mono ?_); rintro e wl ⟨rfl, rfl⟩) | ((go_at_call 66); (with_reducible refine (mki_session _).mono ?_); rintro e wq1 ⟨a1, b1, c1, d1, rfl, hf, hb⟩; have HF1 := Lib.hid hf; have HB1 := Lib.hid hb; clear hf hb) | ((go_at_call 71); (with_reducible refine (mkm_true _).mono ?_); rintro e wq2 ⟨a2, b2, c2, d2, rfl, hf, hb⟩; have HF2 := Lib.hid hf; have HB2 := Lib.hid hb; clear hf hb))
  go_returns
  refine ⟨_, rfl, .inr ⟨wq2.heap.size, #[a1, b1, c1, d1, a2, b2, c2, d2], by decide, rfl, (below_step HB1.out HB2.out).size, heap_alloc_new _ _, rfl, ?_⟩, below_step (below_step HB1.out HB2.out) (below_alloc0 _ _)⟩
  intro i fd h
  exact (match i, h with
    | 0, h => by obtain rfl := Option.some.inj h; exact ⟨_, _, _, _, rfl, rfl, rfl, rfl, FdAt.lo (FdAt.below (FdAt.below HF1.out HB2.out) (below_alloc0 _ _)) (Nat.le_refl _)⟩
    | 1, h => by obtain rfl := Option.some.inj h; exact ⟨_, _, _, _, rfl, rfl, rfl, rfl, FdAt.lo (FdAt.below HF2.out (below_alloc0 _ _)) HB1.out.size⟩
    | n + 2, h => nomatch (show (none : Option Fd) = some fd from h))
set_option maxHeartbeats 3200000 in
theorem flds_16 (w : World) : Calls Tryz.prog 43 #[.int .i64 16] w fun e w' => ∃ v, e = .returned v ∧ RowAt w' w.heap.size (fdsOf 16) v ∧ Below w.heap.size w w' := by
  go_enter Tryz.func43, Tryz.ntmps43
  go_wp2_with (first | ((go_at_call 61); (with_reducible refine (list_calls _ _).mono ?_); rintro e wl ⟨rfl, rfl⟩) | ((go_at_call 66); (with_reducible refine (mki_session _).mono ?_); rintro e wq1 ⟨a1, b1, c1, d1, rfl, hf, hb⟩; have HF1 := Lib.hid hf; have HB1 := Lib.hid hb; clear hf hb))
  go_returns
  refine ⟨_, rfl, .inr ⟨wq1.heap.size, #[a1, b1, c1, d1], by decide, rfl, HB1.out.size, heap_alloc_new _ _, rfl, ?_⟩, below_step HB1.out (below_alloc0 _ _)⟩
  intro i fd h
  exact (match i, h with
    | 0, h => by obtain rfl := Option.some.inj h; exact ⟨_, _, _, _, rfl, rfl, rfl, rfl, FdAt.lo (FdAt.below HF1.out (below_alloc0 _ _)) (Nat.le_refl _)⟩
    | n + 1, h => nomatch (show (none : Option Fd) = some fd from h))
set_option maxHeartbeats 3200000 in
theorem flds_17 (w : World) : Calls Tryz.prog 43 #[.int .i64 17] w fun e w' => ∃ v, e = .returned v ∧ RowAt w' w.heap.size (fdsOf 17) v ∧ Below w.heap.size w w' := by
  go_enter Tryz.func43, Tryz.ntmps43
  go_wp2_with (first | ((go_at_call 61); (with_reducible refine (list_calls _ _).mono ?_); rintro e wl ⟨rfl, rfl⟩) | ((go_at_call 66); (with_reducible refine (mki_session _).mono ?_); rintro e wq1 ⟨a1, b1, c1, d1, rfl, hf, hb⟩; have HF1 := Lib.hid hf; have HB1 := Lib.hid hb; clear hf hb) | ((go_at_call 71); (with_reducible refine (mkm_true _).mono ?_); rintro e wq2 ⟨a2, b2, c2, d2, rfl, hf, hb⟩; have HF2 := Lib.hid hf; have HB2 := Lib.hid hb; clear hf hb))
  go_returns
  refine ⟨_, rfl, .inr ⟨wq2.heap.size, #[a1, b1, c1, d1, a2, b2, c2, d2], by decide, rfl, (below_step HB1.out HB2.out).size, heap_alloc_new _ _, rfl, ?_⟩, below_step (below_step HB1.out HB2.out) (below_alloc0 _ _)⟩
  intro i fd h
  exact (match i, h with
    | 0, h => by obtain rfl := Option.some.inj h; exact ⟨_, _, _, _, rfl, rfl, rfl, rfl, FdAt.lo (FdAt.below (FdAt.below HF1.out HB2.out) (below_alloc0 _ _)) (Nat.le_refl _)⟩
    | 1, h => by obtain rfl := Option.some.inj h; exact ⟨_, _, _, _, rfl, rfl, rfl, rfl, FdAt.lo (FdAt.below HF2.out (below_alloc0 _ _)) HB1.out.size⟩
    | n + 2, h => nomatch (show (none : Option Fd) = some fd from h))
set_option maxHeartbeats 3200000 in
theorem flds_18 (w : World) : Calls Tryz.prog 43 #[.int .i64 18] w fun e w' => ∃ v, e = .returned v ∧ RowAt w' w.heap.size (fdsOf 18) v ∧ Below w.heap.size w w' := by
  go_enter Tryz.func43, Tryz.ntmps43
  go_wp2_with (first | ((go_at_call 61); (with_reducible refine (list_calls _ _).mono ?_); rintro e wl ⟨rfl, rfl⟩) | ((go_at_call 66); (with_reducible refine (mki_session _).mono ?_); rintro e wq1 ⟨a1, b1, c1, d1, rfl, hf, hb⟩; have HF1 := Lib.hid hf; have HB1 := Lib.hid hb; clear hf hb) | ((go_at_call 62); (with_reducible refine (mkn_index_9999 _).mono ?_); rintro e wq2 ⟨a2, b2, c2, d2, rfl, hf, hb⟩; have HF2 := Lib.hid hf; have HB2 := Lib.hid hb; clear hf hb) | ((go_at_call 66); (with_reducible refine (mki_window _).mono ?_); rintro e wq3 ⟨a3, b3, c3, d3, rfl, hf, hb⟩; have HF3 := Lib.hid hf; have HB3 := Lib.hid hb; clear hf hb))
  go_returns
  refine ⟨_, rfl, .inr ⟨wq3.heap.size, #[a1, b1, c1, d1, a2, b2, c2, d2, a3, b3, c3, d3], by decide, rfl, (below_step (below_step HB1.out HB2.out) HB3.out).size, heap_alloc_new _ _, rfl, ?_⟩, below_step (below_step (below_step HB1.out HB2.out) HB3.out) (below_alloc0 _ _)⟩
  intro i fd h
  exact (match i, h with
    | 0, h => by obtain rfl := Option.some.inj h; exact ⟨_, _, _, _, rfl, rfl, rfl, rfl, FdAt.lo (FdAt.below (FdAt.below (FdAt.below HF1.out HB2.out) HB3.out) (below_alloc0 _ _)) (Nat.le_refl _)⟩
    | 1, h => by obtain rfl := Option.some.inj h; exact ⟨_, _, _, _, rfl, rfl, rfl, rfl, FdAt.lo (FdAt.below (FdAt.below HF2.out HB3.out) (below_alloc0 _ _)) HB1.out.size⟩
    | 2, h => by obtain rfl := Option.some.inj h; exact ⟨_, _, _, _, rfl, rfl, rfl, rfl, FdAt.lo (FdAt.below HF3.out (below_alloc0 _ _)) (below_step HB1.out HB2.out).size⟩
    | n + 3, h => nomatch (show (none : Option Fd) = some fd from h))
set_option maxHeartbeats 3200000 in
theorem flds_19 (w : World) : Calls Tryz.prog 43 #[.int .i64 19] w fun e w' => ∃ v, e = .returned v ∧ RowAt w' w.heap.size (fdsOf 19) v ∧ Below w.heap.size w w' := by
  go_enter Tryz.func43, Tryz.ntmps43
  go_wp2_with (first | ((go_at_call 61); (with_reducible refine (list_calls _ _).mono ?_); rintro e wl ⟨rfl, rfl⟩) | ((go_at_call 66); (with_reducible refine (mki_session _).mono ?_); rintro e wq1 ⟨a1, b1, c1, d1, rfl, hf, hb⟩; have HF1 := Lib.hid hf; have HB1 := Lib.hid hb; clear hf hb) | ((go_at_call 62); (with_reducible refine (mkn_index_9999 _).mono ?_); rintro e wq2 ⟨a2, b2, c2, d2, rfl, hf, hb⟩; have HF2 := Lib.hid hf; have HB2 := Lib.hid hb; clear hf hb))
  go_returns
  refine ⟨_, rfl, .inr ⟨wq2.heap.size, #[a1, b1, c1, d1, a2, b2, c2, d2], by decide, rfl, (below_step HB1.out HB2.out).size, heap_alloc_new _ _, rfl, ?_⟩, below_step (below_step HB1.out HB2.out) (below_alloc0 _ _)⟩
  intro i fd h
  exact (match i, h with
    | 0, h => by obtain rfl := Option.some.inj h; exact ⟨_, _, _, _, rfl, rfl, rfl, rfl, FdAt.lo (FdAt.below (FdAt.below HF1.out HB2.out) (below_alloc0 _ _)) (Nat.le_refl _)⟩
    | 1, h => by obtain rfl := Option.some.inj h; exact ⟨_, _, _, _, rfl, rfl, rfl, rfl, FdAt.lo (FdAt.below HF2.out (below_alloc0 _ _)) HB1.out.size⟩
    | n + 2, h => nomatch (show (none : Option Fd) = some fd from h))
set_option maxHeartbeats 3200000 in
theorem flds_20 (w : World) : Calls Tryz.prog 43 #[.int .i64 20] w fun e w' => ∃ v, e = .returned v ∧ RowAt w' w.heap.size (fdsOf 20) v ∧ Below w.heap.size w w' := by
  go_enter Tryz.func43, Tryz.ntmps43
  go_wp2_with (first | ((go_at_call 61); (with_reducible refine (list_calls _ _).mono ?_); rintro e wl ⟨rfl, rfl⟩) | ((go_at_call 66); (with_reducible refine (mki_session _).mono ?_); rintro e wq1 ⟨a1, b1, c1, d1, rfl, hf, hb⟩; have HF1 := Lib.hid hf; have HB1 := Lib.hid hb; clear hf hb) | ((go_at_call 62); (with_reducible refine (mkn_index_9999 _).mono ?_); rintro e wq2 ⟨a2, b2, c2, d2, rfl, hf, hb⟩; have HF2 := Lib.hid hf; have HB2 := Lib.hid hb; clear hf hb))
  go_returns
  refine ⟨_, rfl, .inr ⟨wq2.heap.size, #[a1, b1, c1, d1, a2, b2, c2, d2], by decide, rfl, (below_step HB1.out HB2.out).size, heap_alloc_new _ _, rfl, ?_⟩, below_step (below_step HB1.out HB2.out) (below_alloc0 _ _)⟩
  intro i fd h
  exact (match i, h with
    | 0, h => by obtain rfl := Option.some.inj h; exact ⟨_, _, _, _, rfl, rfl, rfl, rfl, FdAt.lo (FdAt.below (FdAt.below HF1.out HB2.out) (below_alloc0 _ _)) (Nat.le_refl _)⟩
    | 1, h => by obtain rfl := Option.some.inj h; exact ⟨_, _, _, _, rfl, rfl, rfl, rfl, FdAt.lo (FdAt.below HF2.out (below_alloc0 _ _)) HB1.out.size⟩
    | n + 2, h => nomatch (show (none : Option Fd) = some fd from h))
set_option maxHeartbeats 3200000 in
theorem flds_21 (w : World) : Calls Tryz.prog 43 #[.int .i64 21] w fun e w' => ∃ v, e = .returned v ∧ RowAt w' w.heap.size (fdsOf 21) v ∧ Below w.heap.size w w' := by
  go_enter Tryz.func43, Tryz.ntmps43
  go_wp2_with (first | ((go_at_call 61); (with_reducible refine (list_calls _ _).mono ?_); rintro e wl ⟨rfl, rfl⟩) | ((go_at_call 66); (with_reducible refine (mki_session _).mono ?_); rintro e wq1 ⟨a1, b1, c1, d1, rfl, hf, hb⟩; have HF1 := Lib.hid hf; have HB1 := Lib.hid hb; clear hf hb) | ((go_at_call 71); (with_reducible refine (mkm_true _).mono ?_); rintro e wq2 ⟨a2, b2, c2, d2, rfl, hf, hb⟩; have HF2 := Lib.hid hf; have HB2 := Lib.hid hb; clear hf hb))
  go_returns
  refine ⟨_, rfl, .inr ⟨wq2.heap.size, #[a1, b1, c1, d1, a2, b2, c2, d2], by decide, rfl, (below_step HB1.out HB2.out).size, heap_alloc_new _ _, rfl, ?_⟩, below_step (below_step HB1.out HB2.out) (below_alloc0 _ _)⟩
  intro i fd h
  exact (match i, h with
    | 0, h => by obtain rfl := Option.some.inj h; exact ⟨_, _, _, _, rfl, rfl, rfl, rfl, FdAt.lo (FdAt.below (FdAt.below HF1.out HB2.out) (below_alloc0 _ _)) (Nat.le_refl _)⟩
    | 1, h => by obtain rfl := Option.some.inj h; exact ⟨_, _, _, _, rfl, rfl, rfl, rfl, FdAt.lo (FdAt.below HF2.out (below_alloc0 _ _)) HB1.out.size⟩
    | n + 2, h => nomatch (show (none : Option Fd) = some fd from h))
set_option maxHeartbeats 3200000 in
theorem flds_22 (w : World) : Calls Tryz.prog 43 #[.int .i64 22] w fun e w' => ∃ v, e = .returned v ∧ RowAt w' w.heap.size (fdsOf 22) v ∧ Below w.heap.size w w' := by
  go_enter Tryz.func43, Tryz.ntmps43
  go_wp2_with (first | ((go_at_call 61); (with_reducible refine (list_calls _ _).mono ?_); rintro e wl ⟨rfl, rfl⟩) | ((go_at_call 71); (with_reducible refine (mkm_false _).mono ?_); rintro e wq1 ⟨a1, b1, c1, d1, rfl, hf, hb⟩; have HF1 := Lib.hid hf; have HB1 := Lib.hid hb; clear hf hb) | ((go_at_call 66); (with_reducible refine (mki_session _).mono ?_); rintro e wq2 ⟨a2, b2, c2, d2, rfl, hf, hb⟩; have HF2 := Lib.hid hf; have HB2 := Lib.hid hb; clear hf hb) | ((go_at_call 66); (with_reducible refine (mki_window _).mono ?_); rintro e wq3 ⟨a3, b3, c3, d3, rfl, hf, hb⟩; have HF3 := Lib.hid hf; have HB3 := Lib.hid hb; clear hf hb) | ((go_at_call 62); (with_reducible refine (mkn_index_9999 _).mono ?_); rintro e wq4 ⟨a4, b4, c4, d4, rfl, hf, hb⟩; have HF4 := Lib.hid hf; have HB4 := Lib.hid hb; clear hf hb) | ((go_at_call 66); (with_reducible refine (mki_pane _).mono ?_); rintro e wq5 ⟨a5, b5, c5, d5, rfl, hf, hb⟩; have HF5 := Lib.hid hf; have HB5 := Lib.hid hb; clear hf hb) | ((go_at_call 78); (with_reducible refine (mkc _).mono ?_); rintro e wq6 ⟨a6, b6, c6, d6, rfl, hf, hb⟩; have HF6 := Lib.hid hf; have HB6 := Lib.hid hb; clear hf hb) | ((go_at_call 68); (with_reducible refine (mkt_0_1024 _).mono ?_); rintro e wq7 ⟨a7, b7, c7, d7, rfl, hf, hb⟩; have HF7 := Lib.hid hf; have HB7 := Lib.hid hb; clear hf hb))
  go_returns
  refine ⟨_, rfl, .inr ⟨wq7.heap.size, #[a1, b1, c1, d1, a2, b2, c2, d2, a3, b3, c3, d3, a4, b4, c4, d4, a5, b5, c5, d5, a6, b6, c6, d6, a7, b7, c7, d7], by decide, rfl, (below_step (below_step (below_step (below_step (below_step (below_step HB1.out HB2.out) HB3.out) HB4.out) HB5.out) HB6.out) HB7.out).size, heap_alloc_new _ _, rfl, ?_⟩, below_step (below_step (below_step (below_step (below_step (below_step (below_step HB1.out HB2.out) HB3.out) HB4.out) HB5.out) HB6.out) HB7.out) (below_alloc0 _ _)⟩
  intro i fd h
  exact (match i, h with
    | 0, h => by obtain rfl := Option.some.inj h; exact ⟨_, _, _, _, rfl, rfl, rfl, rfl, FdAt.lo (FdAt.below (FdAt.below (FdAt.below (FdAt.below (FdAt.below (FdAt.below (FdAt.below HF1.out HB2.out) HB3.out) HB4.out) HB5.out) HB6.out) HB7.out) (below_alloc0 _ _)) (Nat.le_refl _)⟩
    | 1, h => by obtain rfl := Option.some.inj h; exact ⟨_, _, _, _, rfl, rfl, rfl, rfl, FdAt.lo (FdAt.below (FdAt.below (FdAt.below (FdAt.below (FdAt.below (FdAt.below HF2.out HB3.out) HB4.out) HB5.out) HB6.out) HB7.out) (below_alloc0 _ _)) HB1.out.size⟩
    | 2, h => by obtain rfl := Option.some.inj h; exact ⟨_, _, _, _, rfl, rfl, rfl, rfl, FdAt.lo (FdAt.below (FdAt.below (FdAt.below (FdAt.below (FdAt.below HF3.out HB4.out) HB5.out) HB6.out) HB7.out) (below_alloc0 _ _)) (below_step HB1.out HB2.out).size⟩
    | 3, h => by obtain rfl := Option.some.inj h; exact ⟨_, _, _, _, rfl, rfl, rfl, rfl, FdAt.lo (FdAt.below (FdAt.below (FdAt.below (FdAt.below HF4.out HB5.out) HB6.out) HB7.out) (below_alloc0 _ _)) (below_step (below_step HB1.out HB2.out) HB3.out).size⟩
    | 4, h => by obtain rfl := Option.some.inj h; exact ⟨_, _, _, _, rfl, rfl, rfl, rfl, FdAt.lo (FdAt.below (FdAt.below (FdAt.below HF5.out HB6.out) HB7.out) (below_alloc0 _ _)) (below_step (below_step (below_step HB1.out HB2.out) HB3.out) HB4.out).size⟩
    | 5, h => by obtain rfl := Option.some.inj h; exact ⟨_, _, _, _, rfl, rfl, rfl, rfl, FdAt.lo (FdAt.below (FdAt.below HF6.out HB7.out) (below_alloc0 _ _)) (below_step (below_step (below_step (below_step HB1.out HB2.out) HB3.out) HB4.out) HB5.out).size⟩
    | 6, h => by obtain rfl := Option.some.inj h; exact ⟨_, _, _, _, rfl, rfl, rfl, rfl, FdAt.lo (FdAt.below HF7.out (below_alloc0 _ _)) (below_step (below_step (below_step (below_step (below_step HB1.out HB2.out) HB3.out) HB4.out) HB5.out) HB6.out).size⟩
    | n + 7, h => nomatch (show (none : Option Fd) = some fd from h))
set_option maxHeartbeats 3200000 in
theorem flds_23 (w : World) : Calls Tryz.prog 43 #[.int .i64 23] w fun e w' => ∃ v, e = .returned v ∧ RowAt w' w.heap.size (fdsOf 23) v ∧ Below w.heap.size w w' := by
  go_enter Tryz.func43, Tryz.ntmps43
  go_wp2_with (first | ((go_at_call 61); (with_reducible refine (list_calls _ _).mono ?_); rintro e wl ⟨rfl, rfl⟩) | ((go_at_call 68); (with_reducible refine (mkt_0_1024 _).mono ?_); rintro e wq1 ⟨a1, b1, c1, d1, rfl, hf, hb⟩; have HF1 := Lib.hid hf; have HB1 := Lib.hid hb; clear hf hb))
  go_returns
  refine ⟨_, rfl, .inr ⟨wq1.heap.size, #[a1, b1, c1, d1], by decide, rfl, HB1.out.size, heap_alloc_new _ _, rfl, ?_⟩, below_step HB1.out (below_alloc0 _ _)⟩
  intro i fd h
  exact (match i, h with
    | 0, h => by obtain rfl := Option.some.inj h; exact ⟨_, _, _, _, rfl, rfl, rfl, rfl, FdAt.lo (FdAt.below HF1.out (below_alloc0 _ _)) (Nat.le_refl _)⟩
    | n + 1, h => nomatch (show (none : Option Fd) = some fd from h))
set_option maxHeartbeats 3200000 in
theorem flds_24 (w : World) : Calls Tryz.prog 43 #[.int .i64 24] w fun e w' => ∃ v, e = .returned v ∧ RowAt w' w.heap.size (fdsOf 24) v ∧ Below w.heap.size w w' := by
  go_enter Tryz.func43, Tryz.ntmps43
  go_wp2_with (first | ((go_at_call 61); (with_reducible refine (list_calls _ _).mono ?_); rintro e wl ⟨rfl, rfl⟩) | ((go_at_call 68); (with_reducible refine (mkt_1_1024 _).mono ?_); rintro e wq1 ⟨a1, b1, c1, d1, rfl, hf, hb⟩; have HF1 := Lib.hid hf; have HB1 := Lib.hid hb; clear hf hb))
  go_returns
  refine ⟨_, rfl, .inr ⟨wq1.heap.size, #[a1, b1, c1, d1], by decide, rfl, HB1.out.size, heap_alloc_new _ _, rfl, ?_⟩, below_step HB1.out (below_alloc0 _ _)⟩
  intro i fd h
  exact (match i, h with
    | 0, h => by obtain rfl := Option.some.inj h; exact ⟨_, _, _, _, rfl, rfl, rfl, rfl, FdAt.lo (FdAt.below HF1.out (below_alloc0 _ _)) (Nat.le_refl _)⟩
    | n + 1, h => nomatch (show (none : Option Fd) = some fd from h))
set_option maxHeartbeats 3200000 in
theorem flds_none (w : World) (k : Int) (hk : k ≠ 1 ∧ k ≠ 2 ∧ k ≠ 3 ∧ k ≠ 5 ∧ k ≠ 6 ∧ k ≠ 7 ∧ k ≠ 8 ∧ k ≠ 9 ∧ k ≠ 10 ∧ k ≠ 11 ∧ k ≠ 12 ∧ k ≠ 13 ∧ k ≠ 14 ∧ k ≠ 15 ∧ k ≠ 16 ∧ k ≠ 17 ∧ k ≠ 18 ∧ k ≠ 19 ∧ k ≠ 20 ∧ k ≠ 21 ∧ k ≠ 22 ∧ k ≠ 23 ∧ k ≠ 24) : Calls Tryz.prog 43 #[.int .i64 k] w fun e w' => e = .returned (.slice none 0 0) ∧ Below w.heap.size w w' := by
  obtain ⟨h1, h2, h3, h5, h6, h7, h8, h9, h10, h11, h12, h13, h14, h15, h16, h17, h18, h19, h20, h21, h22, h23, h24⟩ := hk
  go_enter Tryz.func43, Tryz.ntmps43
  go_wp2
  all_goals go_returns
  all_goals exact ⟨rfl, Below.refl _ _⟩
end Go.Proofs.YtnblabfkkcohgaaGreatDoor.Wire
end
section
-- Printed by a program of the kit, cut by a program of this session (prune.py). Lean checks it.
namespace Go.Proofs.YtnblabfkkcohgaaGreatDoor.PWireOne
open Go.RowKit Go.Proofs.YtnblabfkkcohgaaGreatDoorW.PrintWords Go.Proofs.YtnblabfkkcohgaaGreatDoorW.PrintLast Go.Proofs.YtnblabfkkcohgaaGreatDoorW.PrintMore
attribute [local go_sem] max2_int min2_int max_two min_two max_three min_three max_four min_four   -- for this text's walks alone
set_option linter.unusedVariables false
set_option linter.unusedSimpArgs false

def errW : Option Int → Value
  | none => .nilIface
  | some c => .iface 0 (.int .i64 c)
theorem errW_none : errW none = .nilIface := rfl
theorem errW_some (c : Int) : errW (some c) = .iface 0 (.int .i64 c) := rfl

-- the values' own types
/-! #### struct type 28 -/
structure S28 where
  f0 : Int
  f1 : Int
  f2 : Int
  f3 : Int
  f4 : Int
  f5 : Int
  f6 : Int
  f7 : Int
  f8 : Int
  f9 : ByteArray
  f10 : ByteArray
  f11 : ByteArray
  f12 : ByteArray
  f13 : Bool
def z28 : S28 := ⟨(0 : Int), (0 : Int), (0 : Int), (0 : Int), (0 : Int), (0 : Int), (0 : Int), (0 : Int), (0 : Int), (⟨#[]⟩ : ByteArray), (⟨#[]⟩ : ByteArray), (⟨#[]⟩ : ByteArray), (⟨#[]⟩ : ByteArray), false⟩
def k28 : Kd S28 := Kd.iso (Kd.pair (Kd.int .i64) (Kd.pair (Kd.int .i64) (Kd.pair (Kd.int .i64) (Kd.pair (Kd.int .i64) (Kd.pair (Kd.int .i64) (Kd.pair (Kd.int .i64) (Kd.pair (Kd.int .i64) (Kd.pair (Kd.int .i64) (Kd.pair (Kd.int .i64) (Kd.pair Kd.string (Kd.pair Kd.string (Kd.pair Kd.string (Kd.pair Kd.string Kd.bool))))))))))))) (fun x : S28 => (x.f0, x.f1, x.f2, x.f3, x.f4, x.f5, x.f6, x.f7, x.f8, x.f9, x.f10, x.f11, x.f12, x.f13))
theorem k28_open {w : World} {x : S28} {cs : List Value} (h : k28.K w x cs) : cs = [.int .i64 x.f0, .int .i64 x.f1, .int .i64 x.f2, .int .i64 x.f3, .int .i64 x.f4, .int .i64 x.f5, .int .i64 x.f6, .int .i64 x.f7, .int .i64 x.f8, .string x.f9, .string x.f10, .string x.f11, .string x.f12, .bool x.f13] := by
  obtain ⟨_, _, rfl, rfl, ⟨_, _, rfl, rfl, ⟨_, _, rfl, rfl, ⟨_, _, rfl, rfl, ⟨_, _, rfl, rfl, ⟨_, _, rfl, rfl, ⟨_, _, rfl, rfl, ⟨_, _, rfl, rfl, ⟨_, _, rfl, rfl, ⟨_, _, rfl, rfl, ⟨_, _, rfl, rfl, ⟨_, _, rfl, rfl, ⟨_, _, rfl, rfl, rfl⟩⟩⟩⟩⟩⟩⟩⟩⟩⟩⟩⟩⟩ := h
  exact rfl
theorem k28_mk (w : World) (x : S28)  : k28.K w x [.int .i64 x.f0, .int .i64 x.f1, .int .i64 x.f2, .int .i64 x.f3, .int .i64 x.f4, .int .i64 x.f5, .int .i64 x.f6, .int .i64 x.f7, .int .i64 x.f8, .string x.f9, .string x.f10, .string x.f11, .string x.f12, .bool x.f13] := ⟨[.int .i64 x.f0], [.int .i64 x.f1, .int .i64 x.f2, .int .i64 x.f3, .int .i64 x.f4, .int .i64 x.f5, .int .i64 x.f6, .int .i64 x.f7, .int .i64 x.f8, .string x.f9, .string x.f10, .string x.f11, .string x.f12, .bool x.f13], rfl, rfl, ⟨[.int .i64 x.f1], [.int .i64 x.f2, .int .i64 x.f3, .int .i64 x.f4, .int .i64 x.f5, .int .i64 x.f6, .int .i64 x.f7, .int .i64 x.f8, .string x.f9, .string x.f10, .string x.f11, .string x.f12, .bool x.f13], rfl, rfl, ⟨[.int .i64 x.f2], [.int .i64 x.f3, .int .i64 x.f4, .int .i64 x.f5, .int .i64 x.f6, .int .i64 x.f7, .int .i64 x.f8, .string x.f9, .string x.f10, .string x.f11, .string x.f12, .bool x.f13], rfl, rfl, ⟨[.int .i64 x.f3], [.int .i64 x.f4, .int .i64 x.f5, .int .i64 x.f6, .int .i64 x.f7, .int .i64 x.f8, .string x.f9, .string x.f10, .string x.f11, .string x.f12, .bool x.f13], rfl, rfl, ⟨[.int .i64 x.f4], [.int .i64 x.f5, .int .i64 x.f6, .int .i64 x.f7, .int .i64 x.f8, .string x.f9, .string x.f10, .string x.f11, .string x.f12, .bool x.f13], rfl, rfl, ⟨[.int .i64 x.f5], [.int .i64 x.f6, .int .i64 x.f7, .int .i64 x.f8, .string x.f9, .string x.f10, .string x.f11, .string x.f12, .bool x.f13], rfl, rfl, ⟨[.int .i64 x.f6], [.int .i64 x.f7, .int .i64 x.f8, .string x.f9, .string x.f10, .string x.f11, .string x.f12, .bool x.f13], rfl, rfl, ⟨[.int .i64 x.f7], [.int .i64 x.f8, .string x.f9, .string x.f10, .string x.f11, .string x.f12, .bool x.f13], rfl, rfl, ⟨[.int .i64 x.f8], [.string x.f9, .string x.f10, .string x.f11, .string x.f12, .bool x.f13], rfl, rfl, ⟨[.string x.f9], [.string x.f10, .string x.f11, .string x.f12, .bool x.f13], rfl, rfl, ⟨[.string x.f10], [.string x.f11, .string x.f12, .bool x.f13], rfl, rfl, ⟨[.string x.f11], [.string x.f12, .bool x.f13], rfl, rfl, ⟨[.string x.f12], [.bool x.f13], rfl, rfl, rfl⟩⟩⟩⟩⟩⟩⟩⟩⟩⟩⟩⟩⟩
theorem k28_mkM (w : World) (base : Nat) (ok : Nat → Prop) (x : S28)  : k28.M w base ok x [.int .i64 x.f0, .int .i64 x.f1, .int .i64 x.f2, .int .i64 x.f3, .int .i64 x.f4, .int .i64 x.f5, .int .i64 x.f6, .int .i64 x.f7, .int .i64 x.f8, .string x.f9, .string x.f10, .string x.f11, .string x.f12, .bool x.f13] := ⟨[.int .i64 x.f0], [.int .i64 x.f1, .int .i64 x.f2, .int .i64 x.f3, .int .i64 x.f4, .int .i64 x.f5, .int .i64 x.f6, .int .i64 x.f7, .int .i64 x.f8, .string x.f9, .string x.f10, .string x.f11, .string x.f12, .bool x.f13], rfl, rfl, ⟨[.int .i64 x.f1], [.int .i64 x.f2, .int .i64 x.f3, .int .i64 x.f4, .int .i64 x.f5, .int .i64 x.f6, .int .i64 x.f7, .int .i64 x.f8, .string x.f9, .string x.f10, .string x.f11, .string x.f12, .bool x.f13], rfl, rfl, ⟨[.int .i64 x.f2], [.int .i64 x.f3, .int .i64 x.f4, .int .i64 x.f5, .int .i64 x.f6, .int .i64 x.f7, .int .i64 x.f8, .string x.f9, .string x.f10, .string x.f11, .string x.f12, .bool x.f13], rfl, rfl, ⟨[.int .i64 x.f3], [.int .i64 x.f4, .int .i64 x.f5, .int .i64 x.f6, .int .i64 x.f7, .int .i64 x.f8, .string x.f9, .string x.f10, .string x.f11, .string x.f12, .bool x.f13], rfl, rfl, ⟨[.int .i64 x.f4], [.int .i64 x.f5, .int .i64 x.f6, .int .i64 x.f7, .int .i64 x.f8, .string x.f9, .string x.f10, .string x.f11, .string x.f12, .bool x.f13], rfl, rfl, ⟨[.int .i64 x.f5], [.int .i64 x.f6, .int .i64 x.f7, .int .i64 x.f8, .string x.f9, .string x.f10, .string x.f11, .string x.f12, .bool x.f13], rfl, rfl, ⟨[.int .i64 x.f6], [.int .i64 x.f7, .int .i64 x.f8, .string x.f9, .string x.f10, .string x.f11, .string x.f12, .bool x.f13], rfl, rfl, ⟨[.int .i64 x.f7], [.int .i64 x.f8, .string x.f9, .string x.f10, .string x.f11, .string x.f12, .bool x.f13], rfl, rfl, ⟨[.int .i64 x.f8], [.string x.f9, .string x.f10, .string x.f11, .string x.f12, .bool x.f13], rfl, rfl, ⟨[.string x.f9], [.string x.f10, .string x.f11, .string x.f12, .bool x.f13], rfl, rfl, ⟨[.string x.f10], [.string x.f11, .string x.f12, .bool x.f13], rfl, rfl, ⟨[.string x.f11], [.string x.f12, .bool x.f13], rfl, rfl, ⟨[.string x.f12], [.bool x.f13], rfl, rfl, rfl⟩⟩⟩⟩⟩⟩⟩⟩⟩⟩⟩⟩⟩
def rd_T28 (xs : List S28) (i : Int) : S28 := xs.getD i.toNat z28
theorem at_T28 {w : World} {A : Option Addr} {n : Nat} {xs : List S28} (h : Kd.C k28 w A n xs) (i : Int) (h0 : 0 ≤ i) (h1 : i < n) : ∃ ad , A = some ad ∧ w.cell? (ad.add (i.toNat * 14)) = some (.int .i64 (rd_T28 xs i).f0) ∧ w.cell? ⟨(ad.add (i.toNat * 14)).block, (ad.add (i.toNat * 14)).off + 1, none⟩ = some (.int .i64 (rd_T28 xs i).f1) ∧ w.cell? ⟨(ad.add (i.toNat * 14)).block, (ad.add (i.toNat * 14)).off + 2, none⟩ = some (.int .i64 (rd_T28 xs i).f2) ∧ w.cell? ⟨(ad.add (i.toNat * 14)).block, (ad.add (i.toNat * 14)).off + 3, none⟩ = some (.int .i64 (rd_T28 xs i).f3) ∧ w.cell? ⟨(ad.add (i.toNat * 14)).block, (ad.add (i.toNat * 14)).off + 4, none⟩ = some (.int .i64 (rd_T28 xs i).f4) ∧ w.cell? ⟨(ad.add (i.toNat * 14)).block, (ad.add (i.toNat * 14)).off + 5, none⟩ = some (.int .i64 (rd_T28 xs i).f5) ∧ w.cell? ⟨(ad.add (i.toNat * 14)).block, (ad.add (i.toNat * 14)).off + 6, none⟩ = some (.int .i64 (rd_T28 xs i).f6) ∧ w.cell? ⟨(ad.add (i.toNat * 14)).block, (ad.add (i.toNat * 14)).off + 7, none⟩ = some (.int .i64 (rd_T28 xs i).f7) ∧ w.cell? ⟨(ad.add (i.toNat * 14)).block, (ad.add (i.toNat * 14)).off + 8, none⟩ = some (.int .i64 (rd_T28 xs i).f8) ∧ w.cell? ⟨(ad.add (i.toNat * 14)).block, (ad.add (i.toNat * 14)).off + 9, none⟩ = some (.string (rd_T28 xs i).f9) ∧ w.cell? ⟨(ad.add (i.toNat * 14)).block, (ad.add (i.toNat * 14)).off + 10, none⟩ = some (.string (rd_T28 xs i).f10) ∧ w.cell? ⟨(ad.add (i.toNat * 14)).block, (ad.add (i.toNat * 14)).off + 11, none⟩ = some (.string (rd_T28 xs i).f11) ∧ w.cell? ⟨(ad.add (i.toNat * 14)).block, (ad.add (i.toNat * 14)).off + 12, none⟩ = some (.string (rd_T28 xs i).f12) ∧ w.cell? ⟨(ad.add (i.toNat * 14)).block, (ad.add (i.toNat * 14)).off + 13, none⟩ = some (.bool (rd_T28 xs i).f13) := by
  obtain ⟨ad, c, e, _, hK, hc0⟩ := Kd.C_get h z28 i h0 h1
  have hc : ∀ j u, c[j]? = some u → w.cell? (ad.add (i.toNat * 14 + j)) = some u := hc0
  obtain rfl := k28_open hK
  exact ⟨ad, e, hc 0 _ rfl, by rw [← add_field _ _ 1 (by omega)]; exact hc 1 _ rfl, by rw [← add_field _ _ 2 (by omega)]; exact hc 2 _ rfl, by rw [← add_field _ _ 3 (by omega)]; exact hc 3 _ rfl, by rw [← add_field _ _ 4 (by omega)]; exact hc 4 _ rfl, by rw [← add_field _ _ 5 (by omega)]; exact hc 5 _ rfl, by rw [← add_field _ _ 6 (by omega)]; exact hc 6 _ rfl, by rw [← add_field _ _ 7 (by omega)]; exact hc 7 _ rfl, by rw [← add_field _ _ 8 (by omega)]; exact hc 8 _ rfl, by rw [← add_field _ _ 9 (by omega)]; exact hc 9 _ rfl, by rw [← add_field _ _ 10 (by omega)]; exact hc 10 _ rfl, by rw [← add_field _ _ 11 (by omega)]; exact hc 11 _ rfl, by rw [← add_field _ _ 12 (by omega)]; exact hc 12 _ rfl, by rw [← add_field _ _ 13 (by omega)]; exact hc 13 _ rfl⟩

end Go.Proofs.YtnblabfkkcohgaaGreatDoor.PWireOne
end
section
-- Printed by a program of the kit, cut by a program of this session (prune.py). Lean checks it.
namespace Go.Proofs.YtnblabfkkcohgaaGreatDoor.PWireOne
open Go.RowKit Go.Proofs.YtnblabfkkcohgaaGreatDoorW.PrintWords Go.Proofs.YtnblabfkkcohgaaGreatDoorW.PrintLast Go.Proofs.YtnblabfkkcohgaaGreatDoorW.PrintMore
attribute [local go_sem] max2_int min2_int max_two min_two max_three min_three max_four min_four   -- for this text's walks alone
set_option linter.unusedVariables false
set_option linter.unusedSimpArgs false

theorem eqA28 (d : Nat) (w : World) (x0 y0 : Int) (x1 y1 : Int) (x2 y2 : Int) (x3 y3 : Int) (x4 y4 : Int) (x5 y5 : Int) (x6 y6 : Int) (x7 y7 : Int) (x8 y8 : Int) (x9 y9 : ByteArray) (x10 y10 : ByteArray) (x11 y11 : ByteArray) (x12 y12 : ByteArray) (x13 y13 : Bool) :
    (Op.equalIn (d + 2) 28 (.agg #[.int .i64 x0, .int .i64 x1, .int .i64 x2, .int .i64 x3, .int .i64 x4, .int .i64 x5, .int .i64 x6, .int .i64 x7, .int .i64 x8, .string x9, .string x10, .string x11, .string x12, .bool x13]) (.agg #[.int .i64 y0, .int .i64 y1, .int .i64 y2, .int .i64 y3, .int .i64 y4, .int .i64 y5, .int .i64 y6, .int .i64 y7, .int .i64 y8, .string y9, .string y10, .string y11, .string y12, .bool y13])).run Tryz.prog w = .ok (x0 == y0 && (x1 == y1 && (x2 == y2 && (x3 == y3 && (x4 == y4 && (x5 == y5 && (x6 == y6 && (x7 == y7 && (x8 == y8 && (x9.toList == y9.toList && (x10.toList == y10.toList && (x11.toList == y11.toList && (x12.toList == y12.toList && (x13 == y13)))))))))))))) w := by
  refine eqA_of Tryz.underlying28 (by kernel_rfl) ?_
  refine eqf_cons (by rfl) (by go_simp; rfl) (by go_simp; rfl) (by go_simp) ?_
  refine eqf_cons (by rfl) (by go_simp; rfl) (by go_simp; rfl) (by go_simp) ?_
  refine eqf_cons (by rfl) (by go_simp; rfl) (by go_simp; rfl) (by go_simp) ?_
  refine eqf_cons (by rfl) (by go_simp; rfl) (by go_simp; rfl) (by go_simp) ?_
  refine eqf_cons (by rfl) (by go_simp; rfl) (by go_simp; rfl) (by go_simp) ?_
  refine eqf_cons (by rfl) (by go_simp; rfl) (by go_simp; rfl) (by go_simp) ?_
  refine eqf_cons (by rfl) (by go_simp; rfl) (by go_simp; rfl) (by go_simp) ?_
  refine eqf_cons (by rfl) (by go_simp; rfl) (by go_simp; rfl) (by go_simp) ?_
  refine eqf_cons (by rfl) (by go_simp; rfl) (by go_simp; rfl) (by go_simp) ?_
  refine eqf_cons (by rfl) (by go_simp; rfl) (by go_simp; rfl) (by go_simp) ?_
  refine eqf_cons (by rfl) (by go_simp; rfl) (by go_simp; rfl) (by go_simp) ?_
  refine eqf_cons (by rfl) (by go_simp; rfl) (by go_simp; rfl) (by go_simp) ?_
  refine eqf_cons (by rfl) (by go_simp; rfl) (by go_simp; rfl) (by go_simp) ?_
  exact eqf_last (by rfl) (by go_simp; rfl) (by go_simp; rfl) (by go_simp)
end Go.Proofs.YtnblabfkkcohgaaGreatDoor.PWireOne
end
