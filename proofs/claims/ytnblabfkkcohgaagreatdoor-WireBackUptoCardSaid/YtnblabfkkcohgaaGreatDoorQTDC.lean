/- Texts of this claim, put together by a program of this session (prune.py): CardE. -/
import Derived.Test.YtnblabfkkcohgaaGreatDoorQTDA
import Derived.Test.YtnblabfkkcohgaaGreatDoorQTCJ
import Derived.Deep.Slices
import Derived.Lib.SmallJoins
section
/- An argument that is an event, opened; how long its texts are. -/
namespace Go.Proofs.YtnblabfkkcohgaaGreatDoor.Card
open Go.ChangeShapes Go.WideShapes Go.ChangeAt Go.RowKit Go.Proofs.YtnblabfkkcohgaaGreatDoor.Wire
set_option linter.unusedVariables false
section
variable {H : Type} {enc : TypeId × Value → H} {P : Program} {W : World} {base : Nat} {spare : Nat → Bool} {held : Bool}
/-- A struct of fourteen fields of one cell each, opened. -/
theorem one14 {e : TypeId} {f0 f1 f2 f3 f4 f5 f6 f7 f8 f9 f10 f11 f12 f13 : Field} (he : P.underlying e = some (.struct #[f0, f1, f2, f3, f4, f5, f6, f7, f8, f9, f10, f11, f12, f13])) (ho : [f0.offset, f1.offset, f2.offset, f3.offset, f4.offset, f5.offset, f6.offset, f7.offset, f8.offset, f9.offset, f10.offset, f11.offset, f12.offset, f13.offset] = List.range 14)
    (hc : ∀ f ∈ [f0, f1, f2, f3, f4, f5, f6, f7, f8, f9, f10, f11, f12, f13], P.cellsOf f.type = 1) {n : Nat} {cs : List Value} {D : DataW H} {Pl : List MemPlace}
    (h : DataW.trod enc P W base spare held n e cs = some (D, Pl)) (hl : cs.length = 14) :
    ∃ (v0 v1 v2 v3 v4 v5 v6 v7 v8 v9 v10 v11 v12 v13 : Value) (x0 x1 x2 x3 x4 x5 x6 x7 x8 x9 x10 x11 x12 x13 : DataW H × List MemPlace) (k : Nat), cs = [v0, v1, v2, v3, v4, v5, v6, v7, v8, v9, v10, v11, v12, v13] ∧ D = .agg [x0.1, x1.1, x2.1, x3.1, x4.1, x5.1, x6.1, x7.1, x8.1, x9.1, x10.1, x11.1, x12.1, x13.1] ∧
      DataW.trod enc P W base spare held k f0.type [v0] = some x0 ∧ DataW.trod enc P W base spare held k f1.type [v1] = some x1 ∧ DataW.trod enc P W base spare held k f2.type [v2] = some x2 ∧ DataW.trod enc P W base spare held k f3.type [v3] = some x3 ∧ DataW.trod enc P W base spare held k f4.type [v4] = some x4 ∧ DataW.trod enc P W base spare held k f5.type [v5] = some x5 ∧ DataW.trod enc P W base spare held k f6.type [v6] = some x6 ∧ DataW.trod enc P W base spare held k f7.type [v7] = some x7 ∧ DataW.trod enc P W base spare held k f8.type [v8] = some x8 ∧ DataW.trod enc P W base spare held k f9.type [v9] = some x9 ∧ DataW.trod enc P W base spare held k f10.type [v10] = some x10 ∧ DataW.trod enc P W base spare held k f11.type [v11] = some x11 ∧ DataW.trod enc P W base spare held k f12.type [v12] = some x12 ∧ DataW.trod enc P W base spare held k f13.type [v13] = some x13 := by
  obtain ⟨xs, k, rfl, hxy, _, hxl, hf⟩ := DataW.trod_struct he h
  obtain ⟨rfl, rfl⟩ := Prod.mk.inj hxy
  simp only [List.cons.injEq, List.range, List.range.loop] at ho
  obtain ⟨o0, o1, o2, o3, o4, o5, o6, o7, o8, o9, o10, o11, o12, o13, _⟩ := ho
  have c0 := hc f0 (by simp)
  have c1 := hc f1 (by simp)
  have c2 := hc f2 (by simp)
  have c3 := hc f3 (by simp)
  have c4 := hc f4 (by simp)
  have c5 := hc f5 (by simp)
  have c6 := hc f6 (by simp)
  have c7 := hc f7 (by simp)
  have c8 := hc f8 (by simp)
  have c9 := hc f9 (by simp)
  have c10 := hc f10 (by simp)
  have c11 := hc f11 (by simp)
  have c12 := hc f12 (by simp)
  have c13 := hc f13 (by simp)
  match xs, hxl, cs, hl with
  | [y0, y1, y2, y3, y4, y5, y6, y7, y8, y9, y10, y11, y12, y13], _, [v0, v1, v2, v3, v4, v5, v6, v7, v8, v9, v10, v11, v12, v13], _ =>
    have g0 := hf 0 f0 rfl
    have g1 := hf 1 f1 rfl
    have g2 := hf 2 f2 rfl
    have g3 := hf 3 f3 rfl
    have g4 := hf 4 f4 rfl
    have g5 := hf 5 f5 rfl
    have g6 := hf 6 f6 rfl
    have g7 := hf 7 f7 rfl
    have g8 := hf 8 f8 rfl
    have g9 := hf 9 f9 rfl
    have g10 := hf 10 f10 rfl
    have g11 := hf 11 f11 rfl
    have g12 := hf 12 f12 rfl
    have g13 := hf 13 f13 rfl
    simp [o0, o1, o2, o3, o4, o5, o6, o7, o8, o9, o10, o11, o12, o13, c0, c1, c2, c3, c4, c5, c6, c7, c8, c9, c10, c11, c12, c13] at g0 g1 g2 g3 g4 g5 g6 g7 g8 g9 g10 g11 g12 g13
    exact ⟨v0, v1, v2, v3, v4, v5, v6, v7, v8, v9, v10, v11, v12, v13, y0, y1, y2, y3, y4, y5, y6, y7, y8, y9, y10, y11, y12, y13, k, rfl, rfl, g0, g1, g2, g3, g4, g5, g6, g7, g8, g9, g10, g11, g12, g13⟩
end
/-- An event's reading. -/
def evDat {H : Type} (e : Evt) : DataW H := .agg [.lit (.int .i64 e.kind), .lit (.int .i64 e.session), .lit (.int .i64 e.window), .lit (.int .i64 e.pane), .lit (.int .i64 e.index), .lit (.int .i64 e.offset), .lit (.int .i64 e.tick), .lit (.int .i64 e.number), .lit (.int .i64 e.flag), .lit (.string e.name.data.toList), .lit (.string e.text.data.toList), .lit (.string e.layout.data.toList), .lit (.string e.visible.data.toList), .lit (.bool e.zoom)]
theorem dat_sz {H : Type} {e : Evt} {m : Nat} (h : Rows.uptoBulk (evDat (H := H) e) ≤ m) : Sz m e := by
  unfold evDat at h
  simp only [Rows.uptoBulk, Rows.uptoBulkAll, dlen] at h
  exact ⟨by omega, by omega, by omega, by omega⟩
set_option maxRecDepth 100000 in
theorem one_event {H : Type} {enc : TypeId × Value → H} {W : World} {base : Nat} {spare : Nat → Bool} {held : Bool} (n : Nat) (cs : List Value) (D : DataW H) (Pl : List MemPlace)
    (h : DataW.trod enc Tryz.prog W base spare held n 28 cs = some (D, Pl)) (hl : cs.length = 14) : ∃ e : Evt, cs = (evCells e).toList ∧ D = evDat e := by
  obtain ⟨v0, v1, v2, v3, v4, v5, v6, v7, v8, v9, v10, v11, v12, v13, x0, x1, x2, x3, x4, x5, x6, x7, x8, x9, x10, x11, x12, x13, k, rfl, rfl, g0, g1, g2, g3, g4, g5, g6, g7, g8, g9, g10, g11, g12, g13⟩ := one14 Tryz.underlying28 rfl (by intro f hf; simp only [List.mem_cons, List.not_mem_nil, or_false] at hf; rcases hf with rfl | rfl | rfl | rfl | rfl | rfl | rfl | rfl | rfl | rfl | rfl | rfl | rfl | rfl <;> kernel_rfl) h hl
  obtain ⟨a0, e0, r0, -⟩ := DataW.trod_int Tryz.underlying3 g0
  obtain ⟨a1, e1, r1, -⟩ := DataW.trod_int Tryz.underlying3 g1
  obtain ⟨a2, e2, r2, -⟩ := DataW.trod_int Tryz.underlying3 g2
  obtain ⟨a3, e3, r3, -⟩ := DataW.trod_int Tryz.underlying3 g3
  obtain ⟨a4, e4, r4, -⟩ := DataW.trod_int Tryz.underlying3 g4
  obtain ⟨a5, e5, r5, -⟩ := DataW.trod_int Tryz.underlying3 g5
  obtain ⟨a6, e6, r6, -⟩ := DataW.trod_int Tryz.underlying3 g6
  obtain ⟨a7, e7, r7, -⟩ := DataW.trod_int Tryz.underlying3 g7
  obtain ⟨a8, e8, r8, -⟩ := DataW.trod_int Tryz.underlying3 g8
  obtain ⟨a9, e9, r9, -⟩ := DataW.trod_string Tryz.underlying9 g9
  obtain ⟨a10, e10, r10, -⟩ := DataW.trod_string Tryz.underlying9 g10
  obtain ⟨a11, e11, r11, -⟩ := DataW.trod_string Tryz.underlying9 g11
  obtain ⟨a12, e12, r12, -⟩ := DataW.trod_string Tryz.underlying9 g12
  obtain ⟨a13, e13, r13⟩ := DataW.trod_bool Tryz.underlying4 g13
  simp only [List.cons.injEq, and_true] at e0 e1 e2 e3 e4 e5 e6 e7 e8 e9 e10 e11 e12 e13
  subst e0 e1 e2 e3 e4 e5 e6 e7 e8 e9 e10 e11 e12 e13
  refine ⟨⟨a0, a1, a2, a3, a4, a5, a6, a7, a8, a9, a10, a11, a12, a13⟩, rfl, ?_⟩
  simp only [evDat, r0, r1, r2, r3, r4, r5, r6, r7, r8, r9, r10, r11, r12, r13]
set_option maxRecDepth 100000 in
theorem open_event {H : Type} {enc : TypeId × Value → H} {W : World} {base : Nat} {r : Reach} {spare : Nat → Bool} {held : Bool} {v : Value} {d : DataW H} {p : List MemPlace}
    (hv : Value.okWide Tryz.prog W r base 28 v) (h : DataW.Trod enc Tryz.prog W 0 spare held 28 v d p) : ∃ e : Evt, v = .agg #[.int .i64 e.kind, .int .i64 e.session, .int .i64 e.window, .int .i64 e.pane, .int .i64 e.index, .int .i64 e.offset, .int .i64 e.tick, .int .i64 e.number, .int .i64 e.flag, .string e.name, .string e.text, .string e.layout, .string e.visible, .bool e.zoom] ∧ d = evDat e := by
  obtain ⟨cs, rfl, hsz⟩ := okWide_struct Tryz.underlying28 hv
  have hsz : cs.size = 14 := hsz.trans (by kernel_rfl)
  obtain ⟨n, hn⟩ := h
  obtain ⟨e, h1, h2⟩ := one_event n _ _ _ hn (by simpa [Value.cells] using hsz)
  refine ⟨e, ?_, h2⟩
  have h3 : cs.toList = (evCells e).toList := by simpa [Value.cells] using h1
  rw [Array.toList_inj.1 h3]
  rfl
end Go.Proofs.YtnblabfkkcohgaaGreatDoor.Card
end
