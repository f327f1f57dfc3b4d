/- Texts of this claim, put together by a program of this session (prune.py): CardE, CardR. -/
import Derived.Test.YtnblabfkkcohgaaGreatDoorQUEA
import Derived.Test.YtnblabfkkcohgaaGreatDoorQUCI
import Derived.Deep.Slices
import Derived.Lib.SmallJoins
import Derived.Test.YtnblabfkkcohgaaGreatDoorQUDB
import Derived.Test.YtnblabfkkcohgaaGreatDoorQUDG
section
/- An argument that is an event, opened; how long its texts are. -/
namespace Go.Proofs.YtnblabfkkcohgaaGreatDoor.Card
open Go.ChangeShapes Go.WideShapes Go.ChangeAt Go.RowKit Go.Proofs.YtnblabfkkcohgaaGreatDoor.Wire
set_option linter.unusedVariables false
section
variable {H : Type} {enc : TypeId × Value → H} {P : Program} {W : World} {base : Nat} {spare : Nat → Bool} {held : Bool}
/-- A struct of fourteen fields of one cell each, opened. -/
theorem one14 {e : TypeId} {f0 f1 f2 f3 f4 f5 f6 f7 f8 f9 f10 f11 f12 f13 : Field} (he : P.underlying e = some (.struct #[f0, f1, f2, f3, f4, f5, f6, f7, f8, f9, f10, f11, f12, f13])) (ho : [f0.offset, f1.offset, f2.offset, f3.offset, f4.offset, f5.offset, f6.offset, f7.offset, f8.offset, f9.offset, f10.offset, f11.offset, f12.offset, f13.offset] = List.range 14)
    (hc : ∀ f ∈ [f0, f1, f2, f3, f4, f5, f6, f7, f8, f9, f10, f11, f12, f13], P.cellsOf f.type = 1) {n : Nat} {cs : List Value} {D : DataW H} {Pl : List MemPlace}
    (h : DataW.trod enc P W base spare held n e cs = some (D, Pl)) (hl : cs.length = 14) :
    ∃ (v0 v1 v2 v3 v4 v5 v6 v7 v8 v9 v10 v11 v12 v13 : Value) (x0 x1 x2 x3 x4 x5 x6 x7 x8 x9 x10 x11 x12 x13 : DataW H × List MemPlace) (k : Nat), cs = [v0, v1, v2, v3, v4, v5, v6, v7, v8, v9, v10, v11, v12, v13] ∧ D = .agg [x0.1, x1.1, x2.1, x3.1, x4.1, x5.1, x6.1, x7.1, x8.1, x9.1, x10.1, x11.1, x12.1, x13.1] ∧
      DataW.trod enc P W base spare held k f0.type [v0] = some x0 ∧ DataW.trod enc P W base spare held k f1.type [v1] = some x1 ∧ DataW.trod enc P W base spare held k f2.type [v2] = some x2 ∧ DataW.trod enc P W base spare held k f3.type [v3] = some x3 ∧ DataW.trod enc P W base spare held k f4.type [v4] = some x4 ∧ DataW.trod enc P W base spare held k f5.type [v5] = some x5 ∧ DataW.trod enc P W base spare held k f6.type [v6] = some x6 ∧ DataW.trod enc P W base spare held k f7.type [v7] = some x7 ∧ DataW.trod enc P W base spare held k f8.type [v8] = some x8 ∧ DataW.trod enc P W base spare held k f9.type [v9] = some x9 ∧ DataW.trod enc P W base spare held k f10.type [v10] = some x10 ∧ DataW.trod enc P W base spare held k f11.type [v11] = some x11 ∧ DataW.trod enc P W base spare held k f12.type [v12] = some x12 ∧ DataW.trod enc P W base spare held k f13.type [v13] = some x13 := by
  obtain ⟨xs, k, rfl, hxy, _, hxl, hf⟩ := DataW.trod_struct he h
  obtain ⟨rfl, rfl⟩ := Prod.mk.inj hxy
  simp only [List.cons.injEq, List.range, List.range.loop] at ho
  obtain ⟨o0, o1, o2, o3, o4, o5, o6, o7, o8, o9, o10, o11, o12, o13, _⟩ := ho
  have c0 := hc f0 (by simp)
  have c1 := hc f1 (by simp)
  have c2 := hc f2 (by simp)
  have c3 := hc f3 (by simp)
  have c4 := hc f4 (by simp)
  have c5 := hc f5 (by simp)
  have c6 := hc f6 (by simp)
  have c7 := hc f7 (by simp)
  have c8 := hc f8 (by simp)
  have c9 := hc f9 (by simp)
  have c10 := hc f10 (by simp)
  have c11 := hc f11 (by simp)
  have c12 := hc f12 (by simp)
  have c13 := hc f13 (by simp)
  match xs, hxl, cs, hl with
  | [y0, y1, y2, y3, y4, y5, y6, y7, y8, y9, y10, y11, y12, y13], _, [v0, v1, v2, v3, v4, v5, v6, v7, v8, v9, v10, v11, v12, v13], _ =>
    have g0 := hf 0 f0 rfl
    have g1 := hf 1 f1 rfl
    have g2 := hf 2 f2 rfl
    have g3 := hf 3 f3 rfl
    have g4 := hf 4 f4 rfl
    have g5 := hf 5 f5 rfl
    have g6 := hf 6 f6 rfl
    have g7 := hf 7 f7 rfl
    have g8 := hf 8 f8 rfl
    have g9 := hf 9 f9 rfl
    have g10 := hf 10 f10 rfl
    have g11 := hf 11 f11 rfl
    have g12 := hf 12 f12 rfl
    have g13 := hf 13 f13 rfl
    simp [o0, o1, o2, o3, o4, o5, o6, o7, o8, o9, o10, o11, o12, o13, c0, c1, c2, c3, c4, c5, c6, c7, c8, c9, c10, c11, c12, c13] at g0 g1 g2 g3 g4 g5 g6 g7 g8 g9 g10 g11 g12 g13
    exact ⟨v0, v1, v2, v3, v4, v5, v6, v7, v8, v9, v10, v11, v12, v13, y0, y1, y2, y3, y4, y5, y6, y7, y8, y9, y10, y11, y12, y13, k, rfl, rfl, g0, g1, g2, g3, g4, g5, g6, g7, g8, g9, g10, g11, g12, g13⟩
end
/-- An event's reading. -/
def evDat {H : Type} (e : Evt) : DataW H := .agg [.lit (.int .i64 e.kind), .lit (.int .i64 e.session), .lit (.int .i64 e.window), .lit (.int .i64 e.pane), .lit (.int .i64 e.index), .lit (.int .i64 e.offset), .lit (.int .i64 e.tick), .lit (.int .i64 e.number), .lit (.int .i64 e.flag), .lit (.string e.name.data.toList), .lit (.string e.text.data.toList), .lit (.string e.layout.data.toList), .lit (.string e.visible.data.toList), .lit (.bool e.zoom)]
set_option maxRecDepth 100000 in
theorem one_event {H : Type} {enc : TypeId × Value → H} {W : World} {base : Nat} {spare : Nat → Bool} {held : Bool} (n : Nat) (cs : List Value) (D : DataW H) (Pl : List MemPlace)
    (h : DataW.trod enc Tryz.prog W base spare held n 28 cs = some (D, Pl)) (hl : cs.length = 14) : ∃ e : Evt, cs = (evCells e).toList ∧ D = evDat e := by
  obtain ⟨v0, v1, v2, v3, v4, v5, v6, v7, v8, v9, v10, v11, v12, v13, x0, x1, x2, x3, x4, x5, x6, x7, x8, x9, x10, x11, x12, x13, k, rfl, rfl, g0, g1, g2, g3, g4, g5, g6, g7, g8, g9, g10, g11, g12, g13⟩ := one14 Tryz.underlying28 rfl (by intro f hf; simp only [List.mem_cons, List.not_mem_nil, or_false] at hf; rcases hf with rfl | rfl | rfl | rfl | rfl | rfl | rfl | rfl | rfl | rfl | rfl | rfl | rfl | rfl <;> kernel_rfl) h hl
  obtain ⟨a0, e0, r0, -⟩ := DataW.trod_int Tryz.underlying3 g0
  obtain ⟨a1, e1, r1, -⟩ := DataW.trod_int Tryz.underlying3 g1
  obtain ⟨a2, e2, r2, -⟩ := DataW.trod_int Tryz.underlying3 g2
  obtain ⟨a3, e3, r3, -⟩ := DataW.trod_int Tryz.underlying3 g3
  obtain ⟨a4, e4, r4, -⟩ := DataW.trod_int Tryz.underlying3 g4
  obtain ⟨a5, e5, r5, -⟩ := DataW.trod_int Tryz.underlying3 g5
  obtain ⟨a6, e6, r6, -⟩ := DataW.trod_int Tryz.underlying3 g6
  obtain ⟨a7, e7, r7, -⟩ := DataW.trod_int Tryz.underlying3 g7
  obtain ⟨a8, e8, r8, -⟩ := DataW.trod_int Tryz.underlying3 g8
  obtain ⟨a9, e9, r9, -⟩ := DataW.trod_string Tryz.underlying9 g9
  obtain ⟨a10, e10, r10, -⟩ := DataW.trod_string Tryz.underlying9 g10
  obtain ⟨a11, e11, r11, -⟩ := DataW.trod_string Tryz.underlying9 g11
  obtain ⟨a12, e12, r12, -⟩ := DataW.trod_string Tryz.underlying9 g12
  obtain ⟨a13, e13, r13⟩ := DataW.trod_bool Tryz.underlying4 g13
  simp only [List.cons.injEq, and_true] at e0 e1 e2 e3 e4 e5 e6 e7 e8 e9 e10 e11 e12 e13
  subst e0 e1 e2 e3 e4 e5 e6 e7 e8 e9 e10 e11 e12 e13
  refine ⟨⟨a0, a1, a2, a3, a4, a5, a6, a7, a8, a9, a10, a11, a12, a13⟩, rfl, ?_⟩
  simp only [evDat, r0, r1, r2, r3, r4, r5, r6, r7, r8, r9, r10, r11, r12, r13]
end Go.Proofs.YtnblabfkkcohgaaGreatDoor.Card
end
section
/- An argument that is a list of events, opened; how long it and its texts are. -/
namespace Go.Proofs.YtnblabfkkcohgaaGreatDoor.Card
open Go.ChangeShapes Go.WideShapes Go.ChangeAt Go.RowKit Go.Proofs.YtnblabfkkcohgaaGreatDoor.Wire Go.Proofs.YtnblabfkkcohgaaGreatDoor.TxtG Go.Proofs.YtnblabfkkcohgaaGreatDoorW.PrintWords
open Go.Proofs.YtnblabfkkcohgaaGreatDoor.PWireOne (S28 k28 k28_mk z28 rd_T28)
set_option linter.unusedVariables false
set_option linter.unusedSimpArgs false
theorem choose_list {α : Type} {p : Nat → α → Prop} : ∀ {n : Nat}, (∀ i, i < n → ∃ x, p i x) → ∃ l : List α, l.length = n ∧ ∀ i x, l[i]? = some x → p i x
  | 0, _ => ⟨[], rfl, fun i x h => by simp at h⟩
  | n + 1, h => by
    obtain ⟨l, hl, hp⟩ := choose_list (n := n) (fun i hi => h i (by omega))
    obtain ⟨y, hy⟩ := h n (by omega)
    refine ⟨l ++ [y], by simp [hl], fun i x hx => ?_⟩
    rcases Nat.lt_trichotomy i l.length with hi | hi | hi
    · exact hp i x (by rwa [List.getElem?_append_left hi] at hx)
    · subst hi
      have : y = x := by simpa using hx
      subst this
      rw [hl]; exact hy
    · rw [List.getElem?_append_right (by omega), List.getElem?_eq_none (by simp; omega)] at hx
      exact absurd hx (by simp)
/-- How many bytes an event's texts have. -/
def tot (e : Evt) : Nat := e.name.size + e.text.size + e.layout.size + e.visible.size
theorem dat_tot {H : Type} (e : Evt) : Rows.uptoBulk (evDat (H := H) e) = tot e + 15 := by
  unfold evDat tot
  simp only [Rows.uptoBulk, Rows.uptoBulkAll, dlen]
  omega
def sumT (l : List Evt) : Nat := (l.map fun e => tot e + 15).sum
theorem sumT_cons (e : Evt) (l : List Evt) : sumT (e :: l) = tot e + 15 + sumT l := by simp [sumT]
theorem bulk_sum {H : Type} : ∀ (l : List Evt), Rows.uptoBulkAll (l.map (evDat (H := H))) = sumT l
  | [] => rfl
  | e :: l => by rw [List.map_cons, sumT_cons, ← bulk_sum l, ← dat_tot (H := H)]; rfl
theorem sum_len : ∀ (l : List Evt), l.length ≤ sumT l
  | [] => Nat.le_refl _
  | e :: l => by rw [sumT_cons, List.length_cons]; have := sum_len l; omega
theorem sum_mem : ∀ {l : List Evt} {e : Evt}, e ∈ l → tot e ≤ sumT l
  | x :: l, e, h => by
    rw [sumT_cons]
    rcases List.mem_cons.1 h with rfl | h
    · omega
    · have := sum_mem h; omega
theorem tot_sz (e : Evt) : Sz (tot e) e := ⟨by unfold tot; omega, by unfold tot; omega, by unfold tot; omega, by unfold tot; omega⟩
theorem sum_lines : ∀ (l : List Evt), (linesL l).length ≤ 301 * sumT l
  | [] => by simp [linesL]
  | e :: l => by
    have h1 := enc_len (tot_sz e)
    have h2 := sum_lines l
    rw [lines_cons, sumT_cons, List.length_append, List.length_cons, dlen]
    omega
theorem small_all {l : List S28} {m : Nat} (h : sumT (l.map evOf) ≤ m) (hm : m ≤ 1048576) : l.all smallE = true := by
  rw [List.all_eq_true]
  intro x hx
  have h1 := sum_mem (List.mem_map_of_mem (f := evOf) hx)
  have h2 := tot_sz (evOf x)
  unfold smallE
  simp only [Bool.and_eq_true, decide_eq_true_eq]
  have a := h2.name
  have b := h2.text
  have c := h2.layout
  have d := h2.visible
  simp only [evOf] at a b c d h1
  exact ⟨by omega, by omega, by omega, by omega⟩
/-- THE OPENING. -/
theorem open_events {H : Type} {enc : TypeId × Value → H} {W : World} {base : Nat} {spare : Nat → Bool} {held : Bool} {a : Option Addr} {len cap : Nat} {d : DataW H} {ps : List MemPlace}
    (h : DataW.Trod enc Tryz.prog W base spare held 22 (.slice a len cap) d ps) :
    ∃ xs : List S28, xs.length = len ∧ Kd.C k28 W a xs.length xs ∧ xs.length ≤ cap ∧ sumT (xs.map evOf) ≤ Rows.uptoBulk d := by
  have hc28 : Tryz.prog.cellsOf 28 = 14 := by kernel_rfl
  obtain ⟨fuel, hf⟩ := h
  rcases Go.Deep.open_slice Tryz.underlying22 hf with ⟨hcs, _⟩ | ⟨x, l, c, m, n, D, Pl, hcs, _, hl, hm, hmm, hx, hel⟩
  · simp [Value.cells] at hcs
    obtain ⟨rfl, rfl, rfl⟩ := hcs
    exact ⟨[], rfl, ⟨rfl, by simp, fun h => absurd h (by simp)⟩, by simp, by simp [sumT]⟩
  · simp [Value.cells] at hcs
    obtain ⟨rfl, rfl, rfl⟩ := hcs
    obtain ⟨hx, _⟩ := Prod.mk.inj hx
    subst hx
    have hlm : len ≤ m := by rw [hmm]; split <;> omega
    have each : ∀ i, i < len → ∃ y : S28, D i = evDat (evOf y) ∧ ∀ j u, [.int .i64 y.f0, .int .i64 y.f1, .int .i64 y.f2, .int .i64 y.f3, .int .i64 y.f4, .int .i64 y.f5, .int .i64 y.f6, .int .i64 y.f7, .int .i64 y.f8, .string y.f9, .string y.f10, .string y.f11, .string y.f12, .bool y.f13][j]? = some u → W.cell? (x.add (i * 14 + j)) = some u := fun i hi => by
      obtain ⟨cs', h1, h2⟩ := hel i (by omega)
      obtain ⟨_, hlen, hcell⟩ := World.cells?_some h1
      rw [hc28] at hlen hcell
      obtain ⟨e, he, hd⟩ := one_event n cs' (D i) (Pl i) h2 hlen
      refine ⟨⟨e.kind, e.session, e.window, e.pane, e.index, e.offset, e.tick, e.number, e.flag, e.name, e.text, e.layout, e.visible, e.zoom⟩, hd, fun j u hj => ?_⟩
      have hj' : j < 14 := (List.getElem?_eq_some_iff.1 hj).1
      have := hcell j hj'
      rw [Go.Deep.add_add] at this
      rw [this, he]
      exact hj
    obtain ⟨l, hll, hlp⟩ := choose_list each
    refine ⟨l, hll, ⟨rfl, ?_, fun h0 => ⟨x, rfl, fun j p hj => ?_⟩⟩, by omega, ?_⟩
    · have : maxLen = 9223372036854775807 := rfl; omega
    · obtain ⟨_, h4⟩ := hlp j p hj
      exact ⟨_, rfl, k28_mk W p, h4⟩
    · have hD : (List.range len).map D = (l.map evOf).map evDat := by
        apply List.ext_getElem?
        intro i
        simp only [List.getElem?_map]
        by_cases hi : i < len
        · rw [List.getElem?_range hi, List.getElem?_eq_getElem (by omega)]
          obtain ⟨h1, _⟩ := hlp i l[i] (List.getElem?_eq_getElem (by omega))
          simp [h1]
        · rw [List.getElem?_eq_none (by simp; omega), List.getElem?_eq_none (by omega)]
          rfl
      simp only [Rows.uptoBulk]
      rw [hD, bulk_sum]
      omega
end Go.Proofs.YtnblabfkkcohgaaGreatDoor.Card
end
