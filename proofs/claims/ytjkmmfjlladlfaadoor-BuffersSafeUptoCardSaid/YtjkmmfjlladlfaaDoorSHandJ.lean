/- The statements' own function play, walked, second part: the steps. Conditions: the tables lie as they are laid, names and texts have less than 2^62 bytes. -/
import Derived.Test.YtjkmmfjlladlfaaDoorSHandI
namespace Go.Proofs.YtjkmmfjlladlfaaDoor.Hand
set_option linter.unusedVariables false
set_option linter.unusedSimpArgs false
open Go.RowKit Go.Proofs.YtjkmmfjlladlfaaDoor.PBuf Go.Proofs.YtjkmmfjlladlfaaDoor.Given Go.Proofs.YtjkmmfjlladlfaaDoorW.PrintWords Go.Proofs.YtjkmmfjlladlfaaDoorW.PrintLast

/-- At the head of a round. -/
structure Head (W0 w : World) (g gd : Nat) (l : List S68) (c m : Int) (A : Option Addr) (cap : Nat) : Prop where
  own : Own W0 w g l c m
  new : W0.heap.size ≤ gd
  ref : Ref w g gd (l.map tr) c m A cap
  few : Few (l.map tr) c m
theorem head_new {W0 w1 w2 w3 wf : World} {g gd : Nat} {A : Option Addr} {c : Nat} (hO : Own W0 w1 g [] 0 20) (ha : arr w1 g = none) (h2 : Below w1.heap.size w1 w2) (hr : Kd.R k79 79 w2 w1.heap.size (fun _ => True) (.slice A ([] : List S79).length c) []) (hgd : w2.heap.size ≤ gd) (hf : Below w2.heap.size w2 wf)
    (hk : wf.heap[gd]? = some (.cells #[.slice A ([] : List S79).length c, .int .i64 20, .int .i64 0] 45 (0, 0))) : Head W0 wf g gd [] 0 20 A c := by
  have hg1 := hO.buf.lt
  have hg2 : g < w2.heap.size := Nat.lt_of_lt_of_le hg1 h2.size
  have e : arr wf g = none := ((arr_kept (hf.block g hg2)).trans (arr_kept (h2.block g hg1))).trans ha
  have hO2 := (hO.on h2).on hf
  refine ⟨hO2, Nat.le_trans hO.below.size (Nat.le_trans h2.size hgd), ⟨by omega, by rw [e]; simp, hk, Nat.zero_le _, ?_⟩, few_new⟩
  have h1 := Kd.R_F (Kd.R_bound hr)
  exact Kd.F_mono (Kd.F_below h1 hf) fun k hk => ⟨by have := hk.2.1; omega, by rw [e]; simp, by have := hk.2.2.1; omega⟩

theorem Head.on {W0 w w' : World} {g gd : Nat} {l : List S68} {c m : Int} {A : Option Addr} {cap : Nat} (h : Head W0 w g gd l c m A cap) (hb : Below w.heap.size w w') : Head W0 w' g gd l c m A cap :=
  ⟨h.own.on hb, h.new, h.ref.on h.own.buf hb, h.few⟩
theorem Own.grown {W0 w w' : World} {g gd : Nat} {l : List S68} {D : List S79} {c m c2 m2 : Int} {A : Option Addr} {cap : Nat} (h : Own W0 w g l c m) (hr : Ref w g gd D c2 m2 A cap) (hn : W0.heap.size ≤ gd) (hw : w.grownBy w' (some gd)) : Own W0 w' g l c m := by
  have e : Hand.arr w' g = Hand.arr w g := arr_kept (hw.block g h.buf.lt (fun e => hr.gdg (by injection e with e; exact e.symm)))
  refine ⟨⟨hw.os.trans h.below.os, hw.tape.trans h.below.tape, hw.output.trans h.below.output, Nat.le_trans h.below.size hw.size, fun k hk => (hw.block k (Nat.lt_of_lt_of_le hk h.below.size) (fun q => by injection q with q; omega)).trans (h.below.block k hk)⟩, h.new, fun k hk => h.arr k (e ▸ hk), ?_⟩
  obtain ⟨A2, cap2, hg, hs⟩ := h.buf
  have hg2 := arr_eq ((blk_cell hg 0).trans rfl)
  refine ⟨A2, cap2, (hw.block g (blk_lt hg) (fun e => hr.gdg (by injection e with e; exact e.symm))).trans hg, hs.kept fun b cs hA hb => hw.block b (blk_lt hb) (fun q => ?_)⟩
  injection q with q
  subst q
  rw [hA] at hg2
  exact hr.gda hg2
theorem head_made {W0 w6 w7 wf : World} {g gd : Nat} {l' : List S68} {D D' : List S79} {c m c' m' : Int} {A A' : Option Addr} {cap cap' : Nat} (hO : Own W0 w6 g l' c' m') (hn : W0.heap.size ≤ gd) (hR : Ref w6 g gd D c m A cap) (hM : Made w6 (RP w6 g gd) D' A' cap' w7) (hl : l'.map tr = D') (hF : Few D' c' m') (hw : w7.grownBy wf (some gd))
    (hk : wf.heap[gd]? = some (.cells #[.slice A' D'.length cap', .int .i64 m', .int .i64 c'] 45 (0, 0))) : Head W0 wf g gd l' c' m' A' cap' := by
  subst hl
  refine ⟨(hO.on hM.2.2).grown (hR.on hO.buf hM.2.2) hn hw, hn, ?_, hF⟩
  exact hR.made hO.buf.lt hO.buf.arr_lt hM.2.2 hM.2.1 hM.1 hw hk
/-- Spoilt: the list that was handed out is written over. -/
theorem row_of {w : World} {base : Nat} {A : Option Addr} {n c : Nat} {L : List S36} (h : Kd.R k36 36 w base (fun _ => True) (.slice A n c) L) (hb : base ≤ w.heap.size) : ∃ b, base ≤ b ∧ (0 < n → A = some ⟨b, 0, none⟩ ∧ ∃ cs, w.heap[b]? = some (.cells cs 36 (0, 0)) ∧ n * 2 ≤ cs.size) := by
  obtain ⟨_, inner, ho, _⟩ := h
  rcases ho.2 with ⟨h1, h0⟩ | ⟨b, cap, cur, h1, hb1, hh, h2, h3, h4, h5⟩
  · injection h1 with e1 e2 e3
    exact ⟨w.heap.size, hb, fun hp => by omega⟩
  · injection h1 with e1 e2 e3
    have e4 : k36.sz = 2 := rfl
    rw [e4] at h4
    exact ⟨b, hb1, fun _ => ⟨e1, cur, hh, by omega⟩⟩

theorem below_other {a b c : World} {k : Nat} (h : Below a.heap.size a b) (hg : b.grownBy c (some k)) (hk : a.heap.size ≤ k) : Below a.heap.size a c :=
  ⟨hg.os.trans h.os, hg.tape.trans h.tape, hg.output.trans h.output, Nat.le_trans h.size hg.size, fun i hi => (hg.block i (Nat.lt_of_lt_of_le hi h.size) (fun e => by injection e with e; omega)).trans (h.block i hi)⟩
theorem head_at {W0 a b : World} {g gd : Nat} {l : List S68} {c m : Int} {A : Option Addr} {cap : Nat} (hb : Below a.heap.size a b) (h : Head W0 a g gd l c m A cap) : Head W0 a g gd l c m A cap := h
theorem ref_first {W0 ws w6 wf : World} {g gd : Nat} {l : List S68} {D D' : List S79} {c m m' : Int} {A A' : Option Addr} {cap cap' : Nat} (hO : Own W0 ws g l c m) (hn : W0.heap.size ≤ gd) (hR : Ref ws g gd D c m A cap) (hM : Made ws (RP ws g gd) D' A' cap' w6) (hw : w6.grownBy wf (some gd))
    (hk : wf.heap[gd]? = some (.cells #[.slice A' D'.length cap', .int .i64 m', .int .i64 c] 45 (0, 0))) : Own W0 wf g l c m ∧ Ref wf g gd D' c m' A' cap' :=
  ⟨(hO.on hM.2.2).grown (hR.on hO.buf hM.2.2) hn hw, hR.made hO.buf.lt hO.buf.arr_lt hM.2.2 hM.2.1 hM.1 hw hk⟩
theorem head_after {W0 wf w8 : World} {g gd : Nat} {l l' : List S68} {D' : List S79} {c m m' : Int} {A' : Option Addr} {cap' : Nat} (h : Own W0 wf g l c m ∧ Ref wf g gd D' c m' A' cap') (hn : W0.heap.size ≤ gd) (hB : Buf w8 g l' c m') (hF : Fr wf w8 g) (hl : l'.map tr = D') (few : Few D' c m') : Head W0 w8 g gd l' c m' A' cap' := by
  subst hl
  exact ⟨h.1.next hF hB, hn, h.2.fr hF, few⟩
end Go.Proofs.YtjkmmfjlladlfaaDoor.Hand
