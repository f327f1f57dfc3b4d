/- The statements' own function play, walked: whatever the steps are, the program answers as the document does. Conditions: the tables lie as they are laid, names and texts have less than 2^62 bytes. -/
import Derived.Test.YtjkmmfjlladlfaaDoorSHandG
import Derived.Test.YtjkmmfjlladlfaaDoorSHandH
namespace Go.Proofs.YtjkmmfjlladlfaaDoor.Hand
set_option linter.unusedVariables false
set_option linter.unusedSimpArgs false
open Go.RowKit Go.Proofs.YtjkmmfjlladlfaaDoor.PBuf Go.Proofs.YtjkmmfjlladlfaaDoor.Given Go.Proofs.YtjkmmfjlladlfaaDoorW.PrintWords Go.Proofs.YtjkmmfjlladlfaaDoorW.PrintLast

/-- The document's Buffers: in the variable at block gd; its list is read from other blocks than the program's. -/
structure Ref (w : World) (g gd : Nat) (D : List S79) (c m : Int) (A : Option Addr) (cap : Nat) : Prop where
  gdg : gd ≠ g
  gda : arr w g ≠ some gd
  blk : w.heap[gd]? = some (.cells #[.slice A D.length cap, .int .i64 m, .int .i64 c] 45 (0, 0))
  cap : D.length ≤ cap
  foot : Kd.F k79 w (fun k => k ≠ g ∧ arr w g ≠ some k ∧ k ≠ gd) A D.length D
theorem Ref.lt {w : World} {g gd : Nat} {D : List S79} {c m : Int} {A : Option Addr} {cap : Nat} (h : Ref w g gd D c m A cap) : gd < w.heap.size := blk_lt h.blk
theorem Ref.fr {w w' : World} {g gd : Nat} {D : List S79} {c m : Int} {A : Option Addr} {cap : Nat} (h : Ref w g gd D c m A cap) (hf : Fr w w' g) : Ref w' g gd D c m A cap := by
  have hlt := h.lt
  have hne : arr w' g ≠ some gd := fun e => by
    rcases hf.arrk with q | q
    · exact h.gda (q ▸ e)
    · have := q gd e
      omega
  refine ⟨h.gdg, hne, (hf.block gd hlt h.gdg h.gda).trans h.blk, h.cap, ?_⟩
  have h1 := Kd.F_bound h.foot
  have h2 := Kd.F_step h1 (W1 := w') (fun k hk hlt => hf.block k hlt hk.1.1 hk.1.2.1)
  refine Kd.F_mono h2 fun k hk => ⟨hk.1.1, fun e => ?_, hk.1.2.2⟩
  rcases hf.arrk with q | q
  · exact hk.1.2.1 (q ▸ e)
  · have := q k e
    have := hk.2
    omega
theorem Ref.on {w w' : World} {g gd : Nat} {D : List S79} {c m : Int} {A : Option Addr} {cap : Nat} (h : Ref w g gd D c m A cap) {l : List S68} {c2 m2 : Int} (hB : Buf w g l c2 m2) (hb : Below w.heap.size w w') : Ref w' g gd D c m A cap := h.fr (hB.frb hb)
/-- A new list is laid into the variable. -/
theorem Ref.made {w2 w3 wf : World} {g gd : Nat} {D D' : List S79} {c m c' m' : Int} {A A' : Option Addr} {cap cap' : Nat} (h : Ref w2 g gd D c m A cap) (hg : g < w2.heap.size) (ha : ∀ k, arr w2 g = some k → k < w2.heap.size) (hb : Below w2.heap.size w2 w3)
    (hf : Kd.F k79 w3 (fun k => (k ≠ g ∧ arr w2 g ≠ some k ∧ k ≠ gd) ∨ w2.heap.size ≤ k) A' D'.length D') (hc : D'.length ≤ cap') (hw : w3.grownBy wf (some gd))
    (hk : wf.heap[gd]? = some (.cells #[.slice A' D'.length cap', .int .i64 m', .int .i64 c'] 45 (0, 0))) : Ref wf g gd D' c' m' A' cap' := by
  have hlt := h.lt
  have hlt3 : g < w3.heap.size := Nat.lt_of_lt_of_le hg hb.size
  have e1 : arr wf g = arr w2 g := (arr_kept (hw.block g hlt3 (fun e => h.gdg (by injection e with e; exact e.symm)))).trans (arr_kept (hb.block g hg))
  refine ⟨h.gdg, by rw [e1]; exact h.gda, hk, hc, ?_⟩
  have hok : ∀ k, ((k ≠ g ∧ arr w2 g ≠ some k ∧ k ≠ gd) ∨ w2.heap.size ≤ k) → k ≠ g ∧ arr wf g ≠ some k ∧ k ≠ gd := fun k hk => by
    rw [e1]
    rcases hk with q | q
    · exact q
    · exact ⟨by omega, fun e => by have := ha k e; omega, by omega⟩
  have h1 := Kd.F_mono hf hok
  exact Kd.F_step h1 (fun k hk hlt => hw.block k hlt (fun e => hk.2.2 (by injection e)))

/-- What the document's functions hand back: a list, read from blocks that were its own or are new. -/
def Made (w : World) (P : Nat → Prop) (D' : List S79) (A' : Option Addr) (cap' : Nat) (w' : World) : Prop := D'.length ≤ cap' ∧ Kd.F k79 w' (fun k => P k ∨ w.heap.size ≤ k) A' D'.length D' ∧ Below w.heap.size w w'
theorem made_of {w w' : World} {P : Nat → Prop} {D' : List S79} {v : Value} (h : Kd.V k79 79 w' w.heap.size (fun k => P k ∨ w.heap.size ≤ k) v D') (hb : Below w.heap.size w w') : ∃ A' cap', v = .slice A' D'.length cap' ∧ Made w P D' A' cap' w' := by
  obtain ⟨A', cap', rfl⟩ := Kd.V_slice h
  have := Kd.V_at h
  exact ⟨A', cap', rfl, this.2.1, this.2.2, hb⟩
abbrev RP (w : World) (g gd : Nat) : Nat → Prop := fun k => k ≠ g ∧ arr w g ≠ some k ∧ k ≠ gd
theorem ref_set {w : World} {g gd : Nat} {D : List S79} {c m : Int} {A : Option Addr} {cap : Nat} (h : Ref w g gd D c m A cap) (hF : Few D c m) (hc : c ≤ 3000000000000) (name text : ByteArray) (hs : name.size ≤ 4611686018427387904) :
    Calls Tryd.prog 19 #[.agg #[.slice A D.length cap, .int .i64 m, .int .i64 c], .string name, .string text] w fun e w' => ∃ A' cap', e = .returned (.tuple #[.agg #[.slice A' (setN D c m name text).1.length cap', .int .i64 m, .int .i64 (setN D c m name text).2.1], .string (setN D c m name text).2.2.1, .int .i64 (setN D c m name text).2.2.2]) ∧ Made w (RP w g gd) (setN D c m name text).1 A' cap' w' := by
  obtain ⟨k, hk⟩ := (set_ev name text m c D (by have := hF.len; omega) (by have := hF.m1; omega) hF.c0 hc hs).rounds
  refine (mullionref24_Set.calls k (RP w g gd) A cap D m c name text _ _ _ _ _ w (Kd.V_mk h.cap h.foot) hk).mono ?_
  rintro e w' ⟨v, rfl, hv, hb⟩
  obtain ⟨A', cap', rfl, hm⟩ := made_of hv hb
  exact ⟨A', cap', rfl, hm⟩
theorem ref_delete {w : World} {g gd : Nat} {D : List S79} {c m : Int} {A : Option Addr} {cap : Nat} (h : Ref w g gd D c m A cap) (hF : Few D c m) (name : ByteArray) :
    Calls Tryd.prog 21 #[.agg #[.slice A D.length cap, .int .i64 m, .int .i64 c], .string name] w fun e w' => ∃ A' cap', e = .returned (.tuple #[.agg #[.slice A' (deleteN D name).1.length cap', .int .i64 m, .int .i64 c], .int .i64 (deleteN D name).2]) ∧ Made w (RP w g gd) (deleteN D name).1 A' cap' w' := by
  obtain ⟨k, hk⟩ := (delete_ev name m c D (by have := hF.len; omega)).rounds
  refine (mullionref24_Delete.calls k (RP w g gd) A cap D m c name _ _ _ _ w (Kd.V_mk h.cap h.foot) hk).mono ?_
  rintro e w' ⟨v, rfl, hv, hb⟩
  obtain ⟨A', cap', rfl, hm⟩ := made_of hv hb
  exact ⟨A', cap', rfl, hm⟩
theorem ref_rename {w : World} {g gd : Nat} {D : List S79} {c m : Int} {A : Option Addr} {cap : Nat} (h : Ref w g gd D c m A cap) (hF : Few D c m) (name nu : ByteArray) (hs : nu.size ≤ 4611686018427387904) :
    Calls Tryd.prog 23 #[.agg #[.slice A D.length cap, .int .i64 m, .int .i64 c], .string name, .string nu] w fun e w' => ∃ A' cap', e = .returned (.tuple #[.agg #[.slice A' (renameN D name nu).1.length cap', .int .i64 m, .int .i64 c], .int .i64 (renameN D name nu).2]) ∧ Made w (RP w g gd) (renameN D name nu).1 A' cap' w' := by
  obtain ⟨k, hk⟩ := (rename_ev name nu m c D (by have := hF.len; omega) hs).rounds
  refine (mullionref24_Rename.calls k (RP w g gd) A cap D m c name nu _ _ _ _ w (Kd.V_mk h.cap h.foot) hk).mono ?_
  rintro e w' ⟨v, rfl, hv, hb⟩
  obtain ⟨A', cap', rfl, hm⟩ := made_of hv hb
  exact ⟨A', cap', rfl, hm⟩
theorem ref_limit {w : World} {g gd : Nat} {D : List S79} {c m : Int} {A : Option Addr} {cap : Nat} (h : Ref w g gd D c m A cap) (hF : Few D c m) (n : Int) :
    Calls Tryd.prog 25 #[.agg #[.slice A D.length cap, .int .i64 m, .int .i64 c], .int .i64 n] w fun e w' => ∃ A' cap', e = .returned (.tuple #[.agg #[.slice A' (limitN D m n).1.length cap', .int .i64 (limitN D m n).2.1, .int .i64 c], .int .i64 (limitN D m n).2.2]) ∧ Made w (RP w g gd) (limitN D m n).1 A' cap' w' := by
  obtain ⟨k, hk⟩ := (limit_ev n m c D (by have := hF.len; omega)).rounds
  refine (mullionref24_Limit.calls k (RP w g gd) A cap D m c n _ _ _ _ w (Kd.V_mk h.cap h.foot) hk).mono ?_
  rintro e w' ⟨v, rfl, hv, hb⟩
  obtain ⟨A', cap', rfl, hm⟩ := made_of hv hb
  exact ⟨A', cap', rfl, hm⟩
theorem ref_get {w : World} {g gd : Nat} {D : List S79} {c m : Int} {A : Option Addr} {cap : Nat} (h : Ref w g gd D c m A cap) (hF : Few D c m) (name : ByteArray) :
    Calls Tryd.prog 20 #[.agg #[.slice A D.length cap, .int .i64 m, .int .i64 c], .string name] w fun e w' => e = .returned (.tuple #[.agg #[.string (getN D name).1, .string (getN D name).2.1], .int .i64 (getN D name).2.2]) ∧ Below w.heap.size w w' := by
  obtain ⟨k, hk⟩ := (get79_ev name m c D (by have := hF.len; omega)).rounds
  exact mullionref24_Get.calls k A cap D m c name _ _ _ w (Kd.F_now h.foot) h.cap hk
theorem ref_list {w : World} {g gd : Nat} {D : List S79} {c m : Int} {A : Option Addr} {cap : Nat} (h : Ref w g gd D c m A cap) (hF : Few D c m) :
    Calls Tryd.prog 28 #[.agg #[.slice A D.length cap, .int .i64 m, .int .i64 c]] w fun e w' => ∃ v, e = .returned v ∧ Kd.R k36 36 w' w.heap.size (fun _ => True) v (listN D) ∧ Below w.heap.size w w' := by
  obtain ⟨k, hk⟩ := (list79_ev m c D (by have := hF.len; omega)).rounds
  exact mullionref24_List.calls k A cap D m c _ w (Kd.F_now h.foot) h.cap hk
theorem same_calls {w : World} {A0 A1 : Option Addr} {c0 c1 : Nat} {L : List S36} (h0 : Kd.C k36 w A0 L.length L) (hc0 : L.length ≤ c0) (h1 : Kd.C k36 w A1 L.length L) (hc1 : L.length ≤ c1) (hl : L.length ≤ 1000) :
    Calls Tryd.prog 27 #[.slice A0 L.length c0, .slice A1 L.length c1] w fun e w' => e = .returned (.bool true) ∧ Below w.heap.size w w' := by
  obtain ⟨k, hk⟩ := (same_ev L hl).rounds
  refine (mullionlaw24_same.calls k A0 c0 L A1 c1 L _ w h0 hc0 h1 hc1 hk).mono ?_
  rintro e w' ⟨he, hd⟩
  exact ⟨he, hd.below⟩
end Go.Proofs.YtjkmmfjlladlfaaDoor.Hand
