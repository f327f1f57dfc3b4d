/- An argument that is a slice of structs, opened as one row of a kind; how long it may be; how long its strings may be. No program in sight. -/
import Derived.Deep.Slices
import Derived.SizedLaws
import Derived.Test.YtjkmmfjlladlfaaDoorSWWords
namespace Go.Proofs.YtjkmmfjlladlfaaDoor.Open
open Go.ChangeShapes Go.WideShapes Go.Proofs.YtjkmmfjlladlfaaDoorW.PrintWords

theorem weights_all {H : Type} {P : Program} {e : TypeId} : ∀ {l : List (DataW H)} {d : DataW H}, d ∈ l → ∀ n ∈ d.weights P e, n ∈ DataW.weightsAll P e l
  | x :: r, d, hd, n, hn => by
    simp only [DataW.weightsAll, List.mem_append]
    rcases List.mem_cons.1 hd with rfl | hd
    · exact .inl hn
    · exact .inr (weights_all hd n hn)

theorem choose_list {α : Type} {p : Nat → α → Prop} : ∀ {n : Nat}, (∀ i, i < n → ∃ x, p i x) → ∃ l : List α, l.length = n ∧ ∀ i x, l[i]? = some x → p i x
  | 0, _ => ⟨[], rfl, fun i x h => by simp at h⟩
  | n + 1, h => by
    obtain ⟨l, hl, hp⟩ := choose_list (n := n) (fun i hi => h i (by omega))
    obtain ⟨y, hy⟩ := h n (by omega)
    refine ⟨l ++ [y], by simp [hl], fun i x hx => ?_⟩
    rcases Nat.lt_trichotomy i l.length with hi | hi | hi
    · exact hp i x (by rwa [List.getElem?_append_left hi] at hx)
    · subst hi
      have : y = x := by simpa using hx
      subst this
      rw [hl]; exact hy
    · rw [List.getElem?_append_right (by omega), List.getElem?_eq_none (by simp; omega)] at hx
      exact absurd hx (by simp)

section
variable {H : Type} {enc : TypeId × Value → H} {P : Program} {W : World} {base : Nat} {spare : Nat → Bool} {held : Bool}

/-- THE OPENING. What one element's cells say is told by 'one'. -/
theorem open_rows {α : Type} (kd : Kd α) (Q : α → Prop) {t e : TypeId} {a : Option Addr} {len cap : Nat} {d : DataW H} {ps : List MemPlace} {ts : List TypeId} {ds : List (DataW H)} {j : Nat}
    (hsz : (DataW.weightsEach P ts ds).all (· ≤ reachBytes) = true) (ht : ts[j]? = some t) (hd : ds[j]? = some d) (hu : P.underlying t = some (.slice e)) (hc : P.cellsOf e = kd.sz)
    (one : ∀ (n : Nat) (cs : List Value) (D : DataW H) (Pl : List MemPlace), DataW.trod enc P W base spare held n e cs = some (D, Pl) → cs.length = kd.sz → (∀ n ∈ D.weights P e, n ≤ reachBytes) → ∃ x : α, kd.K W x cs ∧ Q x)
    (h : DataW.Trod enc P W base spare held t (.slice a len cap) d ps) :
    ∃ xs : List α, xs.length = len ∧ kd.C W a xs.length xs ∧ xs.length ≤ cap ∧ cap ≤ maxLen ∧ xs.length * P.bytesOf e ≤ reachBytes ∧ ∀ x ∈ xs, Q x := by
  obtain ⟨fuel, hf⟩ := h
  rcases Go.Deep.open_slice hu hf with ⟨hcs, _⟩ | ⟨x, l, c, m, n, D, Pl, hcs, _, hl, hm, hmm, hx, hel⟩
  · simp [Value.cells] at hcs
    obtain ⟨rfl, rfl, rfl⟩ := hcs
    exact ⟨[], rfl, ⟨rfl, by simp, fun h => absurd h (by simp)⟩, by simp, by simp [maxLen], by simp, by simp⟩
  · simp [Value.cells] at hcs
    obtain ⟨rfl, rfl, rfl⟩ := hcs
    obtain ⟨hx, _⟩ := Prod.mk.inj hx
    subst hx
    have hlm : len ≤ m := by rw [hmm]; split <;> omega
    have hw : ∀ i, i < len → ∀ k ∈ (D i).weights P e, k ≤ reachBytes := fun i hi k hk => by
      have z := List.all_eq_true.1 hsz k (DataW.weights_mem_each ht hd k (by
        simp only [DataW.weights, hu]
        refine List.mem_cons_of_mem _ (List.mem_append_left _ (weights_all (List.mem_map.2 ⟨i, by simpa using hi, rfl⟩) k hk))))
      simpa using z
    have each : ∀ i, i < len → ∃ q : α × List Value, (kd.K W q.1 q.2 ∧ q.2.length = kd.sz ∧ Q q.1) ∧ ∀ j u, q.2[j]? = some u → W.cell? (x.add (i * kd.sz + j)) = some u := fun i hi => by
      obtain ⟨cs', h1, h2⟩ := hel i (by omega)
      obtain ⟨_, hlen, hcell⟩ := World.cells?_some h1
      obtain ⟨y, hy, hq⟩ := one n cs' (D i) (Pl i) h2 (hlen.trans hc) (hw i hi)
      refine ⟨(y, cs'), ⟨hy, hlen.trans hc, hq⟩, fun j u hj => ?_⟩
      have hj' : j < P.cellsOf e := by
        rw [← hlen]
        exact (List.getElem?_eq_some_iff.1 hj).1
      have := hcell j hj'
      rw [Go.Deep.add_add, hc] at this
      rw [this]
      exact hj
    obtain ⟨l, hll, hlp⟩ := choose_list each
    have hne : (l.map (·.1)).length = len := by simpa using hll
    have hz := sized_slice hsz ht hd hu
    simp only [List.length_map, List.length_range] at hz
    refine ⟨l.map (·.1), hne, ⟨rfl, ?_, fun h0 => ⟨x, rfl, fun j p hj => ?_⟩⟩, by omega, hm, ?_, fun y hy => ?_⟩
    · rw [hne]; have : maxLen = 9223372036854775807 := rfl; omega
    · rw [List.getElem?_map] at hj
      obtain ⟨q, hq, rfl⟩ := Option.map_eq_some_iff.1 hj
      obtain ⟨⟨h1, h2, h3⟩, h4⟩ := hlp j q hq
      exact ⟨q.2, h2, h1, h4⟩
    · rw [hne]
      exact Nat.le_trans (Nat.mul_le_mul_right _ (by omega)) hz
    · obtain ⟨q, hq, rfl⟩ := List.mem_map.1 hy
      obtain ⟨j, hj⟩ := List.getElem?_of_mem hq
      exact (hlp j q hj).1.2.2

/-- A struct of four fields of one cell each, opened. -/
theorem one4 {e : TypeId} {f0 f1 f2 f3 : Field} (he : P.underlying e = some (.struct #[f0, f1, f2, f3])) (o0 : f0.offset = 0) (o1 : f1.offset = 1) (o2 : f2.offset = 2) (o3 : f3.offset = 3)
    (c0 : P.cellsOf f0.type = 1) (c1 : P.cellsOf f1.type = 1) (c2 : P.cellsOf f2.type = 1) (c3 : P.cellsOf f3.type = 1) {n : Nat} {cs : List Value} {D : DataW H} {Pl : List MemPlace}
    (h : DataW.trod enc P W base spare held n e cs = some (D, Pl)) (hl : cs.length = 4) :
    ∃ (v0 v1 v2 v3 : Value) (x0 x1 x2 x3 : DataW H × List MemPlace) (k : Nat), cs = [v0, v1, v2, v3] ∧ D = .agg [x0.1, x1.1, x2.1, x3.1] ∧
      DataW.trod enc P W base spare held k f0.type [v0] = some x0 ∧ DataW.trod enc P W base spare held k f1.type [v1] = some x1 ∧ DataW.trod enc P W base spare held k f2.type [v2] = some x2 ∧ DataW.trod enc P W base spare held k f3.type [v3] = some x3 := by
  obtain ⟨xs, k, rfl, hxy, _, hxl, hf⟩ := DataW.trod_struct he h
  obtain ⟨rfl, rfl⟩ := Prod.mk.inj hxy
  match xs, hxl, cs, hl with
  | [y0, y1, y2, y3], _, [v0, v1, v2, v3], _ =>
    have g0 := hf 0 f0 rfl
    have g1 := hf 1 f1 rfl
    have g2 := hf 2 f2 rfl
    have g3 := hf 3 f3 rfl
    simp [o0, o1, o2, o3, c0, c1, c2, c3] at g0 g1 g2 g3
    exact ⟨v0, v1, v2, v3, y0, y1, y2, y3, k, rfl, rfl, g0, g1, g2, g3⟩
end
end Go.Proofs.YtjkmmfjlladlfaaDoor.Open
