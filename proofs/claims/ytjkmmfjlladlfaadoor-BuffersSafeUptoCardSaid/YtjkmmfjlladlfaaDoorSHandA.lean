/- The buffers' memory: what a Buffers' block holds, as a list of buffers, a counter and a limit; and the two functions that write its list, push and drop. Conditions: the list has at most 1,000 buffers. -/
import Derived.Test.YtjkmmfjlladlfaaDoorSPBufx3
import Derived.Deep.RegionLaw
import Derived.Deep.RegionLawGrows
import Derived.Lib.Hide
namespace Go.Proofs.YtjkmmfjlladlfaaDoor.Hand
set_option linter.unusedVariables false
set_option linter.unusedSimpArgs false
open Go.RowKit Go.Proofs.YtjkmmfjlladlfaaDoor.PBuf Go.Proofs.YtjkmmfjlladlfaaDoorW.PrintWords Go.Proofs.YtjkmmfjlladlfaaDoorW.PrintLast

/-- A buffer's cells. -/
def bc (x : S68) : List Value := [.string x.f0.f0, .string x.f0.f1, .bool x.f1]
def bcells : List S68 → List Value
  | [] => []
  | x :: l => bc x ++ bcells l
theorem bcells_length (l : List S68) : (bcells l).length = l.length * 3 := by
  induction l with
  | nil => rfl
  | cons x l ih => simp only [bcells, List.length_append, ih, List.length_cons, bc, List.length_nil]; omega
theorem bcells_append (l r : List S68) : bcells (l ++ r) = bcells l ++ bcells r := by
  induction l with
  | nil => rfl
  | cons x l ih => simp only [List.cons_append, bcells, ih, List.append_assoc]
theorem bcells_one (l : List S68) : ∀ u ∈ bcells l, u.oneCell' = true := by
  induction l with
  | nil => intro u hu; cases hu
  | cons x l ih =>
    intro u hu
    simp only [bcells, bc, List.mem_append, List.mem_cons, List.not_mem_nil, or_false] at hu
    rcases hu with (rfl | rfl | rfl) | hu
    · rfl
    · rfl
    · rfl
    · exact ih u hu
theorem bcells_get (l : List S68) : ∀ (j : Nat) (x : S68), l[j]? = some x → ∀ (i : Nat) (u : Value), (bc x)[i]? = some u → (bcells l)[j * 3 + i]? = some u := by
  induction l with
  | nil => intro j x h; simp at h
  | cons y l ih =>
    intro j x h i u hu
    have hi : i < 3 := by
      have := (List.getElem?_eq_some_iff.1 hu).1
      simpa [bc] using this
    cases j with
    | zero =>
      simp only [List.getElem?_cons_zero, Option.some.injEq] at h
      subst h
      show (bc y ++ bcells l)[0 * 3 + i]? = some u
      rw [Nat.zero_mul, Nat.zero_add, List.getElem?_append_left (by simpa [bc] using hi)]
      exact hu
    | succ j =>
      have h2 : l[j]? = some x := by simpa using h
      show (bc y ++ bcells l)[(j + 1) * 3 + i]? = some u
      rw [List.getElem?_append_right (by simp [bc]; omega)]
      have e : (j + 1) * 3 + i - (bc y).length = j * 3 + i := by simp [bc]; omega
      rw [e]
      exact ih j x h2 i u hu
theorem bcells_take (l : List S68) (n : Nat) : bcells (l.take n) = (bcells l).take (n * 3) := by
  induction l generalizing n with
  | nil => simp [bcells]
  | cons x l ih =>
    cases n with
    | zero => simp [bcells]
    | succ n =>
      have e : (n + 1) * 3 = (bc x).length + n * 3 := by simp [bc]; omega
      rw [List.take_succ_cons]
      simp only [bcells]
      rw [ih, e, List.take_length_add_append]
theorem bcells_drop (l : List S68) (n : Nat) : bcells (l.drop n) = (bcells l).drop (n * 3) := by
  induction l generalizing n with
  | nil => simp [bcells]
  | cons x l ih =>
    cases n with
    | zero => simp
    | succ n =>
      have e : (n + 1) * 3 = (bc x).length + n * 3 := by simp [bc]; omega
      rw [List.drop_succ_cons]
      simp only [bcells]
      rw [ih, e, List.drop_length_add_append]

/-- A slice of buffers that reads as l: nil, or the head of a block of that type. -/
def SL (W : World) (A : Option Addr) (cap : Nat) (l : List S68) : Prop :=
  (A = none ∧ cap = 0 ∧ l = []) ∨ ∃ b cs, A = some ⟨b, 0, none⟩ ∧ W.heap[b]? = some (.cells cs 68 (0, 0)) ∧ l.length ≤ cap ∧ cap ≤ maxLen ∧ cap * 3 ≤ cs.size ∧ cs.toList.take (l.length * 3) = bcells l
/-- A Buffers at block g. -/
def Buf (W : World) (g : Nat) (l : List S68) (c m : Int) : Prop :=
  ∃ A cap, W.heap[g]? = some (.cells #[.slice A l.length cap, .int .i64 c, .int .i64 m] 64 (0, 0)) ∧ SL W A cap l

/-- The block in which a Buffers' list lies. -/
def arr (W : World) (g : Nat) : Option Nat := match W.cell? ⟨g, 0, none⟩ with
  | some (.slice (some ad) _ _) => some ad.block
  | _ => none
theorem arr_slice {W : World} {g : Nat} {ad : Addr} {n cap : Nat} (h : W.cell? ⟨g, 0, none⟩ = some (.slice (some ad) n cap)) : arr W g = some ad.block := by
  unfold arr
  rw [h]
theorem arr_nil {W : World} {g : Nat} {n cap : Nat} (h : W.cell? ⟨g, 0, none⟩ = some (.slice none n cap)) : arr W g = none := by
  unfold arr
  rw [h]
/-- The list lies where it lay, or in new memory. -/
def ArrOk (W W' : World) (g : Nat) : Prop := arr W' g = arr W g ∨ ∀ k, arr W' g = some k → W.heap.size ≤ k

theorem cell_of_take {W : World} {b : Nat} {cs : Array Value} {t : TypeId} {n : Nat} {l : List Value} (h : W.heap[b]? = some (.cells cs t (0, 0))) (ht : cs.toList.take n = l) : ∀ (j : Nat) (u : Value), l[j]? = some u → W.cell? ⟨b, j, none⟩ = some u := by
  intro j u hu
  have hu2 : cs[j]? = some u := by
    rw [← ht, List.getElem?_take] at hu
    split at hu
    · simpa using hu
    · cases hu
  exact (blk_cell h j).trans hu2
theorem SL.kept {W W1 : World} {A : Option Addr} {cap : Nat} {l : List S68} (h : SL W A cap l) (hk : ∀ b cs, A = some ⟨b, 0, none⟩ → W.heap[b]? = some (.cells cs 68 (0, 0)) → W1.heap[b]? = W.heap[b]?) : SL W1 A cap l := by
  rcases h with h | ⟨b, cs, rfl, hb, r⟩
  · exact .inl h
  · exact .inr ⟨b, cs, rfl, (hk b cs rfl hb).trans hb, r⟩
theorem Buf.lt {W : World} {g : Nat} {l : List S68} {c m : Int} (h : Buf W g l c m) : g < W.heap.size := by
  obtain ⟨A, cap, hg, _⟩ := h
  exact blk_lt hg
/-- What else is written leaves it as it is. -/
theorem Buf.grown {W W1 : World} {g : Nat} {l : List S68} {c m : Int} (h : Buf W g l c m) (row : Option Nat) (hw : W.grownBy W1 row) (hne : some g ≠ row) (ht : ∀ k cs, row = some k → W.heap[k]? ≠ some (.cells cs 68 (0, 0))) : Buf W1 g l c m := by
  obtain ⟨A, cap, hg, hs⟩ := h
  refine ⟨A, cap, (hw.block g (blk_lt hg) hne).trans hg, hs.kept fun b cs hA hb => hw.block b (blk_lt hb) fun e => ht b cs e.symm hb⟩
theorem Buf.below {W W1 : World} {g : Nat} {l : List S68} {c m : Int} (h : Buf W g l c m) (hw : Below W.heap.size W W1) : Buf W1 g l c m :=
  h.grown none (grown_of_below hw none) (by simp) (by simp)

theorem SL.cells {W : World} {A : Option Addr} {cap : Nat} {l : List S68} (h : SL W A cap l) : ∀ ad, A = some ad → ∀ (j : Nat) (u : Value), (bcells l)[j]? = some u → W.cell? (ad.add j) = some u := by
  intro ad hA j u hu
  rcases h with ⟨h, _⟩ | ⟨b, cs, hb, hh, _, _, _, ht⟩
  · rw [h] at hA
    cases hA
  · rw [hb] at hA
    injection hA with hA
    subst hA
    rw [add_plain]
    exact cell_of_take hh ht j u hu
/-- As the printed texts read it. -/
theorem Buf.is {W : World} {g : Nat} {l : List S68} {c m : Int} (h : Buf W g l c m) : IsS64 W W g l c m := by
  obtain ⟨A, cap, hg, hs⟩ := h
  refine ⟨A, cap, hg, (blk_cell hg 0).trans rfl, rfl, ?_, fun hp => ?_⟩
  · rcases hs with ⟨_, _, rfl⟩ | ⟨b, cs, _, _, h1, h2, _⟩
    · simp
    · unfold maxLen at h2
      omega
  · rcases hs with ⟨_, _, rfl⟩ | ⟨b, cs, hA, hh, r⟩
    · simp at hp
    · refine ⟨_, hA, fun j x hj => ⟨bc x, rfl, k68_mk W x, fun i u hu => ?_⟩⟩
      exact SL.cells (.inr ⟨b, cs, hA, hh, r⟩) _ hA _ u (bcells_get l j x hj i u hu)

theorem grownBy_trans {a b c : World} {row : Option Nat} (h : a.grownBy b row) (k : b.grownBy c row) : a.grownBy c row :=
  ⟨k.os.trans h.os, k.tape.trans h.tape, k.output.trans h.output, Nat.le_trans h.size k.size, fun i hi hn => (k.block i (Nat.lt_of_lt_of_le hi h.size) hn).trans (h.block i hi hn)⟩
theorem grownBy_drew {a b : World} {row : Option Nat} (h : a.grownBy b row) : a.grownBy b.drew row := ⟨h.os, h.tape, h.output, h.size, h.block⟩
theorem grownBy_set (a : World) (p : Addr) (v : Value) : a.grownBy (a.setCell p v) (some p.block) := by
  refine ⟨rfl, rfl, rfl, by simp, fun i hi hn => ?_⟩
  exact Below.heap_setCell a p v i (fun e => hn (by rw [e]))
theorem ownsRow_SL {W : World} {base n : Nat} {v : Value} {l : List S68} (h : W.ownsRow base 68 3 v n (bcells l)) (hn : 0 < n) (hl : l.length = n) : ∃ b cap, v = .slice (some ⟨b, 0, none⟩) n cap ∧ SL W (some ⟨b, 0, none⟩) cap l ∧ base ≤ b := by
  rcases h.2 with ⟨_, h0⟩ | ⟨b, cap, cur, rfl, hb, hh, h1, h2, h3, h4⟩
  · omega
  · exact ⟨b, cap, rfl, .inr ⟨b, cur, rfl, hh, by omega, h2, by omega, by rw [hl]; exact h4⟩, hb⟩

theorem info68 : (Tryd.prog.info? 68).map (fun i => (i.zero, i.size, i.bytes)) = some (some (.agg #[(.string ⟨#[]⟩), (.string ⟨#[]⟩), (.bool false)]), 3, 40) := by kernel_rfl

theorem new_cells {w : World} {n : Nat} (hn : n = w.heap.size) (cs : List Value) (t : TypeId) : ∀ b : Addr, some (⟨n, 0, none⟩ : Addr) = some b → ∀ (j : Nat) (u : Value), cs[j]? = some u → (w.alloc (.cells cs.toArray t)).cell? (b.add j) = some u := by
  intro b hb j u hu
  injection hb with hb
  subst hb
  subst hn
  rw [add_plain]
  exact cell_of_take (n := cs.length) (blk_new w _) (by simp) j u hu
theorem past2 {w : World} {b : Nat} (hb : b < w.heap.size) {l : List Value} (h : ∀ (j : Nat) (u : Value), l[j]? = some u → w.cell? ((⟨b, 0, none⟩ : Addr).add j) = some u) :
    ∀ (o1 o2 : Obj) (j : Nat) (u : Value), l[j]? = some u → ((w.alloc o1).alloc o2).cell? ((⟨b, 0, none⟩ : Addr).add j) = some u := by
  intro o1 o2 j u hu
  have h1 := h j u hu
  rw [add_plain] at h1 ⊢
  exact pw_cell_below (below_alloc (below_alloc (Below.refl _ _) o1) o2) h1
/-- The list's slice is written into the block. -/
theorem Buf.put {W : World} {g : Nat} {v : Value} {A : Option Addr} {cap n : Nat} {l : List S68} {c m : Int} (hg : W.heap[g]? = some (.cells #[v, .int .i64 c, .int .i64 m] 64 (0, 0))) (hs : SL W A cap l) (hn : l.length = n) : Buf (W.setCell ⟨g, 0, none⟩ (.slice A n cap)) g l c m := by
  refine ⟨A, cap, ?_, ?_⟩
  · rw [hn]
    exact blk_put hg 0 _ rfl
  · refine hs.kept fun b cs2 hA hb => Below.heap_setCell W ⟨g, 0, none⟩ _ b ?_
    intro e
    have e2 : b = g := e
    subst e2
    rw [hg] at hb
    injection hb with hb
    injection hb with _ hb _
    exact absurd hb (by decide)

theorem arr_put {W0 W : World} {g : Nat} {v : Value} {b : Nat} {n cap : Nat} {c m : Int} (hg : W.heap[g]? = some (.cells #[v, .int .i64 c, .int .i64 m] 64 (0, 0))) (hb : W0.heap.size ≤ b) : ArrOk W0 (W.setCell ⟨g, 0, none⟩ (.slice (some ⟨b, 0, none⟩) n cap)) g := by
  have h := (blk_cell (blk_put hg 0 (.slice (some ⟨b, 0, none⟩) n cap) rfl) 0)
  have h2 := arr_slice (h.trans rfl)
  exact .inr fun k hk => by
    rw [h2] at hk
    injection hk with hk
    exact hk ▸ hb

theorem grownBy_one {W w1 : World} (h : W.drew.grownBy w1 none) (g : Nat) (v : Value) : W.grownBy (w1.setCell ⟨g, 0, none⟩ v) (some g) :=
  grownBy_trans ⟨h.os, h.tape, h.output, h.size, fun i hi _ => h.block i hi (by simp)⟩ (grownBy_set w1 ⟨g, 0, none⟩ v)
theorem grownBy_two {W w1 : World} {o1 o2 : Obj} (h : ((W.alloc o1).alloc o2).drew.grownBy w1 none) (g : Nat) (v : Value) : W.grownBy (w1.setCell ⟨g, 0, none⟩ v) (some g) :=
  grownBy_trans (grownBy_trans (World.grownBy_alloc W o1 _) (grownBy_trans (World.grownBy_alloc _ o2 _) ⟨h.os, h.tape, h.output, h.size, fun i hi _ => h.block i hi (by simp)⟩)) (grownBy_set w1 ⟨g, 0, none⟩ v)

set_option maxHeartbeats 1600000 in
set_option maxRecDepth 100000 in
/-- push: the newest, behind it some. -/
theorem push_some (W : World) (g : Nat) (l : List S68) (c m : Int) (x : S68) (h : Buf W g l c m) (hl : l.length ≤ 1000) (hp : 0 < l.length) :
    Calls Tryd.prog 30 #[.pointer (some ⟨g, 0, none⟩), .agg #[.string x.f0.f0, .string x.f0.f1, .bool x.f1]] W fun e W' => e = .returned (.tuple #[]) ∧ Buf W' g (x :: l) c m ∧ W.grownBy W' (some g) ∧ ArrOk W W' g := by
  obtain ⟨A, cap, hg, hs⟩ := h
  obtain ⟨b, cs, rfl, hb, hrest⟩ : ∃ b cs, A = some ⟨b, 0, none⟩ ∧ W.heap[b]? = some (.cells cs 68 (0, 0)) ∧ SL W (some ⟨b, 0, none⟩) cap l := by
    rcases hs with ⟨_, _, rfl⟩ | ⟨b, cs, rfl, hb, r⟩
    · simp at hp
    · exact ⟨b, cs, rfl, hb, .inr ⟨b, cs, rfl, hb, r⟩⟩
  obtain ⟨i0, hi, hz0, hz1, hz2⟩ := info_parts info68
  have hc0 : W.cell? ⟨g, 0, none⟩ = some (.slice (some ⟨b, 0, none⟩) l.length cap) := (blk_cell hg 0).trans rfl
  have hf0 := blk_frozen hg 0
  have hlt := blk_lt hg
  have hblt := blk_lt hb
  have hcells := Lib.hid (past2 hblt (SL.cells hrest _ rfl))
  have HG := Lib.hid hg
  clear hg hrest hb
  go_enter Tryd.func30, Tryd.ntmps30
  go_wp2_with fail
  go_region_law ((refine step_append_grows rfl (.tmp 6) (.tmp 10) 62 rfl 68 i0 _ 3 40 Tryd.underlying62 hi hz0 hz1 hz2 (by rfl) (by decide) (some ⟨W.heap.size + 1, 0, none⟩) 1 1 (bc x) (by simp [Act.eval, Act.put]) (by simp) rfl (new_cells (w := W.alloc (.cells #[.string x.f0.f0, .string x.f0.f1, .bool x.f1] 68)) (by simp) (bc x) 68) ⟨b, 0, none⟩ l.length cap (bcells l) (by simp [Act.eval, Act.put]) (bcells_length l) (hcells.out _ _) (bcells_one l) (by omega) (by unfold maxLen; omega) (by omega) ?_); intro v1 w1 hown hgr; obtain ⟨b1, cap1, rfl, hSL, hb1⟩ := ownsRow_SL (l := x :: l) hown (by omega) (by simp; omega); have HG1 := Lib.hid (blk_grown (blk_drew (blk_alloc (blk_alloc HG.out _) _)) hgr (by simp)); have hc1 : w1.cell? ⟨g, 0, none⟩ = some (.slice (some ⟨b, 0, none⟩) l.length cap) := (blk_cell HG1.out 0).trans rfl; have hf1 := blk_frozen HG1.out 0; have HS := Lib.hid hSL; have HR := Lib.hid hgr; clear hown hgr hSL)
  all_goals go_wp2
  all_goals go_end0
  all_goals exact ⟨rfl, Buf.put HG1.out HS.out (by simp; omega), grownBy_two (HR.out) g _, arr_put HG1.out (by simp at hb1; omega)⟩

theorem SL.one {w : World} {n : Nat} (hn : n = w.heap.size) (x : S68) : SL (w.alloc (.cells #[.string x.f0.f0, .string x.f0.f1, .bool x.f1] 68)) (some ⟨n, 0, none⟩) 1 [x] := by
  subst hn
  exact .inr ⟨_, _, rfl, blk_new w _, by simp, by unfold maxLen; omega, by simp, by simp [bcells, bc]⟩
theorem Buf.first {W : World} {g : Nat} {v : Value} {c m : Int} (hg : W.heap[g]? = some (.cells #[v, .int .i64 c, .int .i64 m] 64 (0, 0))) (o1 : Obj) {n : Nat} (hn : n = W.heap.size + 1) (x : S68) :
    Buf (((W.setCell ⟨g, 0, none⟩ (.slice (some ⟨n, 0, none⟩) 1 1)).alloc o1).alloc (.cells #[.string x.f0.f0, .string x.f0.f1, .bool x.f1] 68)).drew g [x] c m :=
  ⟨some ⟨n, 0, none⟩, 1, blk_drew (blk_alloc (blk_alloc (blk_put hg 0 _ rfl) _) _), SL.one (by simp [hn]) x⟩
theorem arr_first {W : World} {g : Nat} {v : Value} {c m : Int} (hg : W.heap[g]? = some (.cells #[v, .int .i64 c, .int .i64 m] 64 (0, 0))) (o1 o2 : Obj) {b n cap : Nat} (hb : W.heap.size ≤ b) : ArrOk W (((W.setCell ⟨g, 0, none⟩ (.slice (some ⟨b, 0, none⟩) n cap)).alloc o1).alloc o2).drew g := by
  have h := (blk_cell (blk_drew (blk_alloc (blk_alloc (blk_put hg 0 (.slice (some ⟨b, 0, none⟩) n cap) rfl) o1) o2)) 0)
  have h2 := arr_slice (h.trans rfl)
  exact .inr fun k hk => by
    rw [h2] at hk
    injection hk with hk
    exact hk ▸ hb
theorem grownBy_first {W : World} {g : Nat} (v : Value) (o1 o2 : Obj) : W.grownBy (((W.setCell ⟨g, 0, none⟩ v).alloc o1).alloc o2).drew (some g) :=
  grownBy_drew (grownBy_trans (grownBy_set W ⟨g, 0, none⟩ v) (grownBy_trans (World.grownBy_alloc _ o1 _) (World.grownBy_alloc _ o2 _)))

set_option maxHeartbeats 1600000 in
set_option maxRecDepth 100000 in
/-- push: the first one. -/
theorem push_none (W : World) (g : Nat) (c m : Int) (x : S68) (h : Buf W g [] c m) :
    Calls Tryd.prog 30 #[.pointer (some ⟨g, 0, none⟩), .agg #[.string x.f0.f0, .string x.f0.f1, .bool x.f1]] W fun e W' => e = .returned (.tuple #[]) ∧ Buf W' g [x] c m ∧ W.grownBy W' (some g) ∧ ArrOk W W' g := by
  obtain ⟨A, cap, hg, hs⟩ := h
  have hc0 : W.cell? ⟨g, 0, none⟩ = some (.slice A 0 cap) := (blk_cell hg 0).trans rfl
  have hf0 := blk_frozen hg 0
  have hlt := blk_lt hg
  have HG := Lib.hid hg
  clear hg
  have hA : (∃ ad, A = some ad) ∨ A = none := by cases A <;> simp
  rcases hA with ⟨ad, rfl⟩ | rfl
  · go_enter Tryd.func30, Tryd.ntmps30
    go_wp2_with fail
    go_region
    all_goals go_end0
    all_goals exact ⟨rfl, Buf.first HG.out _ (by simp) _, grownBy_first _ _ _, arr_first HG.out _ _ (by simp)⟩
  · go_enter Tryd.func30, Tryd.ntmps30
    go_wp2_with fail
    go_region
    all_goals go_end0
    all_goals exact ⟨rfl, Buf.first HG.out _ (by simp) _, grownBy_first _ _ _, arr_first HG.out _ _ (by simp)⟩

theorem Buf.put' {W : World} {g : Nat} {v : Value} {A : Option Addr} {cap n n' : Nat} {l : List S68} {c m : Int} (hg : W.heap[g]? = some (.cells #[v, .int .i64 c, .int .i64 m] 64 (0, 0))) (hs : SL W A cap l) (hn : l.length = n) (hn' : n' = n) : Buf (W.setCell ⟨g, 0, none⟩ (.slice A n' cap)) g l c m := by
  subst hn'
  exact Buf.put hg hs hn
theorem Buf.drewput {W : World} {g : Nat} {v : Value} {A : Option Addr} {cap n n' : Nat} {l : List S68} {c m : Int} (hg : W.heap[g]? = some (.cells #[v, .int .i64 c, .int .i64 m] 64 (0, 0))) (hs : SL W A cap l) (hn : l.length = n) (hn' : n' = n) : Buf (W.setCell ⟨g, 0, none⟩ (.slice A n' cap)).drew g l c m := Buf.put' hg hs hn hn'
theorem arr_same {W : World} {g : Nat} {v : Value} {ad : Addr} {n n' cap cap' : Nat} {c m : Int} (hg : W.heap[g]? = some (.cells #[v, .int .i64 c, .int .i64 m] 64 (0, 0))) (hc : W.cell? ⟨g, 0, none⟩ = some (.slice (some ad) n cap)) : ArrOk W (W.setCell ⟨g, 0, none⟩ (.slice (some ad) n' cap')).drew g := by
  have h := (blk_cell (blk_drew (blk_put hg 0 (.slice (some ad) n' cap') rfl)) 0)
  have h2 := arr_slice (h.trans rfl)
  exact .inl (h2.trans (arr_slice hc).symm)
theorem grownBy_drewset (W : World) (g : Nat) (v : Value) : W.grownBy (W.setCell ⟨g, 0, none⟩ v).drew (some g) := grownBy_drew (grownBy_set W ⟨g, 0, none⟩ v)

set_option maxHeartbeats 1600000 in
set_option maxRecDepth 100000 in
/-- drop: the oldest. -/
theorem drop_last (W : World) (g : Nat) (l : List S68) (c m : Int) (i : Nat) (h : Buf W g l c m) (hl : l.length ≤ 1000) (hi : i + 1 = l.length) :
    Calls Tryd.prog 34 #[.pointer (some ⟨g, 0, none⟩), .int .i64 i] W fun e W' => e = .returned (.tuple #[]) ∧ Buf W' g (l.take i) c m ∧ W.grownBy W' (some g) ∧ ArrOk W W' g := by
  obtain ⟨A, cap, hg, hs⟩ := h
  obtain ⟨b, cs, rfl, hb, hcap, hcapm, hcs, ht⟩ : ∃ b cs, A = some ⟨b, 0, none⟩ ∧ W.heap[b]? = some (.cells cs 68 (0, 0)) ∧ l.length ≤ cap ∧ cap ≤ maxLen ∧ cap * 3 ≤ cs.size ∧ cs.toList.take (l.length * 3) = bcells l := by
    rcases hs with ⟨_, _, rfl⟩ | ⟨b, cs, rfl, r⟩
    · simp at hi
    · exact ⟨b, cs, rfl, r⟩
  obtain ⟨i0, hinf, hz0, hz1, hz2⟩ := info_parts info68
  have hc0 : W.cell? ⟨g, 0, none⟩ = some (.slice (some ⟨b, 0, none⟩) l.length cap) := (blk_cell hg 0).trans rfl
  have hf0 := blk_frozen hg 0
  have hlt := blk_lt hg
  have HG := Lib.hid hg
  have HS := Lib.hid (show SL W (some ⟨b, 0, none⟩) i (l.take i) from .inr ⟨b, cs, rfl, hb, by simp; omega, by omega, by omega, by
    have e : (l.take i).length = i := by simp; omega
    rw [e, bcells_take, ← ht, List.take_take]
    congr 1
    omega⟩)
  have hwr : IntKind.i64.wrap ((i : Int) + 1) = (i : Int) + 1 := by rw [IntKind.wrap_i64]; omega
  have hp0 : (0 : Int) ≤ (i : Int) + 1 := by omega
  have hp1 : (i : Int) + 1 ≤ (l.length : Int) := by omega
  have hp2 : ((i : Int) + 1).toNat = i + 1 := by omega
  have hic : (i : Int) ≤ (cap : Int) := by omega
  have HI := Lib.hid hi
  unfold maxLen at hcapm
  obtain ⟨A2, hA2⟩ : ∃ A2 : Addr, (if cap = i + 1 then some (⟨b, 0, none⟩ : Addr) else some ⟨b, (i + 1) * 3, none⟩) = some A2 := by
    by_cases h : cap = i + 1
    · exact ⟨_, if_pos h⟩
    · exact ⟨_, if_neg h⟩
  clear hg hs hb hcs ht hi
  go_enter Tryd.func34, Tryd.ntmps34
  go_wp2_with fail
  go_region_law ((refine step_append_room rfl (.tmp 11) (.tmp 18) 62 rfl 68 i0 3 Tryd.underlying62 hinf hz1 b 0 i i (by simp [Act.eval, Act.put, hA2]) A2 (l.length - (i + 1)) (cap - (i + 1)) [] (by simp [Act.eval, Act.put, hA2]) (by have := HI.out; simp; omega) (fun j u hu => by simp at hu) (fun u hu => by cases hu) (by have := HI.out; omega) (fun j hj => by simp at hj) ?_); simp only [World.setCells])
  all_goals go_wp2
  all_goals go_end0
  all_goals exact ⟨rfl, Buf.drewput (n := i) HG.out HS.out (by have := HI.out; simp; omega) (by have := HI.out; omega), grownBy_drewset _ _ _, arr_same HG.out hc0⟩

set_option maxHeartbeats 1600000 in
set_option maxRecDepth 100000 in
/-- drop: one that is not the oldest. -/
theorem drop_mid (W : World) (g : Nat) (l : List S68) (c m : Int) (i : Nat) (h : Buf W g l c m) (hl : l.length ≤ 1000) (hi : i + 1 < l.length) :
    Calls Tryd.prog 34 #[.pointer (some ⟨g, 0, none⟩), .int .i64 i] W fun e W' => e = .returned (.tuple #[]) ∧ Buf W' g (l.take i ++ l.drop (i + 1)) c m ∧ W.grownBy W' (some g) ∧ ArrOk W W' g := by
  obtain ⟨A, cap, hg, hs⟩ := h
  obtain ⟨b, cs, rfl, hb, hcap, hcapm, hcs, ht⟩ : ∃ b cs, A = some ⟨b, 0, none⟩ ∧ W.heap[b]? = some (.cells cs 68 (0, 0)) ∧ l.length ≤ cap ∧ cap ≤ maxLen ∧ cap * 3 ≤ cs.size ∧ cs.toList.take (l.length * 3) = bcells l := by
    rcases hs with ⟨_, _, rfl⟩ | ⟨b, cs, rfl, r⟩
    · simp at hi
    · exact ⟨b, cs, rfl, r⟩
  obtain ⟨i0, hinf, hz0, hz1, hz2⟩ := info_parts info68
  have hc0 : W.cell? ⟨g, 0, none⟩ = some (.slice (some ⟨b, 0, none⟩) l.length cap) := (blk_cell hg 0).trans rfl
  have hf0 := blk_frozen hg 0
  have hlt := blk_lt hg
  have HG := Lib.hid hg
  have hcell := cell_of_take hb ht
  have HO := Lib.hid (show ∀ b' : Addr, some (⟨b, 0, none⟩ : Addr) = some b' → ∀ (j : Nat) (u : Value), (bcells (l.take i))[j]? = some u → W.drew.cell? (b'.add j) = some u by
    intro b' hb' j u hu
    injection hb' with hb'
    subst hb'
    rw [add_plain]
    refine hcell j u ?_
    rw [bcells_take, List.getElem?_take] at hu
    split at hu
    · exact hu
    · cases hu)
  have HN := Lib.hid (show ∀ (j : Nat) (u : Value), (bcells (l.drop (i + 1)))[j]? = some u → W.drew.cell? ((⟨b, (i + 1) * 3, none⟩ : Addr).add j) = some u by
    intro j u hu
    have e : ((⟨b, (i + 1) * 3, none⟩ : Addr).add j) = ⟨b, (i + 1) * 3 + j, none⟩ := by unfold Addr.add; split <;> simp_all
    rw [e]
    refine hcell _ u ?_
    rw [bcells_drop, List.getElem?_drop] at hu
    exact hu)
  have hlo : (bcells (l.take i)).length = i * 3 := by rw [bcells_length]; simp; omega
  have hln : (bcells (l.drop (i + 1))).length = (l.length - (i + 1)) * 3 := by rw [bcells_length]; simp
  have HLO := Lib.hid hlo
  have HLN := Lib.hid hln
  have hwr : IntKind.i64.wrap ((i : Int) + 1) = (i : Int) + 1 := by rw [IntKind.wrap_i64]; omega
  have hp0 : (0 : Int) ≤ (i : Int) + 1 := by omega
  have hp1 : (i : Int) + 1 ≤ (l.length : Int) := by omega
  have hp2 : ((i : Int) + 1).toNat = i + 1 := by omega
  have hic : (i : Int) ≤ (cap : Int) := by omega
  have hA2 : (if cap = i + 1 then some (⟨b, 0, none⟩ : Addr) else some ⟨b, (i + 1) * 3, none⟩) = some ⟨b, (i + 1) * 3, none⟩ := if_neg (by omega)
  unfold maxLen at hcapm
  clear hg hs hb hcs ht hcell hlo hln
  go_enter Tryd.func34, Tryd.ntmps34
  go_wp2_with fail
  go_region_law ((refine step_append_grows rfl (.tmp 11) (.tmp 18) 62 rfl 68 i0 _ 3 40 Tryd.underlying62 hinf hz0 hz1 hz2 (by rfl) (by decide) (some ⟨b, 0, none⟩) i i (bcells (l.take i)) (by simp [Act.eval, Act.put]) (by simp) HLO.out HO.out ⟨b, (i + 1) * 3, none⟩ (l.length - (i + 1)) (cap - (i + 1)) (bcells (l.drop (i + 1))) (by simp [Act.eval, Act.put, hA2]) HLN.out HN.out (bcells_one _) (by omega) (by unfold maxLen; omega) (by omega) ?_); intro v1 w1 hown hgr; rw [← bcells_append] at hown; obtain ⟨b1, cap1, rfl, hSL, hb1⟩ := ownsRow_SL (l := l.take i ++ l.drop (i + 1)) hown (by omega) (by simp; omega); have HG1 := Lib.hid (blk_grown (blk_drew HG.out) hgr (by simp)); have hc1 : w1.cell? ⟨g, 0, none⟩ = some (.slice (some ⟨b, 0, none⟩) l.length cap) := (blk_cell HG1.out 0).trans rfl; have hf1 := blk_frozen HG1.out 0; have HS := Lib.hid hSL; have HR := Lib.hid hgr; clear hown hgr hSL)
  all_goals go_wp2
  all_goals go_end0
  all_goals exact ⟨rfl, Buf.put HG1.out HS.out (by simp; omega), grownBy_one (HR.out) g _, arr_put HG1.out (by simpa using hb1)⟩

end Go.Proofs.YtjkmmfjlladlfaaDoor.Hand
