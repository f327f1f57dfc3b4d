/- Texts of this claim, put together by a program of this session (prune.py): PlainC, PlainD, LawP, LawT. -/
import Derived.Test.YtnblabfkkcohgaaGreatDoorQTCI
import Derived.Test.YtnblabfkkcohgaaGreatDoorQTCF
import Derived.Test.YtnblabfkkcohgaaGreatDoorQTCE
section
/- The plain laws of lines: a line that is written tells its event, and an event that is told is written so. -/
namespace Go.Proofs.YtnblabfkkcohgaaGreatDoor.Wire
set_option linter.unusedVariables false
set_option linter.unusedSimpArgs false
open Go Go.Shelf Go.RowKit

theorem dec_mem : ∀ (n : Nat) (x : UInt8), x ∈ Lib.decDigits n → 48 ≤ x.toNat := by
  intro n
  induction n using Nat.strongRecOn with
  | ind n ih =>
    intro x hx
    rw [Lib.decDigits] at hx
    split at hx
    · simp only [List.mem_singleton] at hx
      subst hx
      simp only [UInt8.toNat_ofNat']
      omega
    · rw [List.mem_append, List.mem_singleton] at hx
      rcases hx with hx | hx
      · exact ih _ (by omega) x hx
      · subst hx
        simp only [UInt8.toNat_ofNat']
        omega
theorem putNum_blank (n : Int) : (32 : UInt8) ∉ putNumN n := by
  unfold putNumN
  split
  · intro h
    have := dec_mem _ _ h
    revert this
    decide
  · simp
theorem putId_blank (m : UInt8) (hm : m ≠ 32) (n : Int) : (32 : UInt8) ∉ putIdN m n := by
  unfold putIdN
  split
  · simp only [List.mem_cons, not_or]
    refine ⟨fun e => hm e.symm, fun h => ?_⟩
    have := dec_mem _ _ h
    revert this
    decide
  · simp
theorem index_not {l : List UInt8} {c : UInt8} (h : Lib.indexByte l c < 0) : c ∉ l := by
  rcases cutN_cases c l with ⟨_, h2⟩ | ⟨i, h1, _⟩
  · have := cutN_none (c := c) (l := l)
    rw [h2] at this
    exact this
  · omega
/-- A field in which no blank stands. -/
def Fd.tight : Fd → Bool
  | .name b => !b
  | .text _ _ => false
  | .id m _ => decide (m ≠ 32)
  | _ => true
theorem put_blank {fd : Fd} (hf : fd.tight = true) {e : Evt} (h : (fd.put e).2 = true) : (32 : UInt8) ∉ (fd.put e).1.data.toList := by
  cases fd with
  | num p m => simp only [Fd.put, ofL_data]; exact putNum_blank _
  | id m p => simp only [Fd.put, ofL_data]; exact putId_blank m (by simpa [Fd.tight] using hf) _
  | name b =>
    have hb : b = false := by simpa [Fd.tight] using hf
    subst hb
    simp only [Fd.put] at h ⊢
    have h2 : wordN e.name.data.toList = true := h
    unfold wordN at h2
    simp only [Bool.and_eq_true, decide_eq_true_eq] at h2
    exact index_not h2.2
  | text a b => simp [Fd.tight] at hf
  | plan v =>
    have key : ∀ l : List UInt8, planN l = true → (32 : UInt8) ∉ l := by
      intro l hl hm
      unfold planN at hl
      simp only [Bool.and_eq_true, List.all_eq_true] at hl
      have := hl.1 _ hm
      revert this
      decide
    cases v <;> (simp only [Fd.put, Bool.and_eq_true] at h; simp only [Fd.put]; exact key _ h.2)
  | zoom => simp only [Fd.put, ofL_data]; split <;> decide
  | colon => simp only [Fd.put, ofL_data]; decide
theorem cutN_app {c : UInt8} {p l : List UInt8} (h : c ∉ p) : cutN c (p ++ c :: l) = (p, l, true) := by
  induction p with
  | nil => simp [cutN]
  | cons b p ih =>
    simp only [List.mem_cons, not_or] at h
    rw [List.cons_append]
    unfold cutN
    rw [if_neg (by simp; exact fun e => h.1 e.symm), ih h.2]
theorem gets_pres {fd : Fd} : ∀ {fds : List Fd} {l : List UInt8} {t e : Evt}, getsN fds l t = some e → (∀ f ∈ fds, fd.slot ≠ f.slot) → fd.put e = fd.put t ∧ ∀ t0, fd.keep t0 e = fd.keep t0 t := by
  intro fds
  induction fds with
  | nil =>
    intro l t e h _
    obtain rfl := Option.some.inj h
    exact ⟨rfl, fun _ => rfl⟩
  | cons f fs ih =>
    intro l t e h hs
    have h0 := hs f (by simp)
    cases fs with
    | nil =>
      simp only [getsN] at h
      split at h
      · obtain rfl := Option.some.inj h
        exact ⟨other_put h0 _ _, fun t0 => other_keep h0 _ _ _⟩
      · cases h
    | cons f' fs =>
      simp only [getsN] at h
      split at h
      · split at h
        · have h1 := ih h (fun g hg => hs g (by simp [List.mem_cons] at hg ⊢; exact .inr hg))
          exact ⟨h1.1.trans (other_put h0 _ _), fun t0 => (h1.2 t0).trans (other_keep h0 _ _ _)⟩
        · cases h
      · cases h
theorem gets_kind : ∀ {fds : List Fd} {l : List UInt8} {t e : Evt}, getsN fds l t = some e → e.kind = t.kind := by
  intro fds
  induction fds with
  | nil => intro l t e h; obtain rfl := Option.some.inj h; rfl
  | cons f fs ih =>
    intro l t e h
    cases fs with
    | nil =>
      simp only [getsN] at h
      split at h
      · obtain rfl := Option.some.inj h; exact get_kind _ _ _
      · cases h
    | cons f' fs =>
      simp only [getsN] at h
      split at h
      · split at h
        · exact (ih h).trans (get_kind _ _ _)
        · cases h
      · cases h
/-- What is read is what is written. -/
theorem puts_gets : ∀ {fds : List Fd} {l : List UInt8} {t e : Evt} {acc : List UInt8}, getsN fds l t = some e → fds ≠ [] → fds.Pairwise (fun a b => a.slot ≠ b.slot) → putsN fds e acc t = some (acc ++ 32 :: l, e) := by
  intro fds
  induction fds with
  | nil => intro l t e acc h h0; exact absurd rfl h0
  | cons f fs ih =>
    intro l t e acc h _ hp
    have hp' := List.pairwise_cons.1 hp
    cases fs with
    | nil =>
      simp only [getsN] at h
      split at h
      · rename_i hok
        obtain rfl := Option.some.inj h
        simp only [putsN]
        rw [put_get hok]
        simp only [if_pos, ofL_data]
        rw [keep_get]
        simp
      · cases h
    | cons f' fs =>
      simp only [getsN] at h
      split at h
      · rename_i hc
        split at h
        · rename_i hok
          have hpr := gets_pres (fd := f) h hp'.1
          have h1 := ih (acc := acc ++ [32] ++ (cutN 32 l).1) h (by simp) hp'.2
          unfold putsN
          rw [hpr.1, put_get hok]
          simp only [if_pos, ofL_data]
          rw [hpr.2 t, keep_get, h1, cutN_found hc]
          have e1 := cutN_app (l := (cutN 32 l).2.1) (cutN_none (c := 32) (l := l))
          rw [e1]
          simp
        · cases h
      · cases h
/-- What is written is what is read. -/
theorem gets_puts : ∀ {fds : List Fd} {e t t' : Evt} {acc s : List UInt8}, putsN fds e acc t = some (s, t') → fds ≠ [] → (∀ f ∈ fds, f.sane = true) → (∀ f ∈ fds.dropLast, f.tight = true) → ∃ l, s = acc ++ 32 :: l ∧ getsN fds l t = some t' := by
  intro fds
  induction fds with
  | nil => intro e t t' acc s h h0; exact absurd rfl h0
  | cons f fs ih =>
    intro e t t' acc s h _ hs ht
    unfold putsN at h
    split at h
    · rename_i hok
      have hg := get_put (hs f (by simp)) (t := t) hok
      cases fs with
      | nil =>
        simp only [putsN, Option.some.injEq, Prod.mk.injEq] at h
        refine ⟨(f.put e).1.data.toList, by rw [← h.1]; simp, ?_⟩
        simp only [getsN]
        rw [hg, ← h.2]
        simp
      | cons f' fs =>
        obtain ⟨l, hl, hr⟩ := ih h (by simp) (fun g hg' => hs g (List.mem_cons_of_mem _ hg')) (fun g hg' => ht g (by simp only [List.dropLast_cons_cons]; exact List.mem_cons_of_mem _ hg'))
        refine ⟨(f.put e).1.data.toList ++ 32 :: l, by rw [hl]; simp, ?_⟩
        have hb := put_blank (ht f (by simp [List.dropLast_cons_cons])) hok
        simp only [getsN]
        rw [cutN_app hb]
        simp only [if_pos]
        rw [hg]
        simpa using hr
    · cases h
end Go.Proofs.YtnblabfkkcohgaaGreatDoor.Wire
end
section
/- Encode and Decode undo one another, said plainly; how long their texts are. -/
namespace Go.Proofs.YtnblabfkkcohgaaGreatDoor.Wire
set_option linter.unusedVariables false
set_option linter.unusedSimpArgs false
open Go Go.Shelf Go.RowKit

/-- What a row of fields keeps to. -/
def RowOk (fds : List Fd) : Bool := (fds.map Fd.slot).Nodup && (fds.all Fd.sane && fds.dropLast.all Fd.tight)
theorem rows_ok (n : Nat) : RowOk (fdsOf n) = true := by
  unfold fdsOf
  split <;> decide
theorem rows_apart (n : Nat) : (fdsOf n).Pairwise (fun a b => a.slot ≠ b.slot) := by
  have h := rows_ok n
  unfold RowOk at h
  simp only [Bool.and_eq_true, decide_eq_true_eq] at h
  exact List.pairwise_map.1 h.1
theorem rows_sane (n : Nat) : ∀ f ∈ fdsOf n, f.sane = true := by
  have h := rows_ok n
  unfold RowOk at h
  simp only [Bool.and_eq_true, List.all_eq_true] at h
  exact h.2.1
theorem rows_tight (n : Nat) : ∀ f ∈ (fdsOf n).dropLast, f.tight = true := by
  have h := rows_ok n
  unfold RowOk at h
  simp only [Bool.and_eq_true, List.all_eq_true] at h
  exact h.2.2
/-- What a kind's word keeps to. -/
def WordOk (k : Int) : Prop := (kwN k).data.toList.head? = some 37 ∧ (32 : UInt8) ∉ (kwN k).data.toList ∧ kindFrom 24 1 (kwN k).data.toList = k ∧ fdsOf k.toNat ≠ [] ∧ (kwN k).toList.isEmpty = false
instance (k : Int) : Decidable (WordOk k) := by unfold WordOk; infer_instance
theorem word_ok {k : Int} (h : Kinds k) : WordOk k := by
  rcases h with rfl | rfl | rfl | rfl | rfl | rfl | rfl | rfl | rfl | rfl | rfl | rfl | rfl | rfl | rfl | rfl | rfl | rfl | rfl | rfl | rfl | rfl | rfl
  all_goals decide +kernel
theorem kinds_of {k : Int} (h : (kwN k).toList.isEmpty = false) : Kinds k := by
  by_cases hk : Kinds k
  · exact hk
  · rw [kw_kinds hk, ByteArray.toList_eq] at h
    cases h
theorem kinds_of2 {k : Int} (h : (kwN k).data.toList ≠ []) : Kinds k := by
  by_cases hk : Kinds k
  · exact hk
  · rw [kw_kinds hk] at h
    exact absurd rfl h
theorem kinds_ne {k : Int} (h : Kinds k) : k ≠ 4 ∧ k ≠ 25 ∧ k ≠ 0 := by
  rcases h with rfl | rfl | rfl | rfl | rfl | rfl | rfl | rfl | rfl | rfl | rfl | rfl | rfl | rfl | rfl | rfl | rfl | rfl | rfl | rfl | rfl | rfl | rfl
  all_goals decide
theorem head_app {a b : List UInt8} {x : UInt8} (h : a.head? = some x) : (a ++ b).head? = some x := by
  cases a with
  | nil => simp at h
  | cons y a => simpa using h
theorem kind_word {k : Int} (h : Kinds k) (r : List UInt8) : kindN ((kwN k).data.toList ++ 32 :: r) = k := by
  obtain ⟨_, h2, h3, _⟩ := word_ok h
  unfold kindN
  rw [cutN_app h2]
  exact h3
theorem data_eq {a b : ByteArray} (h : a.data.toList = b.data.toList) : a = b := by
  apply ByteArray.ext
  exact Array.toList_inj.1 h
/-- An event that has a line is what the line tells. -/
theorem dec_enc {e : Evt} (h : (encN e).2 = 0) : decN (encN e).1 = e := by
  unfold encN at h ⊢
  by_cases h4 : e.kind = 4
  · rw [if_pos h4] at h ⊢
    by_cases hq : e = textEv 4 e.text
    · rw [if_pos hq]
      simp only
      unfold decN
      rw [ofL_data, if_neg (escBody_head _), unescBody_esc]
      simp only [if_pos, ofL_list]
      exact hq.symm
    · rw [if_neg hq] at h
      simp at h
  · rw [if_neg h4] at h ⊢
    by_cases hq : e = bareEv 24
    · rw [if_pos hq]
      subst hq
      decide +kernel
    · rw [if_neg hq] at h ⊢
      by_cases hz : (kwN e.kind).toList.isEmpty = true
      · rw [if_pos hz] at h
        simp at h
      · rw [if_neg hz] at h ⊢
        have hK := kinds_of (by simpa using hz)
        have hW := word_ok hK
        have hN := kinds_ne hK
        cases hp : putsN (fdsOf e.kind.toNat) e (kwN e.kind).data.toList (bareEv e.kind) with
        | none => rw [hp] at h; simp at h
        | some st =>
          obtain ⟨s, t⟩ := st
          rw [hp] at h
          simp only at h ⊢
          by_cases ht : t = e
          · rw [if_pos ht]
            simp only
            obtain ⟨l, hl, hr⟩ := gets_puts hp hW.2.2.2.1 (rows_sane _) (rows_tight _)
            have hk := kind_word hK l
            unfold decN
            rw [ofL_data, hl, hk, if_pos (head_app hW.1), if_neg hN.2.2, if_neg (fun e2 => ?_)]
            · have e3 : ((kwN e.kind).data.toList ++ 32 :: l).drop ((kwN e.kind).size + 1) = l := by
                rw [← dlen, ← List.drop_drop]
                simp
              rw [e3, hr]
              exact ht
            · have := congrArg (fun b : ByteArray => b.data.toList.length) e2
              simp only [ofL_data, List.length_append, List.length_cons] at this
              omega
          · rw [if_neg ht] at h
            simp at h
theorem enc_err {e : Evt} (h : (encN e).2 ≠ 0) : encN e = (⟨#[]⟩, 30) := by
  unfold encN at h ⊢
  split
  · rename_i h4
    rw [if_pos h4] at h
    split
    · rename_i hq; rw [if_pos hq] at h; exact absurd rfl h
    · rfl
  · rename_i h4
    rw [if_neg h4] at h
    split
    · rename_i hq; rw [if_pos hq] at h; exact absurd rfl h
    · rename_i hq
      rw [if_neg hq] at h
      split
      · rfl
      · rename_i hz
        rw [if_neg hz] at h
        cases hp : putsN (fdsOf e.kind.toNat) e (kwN e.kind).data.toList (bareEv e.kind) with
        | none => rfl
        | some st =>
          obtain ⟨s, t⟩ := st
          rw [hp] at h
          simp only at h ⊢
          split
          · rename_i ht; rw [if_pos ht] at h; exact absurd rfl h
          · rfl
theorem enc_bad (s : ByteArray) : encN (textEv 25 s) = (⟨#[]⟩, 30) := by
  unfold encN
  rw [if_neg (show ¬ (textEv 25 s).kind = 4 from (show ¬ (25 : Int) = 4 by decide)), if_neg (fun e => absurd (congrArg Evt.kind e) (show ¬ (25 : Int) = 24 by decide)), if_pos (show (kwN (textEv 25 s).kind).toList.isEmpty = true from (show (kwN 25).toList.isEmpty = true by decide +kernel))]
theorem gets_24 {l : List UInt8} {e : Evt} (h : getsN (fdsOf 24) l (bareEv 24) = some e) : e ≠ bareEv 24 := by
  intro hb
  have h' : (if ((Fd.text 1 1024).get (bareEv 24) (ofL l)).2 = true then some ((Fd.text 1 1024).get (bareEv 24) (ofL l)).1 else none) = some e := h
  split at h'
  · rename_i hok
    have e1 := Option.some.inj h'
    rw [hb] at e1
    simp only [Fd.get, Bool.and_eq_true, decide_eq_true_eq] at hok
    have e2 := congrArg (fun x : Evt => x.text.size) e1
    simp only [Fd.get, ofL_size] at e2
    have e3 : (bareEv 24).text.size = 0 := rfl
    omega
  · cases h'
/-- A line tells an event whose line it is, or that it is none. -/
theorem enc_dec (s : ByteArray) : ((decN s).kind = 25 ∧ decN s = textEv 25 s) ∨ ((decN s).kind ≠ 25 ∧ encN (decN s) = (s, 0)) := by
  unfold decN
  by_cases h37 : s.data.toList.head? = some 37
  · rw [if_pos h37]
    by_cases hk : kindN s.data.toList = 0
    · rw [if_pos hk]; exact .inl ⟨rfl, rfl⟩
    · rw [if_neg hk]
      by_cases hw : s = kwN (kindN s.data.toList)
      · rw [if_pos hw]
        by_cases h24 : kindN s.data.toList = 24
        · rw [if_pos h24]
          rw [h24] at hw
          refine .inr ⟨by decide, ?_⟩
          rw [hw]
          decide +kernel
        · rw [if_neg h24]; exact .inl ⟨rfl, rfl⟩
      · rw [if_neg hw]
        cases hg : getsN (fdsOf (kindN s.data.toList).toNat) (s.data.toList.drop ((kwN (kindN s.data.toList)).size + 1)) (bareEv (kindN s.data.toList)) with
        | none => exact .inl ⟨rfl, rfl⟩
        | some e =>
          simp only
          obtain ⟨rest, hr⟩ := kind_split hk (fun e => hw (data_eq e))
          obtain ⟨_, _, h3, h4⟩ := kindFrom_is hk
          have hK : Kinds (kindN s.data.toList) := kinds_of2 (by rw [show (kwN (kindN s.data.toList)).data.toList = _ from h3]; exact h4)
          generalize kindN s.data.toList = k at *
          have hN := kinds_ne hK
          have hW := word_ok hK
          have ek : e.kind = k := gets_kind hg
          have e3 : s.data.toList.drop ((kwN k).size + 1) = rest := by
            rw [hr, ← dlen, ← List.drop_drop]
            simp
          rw [e3] at hg
          refine .inr ⟨by rw [ek]; exact hN.2.1, ?_⟩
          have hp := puts_gets (acc := (kwN k).data.toList) hg hW.2.2.2.1 (rows_apart _)
          unfold encN
          rw [ek, if_neg hN.1, if_neg, if_neg (by rw [hW.2.2.2.2]; simp), hp]
          · simp only [if_pos]
            rw [← hr, ofL_list]
          · intro he
            have hk24 : k = 24 := by rw [← ek, he]; rfl
            subst hk24
            exact gets_24 hg he
  · rw [if_neg h37]
    by_cases hb : (unescBodyR s.data.toList).2 = 0
    · rw [if_pos hb]
      refine .inr ⟨show (4 : Int) ≠ 25 by decide, ?_⟩
      unfold encN
      rw [if_pos (show (textEv 4 (ofL (unescBodyR s.data.toList).1)).kind = 4 from rfl), if_pos (show textEv 4 (ofL (unescBodyR s.data.toList).1) = textEv 4 (textEv 4 (ofL (unescBodyR s.data.toList).1)).text from rfl)]
      simp only [textEv, ofL_data]
      rw [esc_unescBody hb, ofL_list]
    · rw [if_neg hb]
      exact .inl ⟨rfl, rfl⟩
/-- The sizes of an event's texts are at most m. -/
structure Sz (m : Nat) (e : Evt) : Prop where
  name : e.name.size ≤ m
  text : e.text.size ≤ m
  layout : e.layout.size ≤ m
  visible : e.visible.size ≤ m
theorem Sz.ev {m : Nat} {e : Evt} (h : Sz m e) (hm : m ≤ 1099511627776) : EvSz e := ⟨by have := h.name; omega, by have := h.text; omega, by have := h.layout; omega, by have := h.visible; omega⟩
theorem get_sz {m : Nat} {fd : Fd} {t : Evt} {s : ByteArray} (h : Sz m t) (hs : s.size ≤ m) : Sz m (fd.get t s).1 := by
  cases fd with
  | num p x => cases p <;> exact ⟨h.name, h.text, h.layout, h.visible⟩
  | id x p => cases p <;> exact ⟨h.name, h.text, h.layout, h.visible⟩
  | name b => exact ⟨hs, h.text, h.layout, h.visible⟩
  | text a b => exact ⟨h.name, by simp only [Fd.get, ofL_size]; have := unescR_len s.data.toList; rw [dlen] at this; omega, h.layout, h.visible⟩
  | plan v => cases v; exact ⟨h.name, h.text, hs, h.visible⟩; exact ⟨h.name, h.text, h.layout, hs⟩
  | zoom => exact ⟨h.name, h.text, h.layout, h.visible⟩
  | colon => exact h
theorem cut_le (c : UInt8) (l : List UInt8) : (cutN c l).1.length ≤ l.length ∧ (cutN c l).2.1.length ≤ l.length := by
  cases h : (cutN c l).2.2 with
  | true =>
    have e := congrArg List.length (cutN_found h)
    rw [List.length_append, List.length_cons] at e
    omega
  | false =>
    have e := cutN_not h
    rw [e.1, e.2]
    simp
theorem gets_sz {m : Nat} : ∀ {fds : List Fd} {l : List UInt8} {t e : Evt}, getsN fds l t = some e → Sz m t → l.length ≤ m → Sz m e := by
  intro fds
  induction fds with
  | nil => intro l t e h ht _; obtain rfl := Option.some.inj h; exact ht
  | cons f fs ih =>
    intro l t e h ht hl
    cases fs with
    | nil =>
      simp only [getsN] at h
      split at h
      · obtain rfl := Option.some.inj h; exact get_sz ht (by rw [ofL_size]; exact hl)
      · cases h
    | cons f' fs =>
      have hc := cut_le 32 l
      simp only [getsN] at h
      split at h
      · split at h
        · exact ih h (get_sz ht (by rw [ofL_size]; omega)) (by omega)
        · cases h
      · cases h
theorem bare_sz (m : Nat) (k : Int) : Sz m (bareEv k) := ⟨Nat.zero_le _, Nat.zero_le _, Nat.zero_le _, Nat.zero_le _⟩
theorem text_sz {m : Nat} (k : Int) {t : ByteArray} (h : t.size ≤ m) : Sz m (textEv k t) := ⟨Nat.zero_le _, h, Nat.zero_le _, Nat.zero_le _⟩
theorem unescBody_len (l : List UInt8) : (unescBodyR l).1.length ≤ l.length := by
  unfold unescBodyR
  split
  · simp
  · split
    · rename_i hp
      obtain ⟨r, rfl⟩ := (prefix_iff _).1 hp
      split
      · simp only [List.drop_succ_cons, List.drop_zero, List.length_cons]
        have := unescR_len r
        omega
      · simp
    · exact unescR_len l
theorem dec_sz (s : ByteArray) : Sz s.size (decN s) := by
  unfold decN
  split
  · split
    · exact text_sz 25 (Nat.le_refl _)
    · split
      · split
        · exact bare_sz _ _
        · exact text_sz 25 (Nat.le_refl _)
      · cases hg : getsN (fdsOf (kindN s.data.toList).toNat) (s.data.toList.drop ((kwN (kindN s.data.toList)).size + 1)) (bareEv (kindN s.data.toList)) with
        | none => exact text_sz 25 (Nat.le_refl _)
        | some e => exact gets_sz hg (bare_sz _ _) (by rw [List.length_drop, dlen]; omega)
  · split
    · exact text_sz 4 (by rw [ofL_size]; have := unescBody_len s.data.toList; rw [dlen] at this; exact this)
    · exact text_sz 25 (Nat.le_refl _)
theorem put_len {m : Nat} (fd : Fd) {e : Evt} (hs : Sz m e) : (fd.put e).1.data.toList.length ≤ 4 * m + 22 := by
  have h1 := hs.name
  have h2 := hs.text
  have h3 := hs.layout
  have h4 := hs.visible
  rw [dlen]
  cases fd with
  | num p x => simp only [Fd.put, ofL_size]; have := putNum_len (p.get e); omega
  | id x p => simp only [Fd.put, ofL_size]; have := putId_len x (p.get e); omega
  | name b => simp only [Fd.put]; omega
  | text a b => simp only [Fd.put, ofL_size]; have := escL_len e.text.data.toList; rw [dlen] at this; omega
  | plan v => cases v <;> simp only [Fd.put] <;> omega
  | zoom => simp only [Fd.put, ofL_size]; split <;> simp
  | colon => simp only [Fd.put, ofL_size]; simp
theorem puts_len {m : Nat} {e : Evt} (hs : Sz m e) : ∀ {fds : List Fd} {acc s : List UInt8} {t t' : Evt}, putsN fds e acc t = some (s, t') → s.length ≤ acc.length + fds.length * (4 * m + 23) := by
  intro fds
  induction fds with
  | nil => intro acc s t t' h; simp only [putsN, Option.some.injEq, Prod.mk.injEq] at h; rw [← h.1]; simp
  | cons f fs ih =>
    intro acc s t t' h
    unfold putsN at h
    split at h
    · have := ih h
      have := put_len f hs
      simp only [List.length_append, List.length_cons, List.length_nil] at *
      rw [Nat.add_mul]
      omega
    · cases h
theorem escBody_len (l : List UInt8) : (escBodyN l).length ≤ 4 * l.length := by
  unfold escBodyN
  split
  · rename_i h
    cases l with
    | nil => simp at h
    | cons x r =>
      have := escL_len r
      simp
      omega
  · exact escL_len l
theorem enc_len {m : Nat} {e : Evt} (hs : Sz m e) : (encN e).1.size ≤ 28 * m + 300 := by
  by_cases h : (encN e).2 = 0
  · unfold encN at h ⊢
    split
    · rename_i h4
      rw [if_pos h4] at h
      split
      · simp only [ofL_size]
        have := escBody_len e.text.data.toList
        have := hs.text
        rw [dlen] at *
        omega
      · show (0 : Nat) ≤ _
        omega
    · split
      · have := kw_size 24
        simp only
        omega
      · split
        · show (0 : Nat) ≤ _
          omega
        · cases hp : putsN (fdsOf e.kind.toNat) e (kwN e.kind).data.toList (bareEv e.kind) with
          | none => show (0 : Nat) ≤ _; omega
          | some st =>
            obtain ⟨s, t⟩ := st
            simp only
            split
            · have h1 := puts_len hs hp
              have h2 := fds_len e.kind.toNat
              have h3 := kw_size e.kind
              rw [dlen] at h1
              have h5 : (fdsOf e.kind.toNat).length * (4 * m + 23) ≤ 7 * (4 * m + 23) := Nat.mul_le_mul_right _ h2
              simp only [ofL_size]
              omega
            · show (0 : Nat) ≤ _
              omega
  · rw [enc_err h]
    show (0 : Nat) ≤ _
    omega
end Go.Proofs.YtnblabfkkcohgaaGreatDoor.Wire
end
section
/- WireBack, WireTotal, WireForged: what the laws reckon is true. -/
namespace Go.Proofs.YtnblabfkkcohgaaGreatDoor.LawP
set_option linter.unusedVariables false
set_option linter.unusedSimpArgs false
open Go Go.Shelf Go.RowKit Go.Proofs.YtnblabfkkcohgaaGreatDoor.Wire Go.Proofs.YtnblabfkkcohgaaGreatDoor.LawG Go.Proofs.YtnblabfkkcohgaaGreatDoor.CutG Go.Proofs.YtnblabfkkcohgaaGreatDoor.Given Go.Proofs.YtnblabfkkcohgaaGreatDoor.PLwA

theorem enc_val {e : Evt} {m : Nat} (h : Sz m e) (hm : m ≤ 1099511627776) : given_Encode.f e.kind e.session e.window e.pane e.index e.offset e.tick e.number e.flag e.name e.text e.layout e.visible e.zoom = some (encN e) := by
  unfold given_Encode.f
  rw [if_pos ⟨by have := h.name; omega, by have := h.text; omega, by have := h.layout; omega, by have := h.visible; omega⟩]
theorem dec_val {s : ByteArray} (h : s.size ≤ 1099511627776) : given_Decode.f s = some ((decN s).kind, (decN s).session, (decN s).window, (decN s).pane, (decN s).index, (decN s).offset, (decN s).tick, (decN s).number, (decN s).flag, (decN s).name, (decN s).text, (decN s).layout, (decN s).visible, (decN s).zoom) := by
  unfold given_Decode.f
  rw [if_pos h]
/-- A line's class by its event's kind. -/
def classN (k : Int) : Int := if k = 25 then 0 else if k = 1 then 2 else if k = 2 then 4 else if k = 3 then 4 else if k = 4 then 3 else if k = 24 then 5 else 1
theorem class_val {s : ByteArray} (h : s.size ≤ 1099511627776) (k : Nat) : wire_Class.f (k + 1) s = some (classN (decN s).kind) := by
  unfold wire_Class.f
  rw [dec_val h]
  simp only [Option.bind_some, wire_Class.j0]
  generalize (decN s).kind = x
  unfold classN
  by_cases h1 : x = 25
  · rw [if_pos h1, if_pos h1]
  · rw [if_neg h1, if_neg h1]
    by_cases h2 : x = 1
    · rw [if_pos h2, if_pos h2]
    · rw [if_neg h2, if_neg h2]
      by_cases h3 : x = 2
      · rw [if_pos h3, if_pos h3]
        simp [h3]
      · rw [if_neg h3, if_neg h3]
        by_cases h4 : x = 3
        · rw [if_pos h4]
          simp [h4]
        · rw [if_neg h4, if_neg (by simpa using h4)]
          by_cases h5 : x = 4
          · rw [if_pos h5, if_pos h5]
          · rw [if_neg h5, if_neg h5]
            by_cases h6 : x = 24
            · rw [if_pos h6, if_pos h6]
            · rw [if_neg h6, if_neg h6]
theorem class_ne {k : Int} (h : k ≠ 25) : classN k ≠ 0 := by
  unfold classN
  rw [if_neg h]
  repeat' split
  all_goals decide
def linkEv : Evt := ⟨18, 1, 3, 0, 2, 0, 0, 0, 0, ⟨#[]⟩, ⟨#[]⟩, ⟨#[]⟩, ⟨#[]⟩, false⟩
theorem id1 (m : UInt8) (n : Nat) (h1 : 1 ≤ n) (h : n < 10) : putIdN m n = [m, UInt8.ofNat (48 + n)] := by
  unfold putIdN
  rw [if_pos (by omega), Int.toNat_natCast, Lib.decDigits_one h]
theorem num1 (n : Nat) (h : n < 10) : putNumN n = [UInt8.ofNat (48 + n)] := by
  unfold putNumN
  rw [if_pos (by omega), Int.toNat_natCast, Lib.decDigits_one h]
theorem enc_link : encN linkEv = (ofL [37, 119, 105, 110, 100, 111, 119, 45, 108, 105, 110, 107, 32, 36, 49, 32, 50, 32, 64, 51], 0) := by
  have a1 : (Fd.id 36 .session).put linkEv = (ofL [36, 49], true) := by
    show (ofL (putIdN 36 ((1 : Nat) : Int)), !(ofL (putIdN 36 ((1 : Nat) : Int))).toList.isEmpty) = _
    rw [id1 36 1 (by omega) (by omega), ofL_toList]
    rfl
  have a2 : (Fd.num .index 9999).put linkEv = (ofL [50], true) := by
    show (ofL (putNumN ((2 : Nat) : Int)), decide ((0 : Int) ≤ 2) && decide ((2 : Int) ≤ 9999)) = _
    rw [num1 2 (by omega)]
    rfl
  have a3 : (Fd.id 64 .window).put linkEv = (ofL [64, 51], true) := by
    show (ofL (putIdN 64 ((3 : Nat) : Int)), !(ofL (putIdN 64 ((3 : Nat) : Int))).toList.isEmpty) = _
    rw [id1 64 3 (by omega) (by omega), ofL_toList]
    rfl
  unfold encN
  rw [if_neg (show ¬ linkEv.kind = 4 by decide), if_neg (show ¬ linkEv = bareEv 24 by decide), if_neg (show ¬ (kwN linkEv.kind).toList.isEmpty = true by decide +kernel)]
  rw [show fdsOf linkEv.kind.toNat = [.id 36 .session, .num .index 9999, .id 64 .window] from rfl]
  simp only [putsN]
  rw [a1, a2, a3]
  simp only [if_pos]
  rw [if_pos (by decide)]
  rw [show (kwN linkEv.kind).data.toList = [37, 119, 105, 110, 100, 111, 119, 45, 108, 105, 110, 107] by decide +kernel]
  rfl
theorem sure_val : mullionlaw03_sure.f = some true := by
  unfold mullionlaw03_sure.f
  rw [show given_Encode.f 18 1 3 0 2 0 0 0 0 (⟨#[]⟩ : ByteArray) (⟨#[]⟩ : ByteArray) (⟨#[]⟩ : ByteArray) (⟨#[]⟩ : ByteArray) false = some (encN linkEv) from enc_val (e := linkEv) (m := 0) ⟨Nat.le_refl _, Nat.le_refl _, Nat.le_refl _, Nat.le_refl _⟩ (by omega)]
  have hd : decN (encN linkEv).1 = linkEv := dec_enc (by rw [enc_link])
  rw [enc_link] at hd ⊢
  simp only [Option.bind_some, ofL_toList, if_pos]
  rw [dec_val (by rw [ofL_size]; decide), hd]
  simp only [Option.bind_some, linkEv, ByteArray.toList_eq]
  decide
theorem back_val {e : Evt} (h : Sz 1048576 e) : mullionlaw03_WireBack.f e.kind e.session e.window e.pane e.index e.offset e.tick e.number e.flag e.name e.text e.layout e.visible e.zoom = some true := by
  unfold mullionlaw03_WireBack.f
  rw [enc_val h (by omega)]
  have hl := enc_len h
  simp only [Option.bind_some]
  by_cases hz : (encN e).2 = 0
  · rw [if_pos hz, dec_val (by omega), dec_enc hz]
    simp only [Option.bind_some, sure_val]
    rw [if_neg (by simp)]
  · rw [if_neg hz, enc_err hz]
    simp only [sure_val, ByteArray.toList_eq, Option.bind_some]
    rw [if_pos trivial]
theorem back_calls {w : World} (hL : LaidW w) (e : Evt) (h : Sz 1048576 e) : Calls Tryz.prog 7 #[.agg #[.int .i64 e.kind, .int .i64 e.session, .int .i64 e.window, .int .i64 e.pane, .int .i64 e.index, .int .i64 e.offset, .int .i64 e.tick, .int .i64 e.number, .int .i64 e.flag, .string e.name, .string e.text, .string e.layout, .string e.visible, .bool e.zoom]] w fun r w' => r = .returned (.bool true) ∧ Below w.heap.size w w' := mullionlaw03_WireBack.calls e.kind e.session e.window e.pane e.index e.offset e.tick e.number e.flag e.name e.text e.layout e.visible e.zoom true w hL (back_val h)
theorem class_calls {w : World} (hL : LaidW w) (s : ByteArray) (h : s.size ≤ 1099511627776) : Calls Tryz.prog 19 #[.string s] w fun r w' => r = .returned (.int .i64 (classN (decN s).kind)) ∧ Below w.heap.size w w' := wire_Class.calls 1 s _ w hL (class_val h 0)
theorem sure_calls {w : World} (hL : LaidW w) : Calls Tryz.prog 23 #[] w fun r w' => r = .returned (.bool true) ∧ Below w.heap.size w w' := mullionlaw03_sure.calls true w hL sure_val
end Go.Proofs.YtnblabfkkcohgaaGreatDoor.LawP
end
section
/- WireTotal, walked. -/
namespace Go.Proofs.YtnblabfkkcohgaaGreatDoor.Wire
set_option linter.unusedVariables false
set_option linter.unusedSimpArgs false
open Go.Proofs.YtnblabfkkcohgaaGreatDoor.LawP
open Go Go.Shelf Go.RowKit Go.Proofs.YtnblabfkkcohgaaGreatDoor.Given Go.Proofs.YtnblabfkkcohgaaGreatDoorW.PrintWords Go.Proofs.YtnblabfkkcohgaaGreatDoorW.PrintLast

attribute [local go_sem high] eqE
set_option maxHeartbeats 3200000 in
theorem total_bad {w : World} (hL : Given.LaidW w) (s : ByteArray) 
    (hdec : ∀ w, Given.LaidW w → Calls Tryz.prog 24 #[.string s] w fun r w' => r = .returned (.agg #[.int .i64 25, .int .i64 0, .int .i64 0, .int .i64 0, .int .i64 0, .int .i64 0, .int .i64 0, .int .i64 0, .int .i64 0, .string (⟨#[]⟩ : ByteArray), .string s, .string (⟨#[]⟩ : ByteArray), .string (⟨#[]⟩ : ByteArray), .bool false]) ∧ Below w.heap.size w w')
    (henc : ∀ w, Given.LaidW w → Calls Tryz.prog 21 #[.agg #[.int .i64 25, .int .i64 0, .int .i64 0, .int .i64 0, .int .i64 0, .int .i64 0, .int .i64 0, .int .i64 0, .int .i64 0, .string (⟨#[]⟩ : ByteArray), .string s, .string (⟨#[]⟩ : ByteArray), .string (⟨#[]⟩ : ByteArray), .bool false]] w fun r w' => r = .returned (.tuple #[.string ⟨#[]⟩, .int .i64 30]) ∧ Below w.heap.size w w')
    (hcls : ∀ w, Given.LaidW w → Calls Tryz.prog 19 #[.string s] w fun r w' => r = .returned (.int .i64 0) ∧ Below w.heap.size w w')  :
    Calls Tryz.prog 11 #[.string s] w fun r w' => r = .returned (.bool true) ∧ Below w.heap.size w w' := by
  have HL := Lib.hid hL
  have HDEC := Lib.hid hdec
  have HENC := Lib.hid henc
  have HCLS := Lib.hid hcls
  clear hL hdec henc hcls
  have hq : evB ⟨25, 0, 0, 0, 0, 0, 0, 0, 0, ⟨#[]⟩, s, ⟨#[]⟩, ⟨#[]⟩, false⟩ ⟨25, 0, 0, 0, 0, 0, 0, 0, 0, ⟨#[]⟩, s, ⟨#[]⟩, ⟨#[]⟩, false⟩ = true := evB_true.2 rfl
  go_enter Tryz.func11, Tryz.ntmps11
  go_wp2_with (first | ((go_at_call 24); (with_reducible refine (HDEC.out _ HL.out).mono ?_); rintro r w1 ⟨rfl, hb⟩; have HB1 := Lib.hid hb; clear hb) | ((with_reducible refine gate_dst (N := 3) rfl ?_); refine box_event ?hg (N := 3) ?hd (cs := #[.int .i64 0, .int .i64 0, .int .i64 0, .int .i64 0, .int .i64 0, .int .i64 0, .int .i64 0, .int .i64 0, .int .i64 0, .string (⟨#[]⟩ : ByteArray), .string (⟨#[]⟩ : ByteArray), .string (⟨#[]⟩ : ByteArray), .string (⟨#[]⟩ : ByteArray), .bool false]) (t := 28) ?hr ?_; (case hd => rfl); (case hg => rfl); (case hr => first | (go_simp; done) | (go_simp; rfl)); intro ge hgb w2 hbox hbb; have HX2 := Lib.hid hbox; have HB2 := Lib.hid hbb; have HGe := Lib.hid (show w1.heap.size ≤ ge by rw [hgb]; exact Nat.le_refl _); clear hgb hbox hbb) | ((with_reducible refine gate_store (t := 28) (p := 3) rfl ?_); refine store_event (ty := 28) (p := 3) rfl ?hg ?hd (cells := #[.int .i64 25, .int .i64 0, .int .i64 0, .int .i64 0, .int .i64 0, .int .i64 0, .int .i64 0, .int .i64 0, .int .i64 0, .string (⟨#[]⟩ : ByteArray), .string s, .string (⟨#[]⟩ : ByteArray), .string (⟨#[]⟩ : ByteArray), .bool false]) ?hx ?hy HX2.out ?hi ?ho ?h1 ?_; (case hd => rfl); (case hg => rfl); (case hx => first | (go_simp; done) | (go_simp; rfl)); (case hy => first | (go_simp; done) | (go_simp; rfl)); (case hi => kernel_rfl); (case ho => rfl); (case h1 => kernel_rfl); intro w3 hst hsb; have HE3 := Lib.hid hst; have HC3 := Lib.hid (below_step HB1.out (below_tr HB2.out (hsb.below HGe.out HB2.out.size))); have ce0 : World.cell? w3 ⟨ge, 0, none⟩ = some (.int .i64 25) := (blk_cell hst 0).trans rfl; have ce1 : World.cell? w3 ⟨ge, 1, none⟩ = some (.int .i64 0) := (blk_cell hst 1).trans rfl; have ce2 : World.cell? w3 ⟨ge, 2, none⟩ = some (.int .i64 0) := (blk_cell hst 2).trans rfl; have ce3 : World.cell? w3 ⟨ge, 3, none⟩ = some (.int .i64 0) := (blk_cell hst 3).trans rfl; have ce4 : World.cell? w3 ⟨ge, 4, none⟩ = some (.int .i64 0) := (blk_cell hst 4).trans rfl; have ce5 : World.cell? w3 ⟨ge, 5, none⟩ = some (.int .i64 0) := (blk_cell hst 5).trans rfl; have ce6 : World.cell? w3 ⟨ge, 6, none⟩ = some (.int .i64 0) := (blk_cell hst 6).trans rfl; have ce7 : World.cell? w3 ⟨ge, 7, none⟩ = some (.int .i64 0) := (blk_cell hst 7).trans rfl; have ce8 : World.cell? w3 ⟨ge, 8, none⟩ = some (.int .i64 0) := (blk_cell hst 8).trans rfl; have ce9 : World.cell? w3 ⟨ge, 9, none⟩ = some (.string (⟨#[]⟩ : ByteArray)) := (blk_cell hst 9).trans rfl; have ce10 : World.cell? w3 ⟨ge, 10, none⟩ = some (.string s) := (blk_cell hst 10).trans rfl; have ce11 : World.cell? w3 ⟨ge, 11, none⟩ = some (.string (⟨#[]⟩ : ByteArray)) := (blk_cell hst 11).trans rfl; have ce12 : World.cell? w3 ⟨ge, 12, none⟩ = some (.string (⟨#[]⟩ : ByteArray)) := (blk_cell hst 12).trans rfl; have ce13 : World.cell? w3 ⟨ge, 13, none⟩ = some (.bool false) := (blk_cell hst 13).trans rfl; clear hst hsb) | ((go_at_call 21); (with_reducible refine (HENC.out _ (HL.out.below HC3.out)).mono ?_); rintro r w4 ⟨rfl, hb⟩; have HC4 := Lib.hid (below_step HC3.out hb); have HE4 := Lib.hid (blk_below HE3.out hb); have cf0 : World.cell? w4 ⟨ge, 0, none⟩ = some (.int .i64 25) := (blk_cell HE4.out 0).trans rfl; have cf1 : World.cell? w4 ⟨ge, 1, none⟩ = some (.int .i64 0) := (blk_cell HE4.out 1).trans rfl; have cf2 : World.cell? w4 ⟨ge, 2, none⟩ = some (.int .i64 0) := (blk_cell HE4.out 2).trans rfl; have cf3 : World.cell? w4 ⟨ge, 3, none⟩ = some (.int .i64 0) := (blk_cell HE4.out 3).trans rfl; have cf4 : World.cell? w4 ⟨ge, 4, none⟩ = some (.int .i64 0) := (blk_cell HE4.out 4).trans rfl; have cf5 : World.cell? w4 ⟨ge, 5, none⟩ = some (.int .i64 0) := (blk_cell HE4.out 5).trans rfl; have cf6 : World.cell? w4 ⟨ge, 6, none⟩ = some (.int .i64 0) := (blk_cell HE4.out 6).trans rfl; have cf7 : World.cell? w4 ⟨ge, 7, none⟩ = some (.int .i64 0) := (blk_cell HE4.out 7).trans rfl; have cf8 : World.cell? w4 ⟨ge, 8, none⟩ = some (.int .i64 0) := (blk_cell HE4.out 8).trans rfl; have cf9 : World.cell? w4 ⟨ge, 9, none⟩ = some (.string (⟨#[]⟩ : ByteArray)) := (blk_cell HE4.out 9).trans rfl; have cf10 : World.cell? w4 ⟨ge, 10, none⟩ = some (.string s) := (blk_cell HE4.out 10).trans rfl; have cf11 : World.cell? w4 ⟨ge, 11, none⟩ = some (.string (⟨#[]⟩ : ByteArray)) := (blk_cell HE4.out 11).trans rfl; have cf12 : World.cell? w4 ⟨ge, 12, none⟩ = some (.string (⟨#[]⟩ : ByteArray)) := (blk_cell HE4.out 12).trans rfl; have cf13 : World.cell? w4 ⟨ge, 13, none⟩ = some (.bool false) := (blk_cell HE4.out 13).trans rfl; clear hb) | ((go_at_call 19); (with_reducible refine (HCLS.out _ (HL.out.below HC4.out)).mono ?_); rintro r w5 ⟨rfl, hb⟩; have HC5 := Lib.hid (below_step HC4.out hb); clear hb) | ((go_at_call 23); (with_reducible refine (sure_calls (HL.out.below HC5.out)).mono ?_); rintro r w6 ⟨rfl, hb⟩; have HC6 := Lib.hid (below_step HC5.out hb); clear hb))
  all_goals go_returns
  all_goals exact ⟨by simp [*], HC6.out⟩
set_option maxHeartbeats 3200000 in
theorem total_good {w : World} (hL : Given.LaidW w) (s : ByteArray) (e : Evt) (c : Int) (hk : (e.kind == 25) = false)
    (hdec : ∀ w, Given.LaidW w → Calls Tryz.prog 24 #[.string s] w fun r w' => r = .returned (.agg #[.int .i64 e.kind, .int .i64 e.session, .int .i64 e.window, .int .i64 e.pane, .int .i64 e.index, .int .i64 e.offset, .int .i64 e.tick, .int .i64 e.number, .int .i64 e.flag, .string e.name, .string e.text, .string e.layout, .string e.visible, .bool e.zoom]) ∧ Below w.heap.size w w')
    (henc : ∀ w, Given.LaidW w → Calls Tryz.prog 21 #[.agg #[.int .i64 e.kind, .int .i64 e.session, .int .i64 e.window, .int .i64 e.pane, .int .i64 e.index, .int .i64 e.offset, .int .i64 e.tick, .int .i64 e.number, .int .i64 e.flag, .string e.name, .string e.text, .string e.layout, .string e.visible, .bool e.zoom]] w fun r w' => r = .returned (.tuple #[.string s, .int .i64 0]) ∧ Below w.heap.size w w')
    (hcls : ∀ w, Given.LaidW w → Calls Tryz.prog 19 #[.string s] w fun r w' => r = .returned (.int .i64 c) ∧ Below w.heap.size w w') (hc : (c != 0) = true) :
    Calls Tryz.prog 11 #[.string s] w fun r w' => r = .returned (.bool true) ∧ Below w.heap.size w w' := by
  have HL := Lib.hid hL
  have HDEC := Lib.hid hdec
  have HENC := Lib.hid henc
  have HCLS := Lib.hid hcls
  clear hL hdec henc hcls
  go_enter Tryz.func11, Tryz.ntmps11
  go_wp2_with (first | ((go_at_call 24); (with_reducible refine (HDEC.out _ HL.out).mono ?_); rintro r w1 ⟨rfl, hb⟩; have HB1 := Lib.hid hb; clear hb) | ((with_reducible refine gate_dst (N := 3) rfl ?_); refine box_event ?hg (N := 3) ?hd (cs := #[.int .i64 0, .int .i64 0, .int .i64 0, .int .i64 0, .int .i64 0, .int .i64 0, .int .i64 0, .int .i64 0, .int .i64 0, .string (⟨#[]⟩ : ByteArray), .string (⟨#[]⟩ : ByteArray), .string (⟨#[]⟩ : ByteArray), .string (⟨#[]⟩ : ByteArray), .bool false]) (t := 28) ?hr ?_; (case hd => rfl); (case hg => rfl); (case hr => first | (go_simp; done) | (go_simp; rfl)); intro ge hgb w2 hbox hbb; have HX2 := Lib.hid hbox; have HB2 := Lib.hid hbb; have HGe := Lib.hid (show w1.heap.size ≤ ge by rw [hgb]; exact Nat.le_refl _); clear hgb hbox hbb) | ((with_reducible refine gate_store (t := 28) (p := 3) rfl ?_); refine store_event (ty := 28) (p := 3) rfl ?hg ?hd (cells := #[.int .i64 e.kind, .int .i64 e.session, .int .i64 e.window, .int .i64 e.pane, .int .i64 e.index, .int .i64 e.offset, .int .i64 e.tick, .int .i64 e.number, .int .i64 e.flag, .string e.name, .string e.text, .string e.layout, .string e.visible, .bool e.zoom]) ?hx ?hy HX2.out ?hi ?ho ?h1 ?_; (case hd => rfl); (case hg => rfl); (case hx => first | (go_simp; done) | (go_simp; rfl)); (case hy => first | (go_simp; done) | (go_simp; rfl)); (case hi => kernel_rfl); (case ho => rfl); (case h1 => kernel_rfl); intro w3 hst hsb; have HE3 := Lib.hid hst; have HC3 := Lib.hid (below_step HB1.out (below_tr HB2.out (hsb.below HGe.out HB2.out.size))); have ce0 : World.cell? w3 ⟨ge, 0, none⟩ = some (.int .i64 e.kind) := (blk_cell hst 0).trans rfl; have ce1 : World.cell? w3 ⟨ge, 1, none⟩ = some (.int .i64 e.session) := (blk_cell hst 1).trans rfl; have ce2 : World.cell? w3 ⟨ge, 2, none⟩ = some (.int .i64 e.window) := (blk_cell hst 2).trans rfl; have ce3 : World.cell? w3 ⟨ge, 3, none⟩ = some (.int .i64 e.pane) := (blk_cell hst 3).trans rfl; have ce4 : World.cell? w3 ⟨ge, 4, none⟩ = some (.int .i64 e.index) := (blk_cell hst 4).trans rfl; have ce5 : World.cell? w3 ⟨ge, 5, none⟩ = some (.int .i64 e.offset) := (blk_cell hst 5).trans rfl; have ce6 : World.cell? w3 ⟨ge, 6, none⟩ = some (.int .i64 e.tick) := (blk_cell hst 6).trans rfl; have ce7 : World.cell? w3 ⟨ge, 7, none⟩ = some (.int .i64 e.number) := (blk_cell hst 7).trans rfl; have ce8 : World.cell? w3 ⟨ge, 8, none⟩ = some (.int .i64 e.flag) := (blk_cell hst 8).trans rfl; have ce9 : World.cell? w3 ⟨ge, 9, none⟩ = some (.string e.name) := (blk_cell hst 9).trans rfl; have ce10 : World.cell? w3 ⟨ge, 10, none⟩ = some (.string e.text) := (blk_cell hst 10).trans rfl; have ce11 : World.cell? w3 ⟨ge, 11, none⟩ = some (.string e.layout) := (blk_cell hst 11).trans rfl; have ce12 : World.cell? w3 ⟨ge, 12, none⟩ = some (.string e.visible) := (blk_cell hst 12).trans rfl; have ce13 : World.cell? w3 ⟨ge, 13, none⟩ = some (.bool e.zoom) := (blk_cell hst 13).trans rfl; clear hst hsb) | ((go_at_call 21); (with_reducible refine (HENC.out _ (HL.out.below HC3.out)).mono ?_); rintro r w4 ⟨rfl, hb⟩; have HC4 := Lib.hid (below_step HC3.out hb); have HE4 := Lib.hid (blk_below HE3.out hb); have cf0 : World.cell? w4 ⟨ge, 0, none⟩ = some (.int .i64 e.kind) := (blk_cell HE4.out 0).trans rfl; have cf1 : World.cell? w4 ⟨ge, 1, none⟩ = some (.int .i64 e.session) := (blk_cell HE4.out 1).trans rfl; have cf2 : World.cell? w4 ⟨ge, 2, none⟩ = some (.int .i64 e.window) := (blk_cell HE4.out 2).trans rfl; have cf3 : World.cell? w4 ⟨ge, 3, none⟩ = some (.int .i64 e.pane) := (blk_cell HE4.out 3).trans rfl; have cf4 : World.cell? w4 ⟨ge, 4, none⟩ = some (.int .i64 e.index) := (blk_cell HE4.out 4).trans rfl; have cf5 : World.cell? w4 ⟨ge, 5, none⟩ = some (.int .i64 e.offset) := (blk_cell HE4.out 5).trans rfl; have cf6 : World.cell? w4 ⟨ge, 6, none⟩ = some (.int .i64 e.tick) := (blk_cell HE4.out 6).trans rfl; have cf7 : World.cell? w4 ⟨ge, 7, none⟩ = some (.int .i64 e.number) := (blk_cell HE4.out 7).trans rfl; have cf8 : World.cell? w4 ⟨ge, 8, none⟩ = some (.int .i64 e.flag) := (blk_cell HE4.out 8).trans rfl; have cf9 : World.cell? w4 ⟨ge, 9, none⟩ = some (.string e.name) := (blk_cell HE4.out 9).trans rfl; have cf10 : World.cell? w4 ⟨ge, 10, none⟩ = some (.string e.text) := (blk_cell HE4.out 10).trans rfl; have cf11 : World.cell? w4 ⟨ge, 11, none⟩ = some (.string e.layout) := (blk_cell HE4.out 11).trans rfl; have cf12 : World.cell? w4 ⟨ge, 12, none⟩ = some (.string e.visible) := (blk_cell HE4.out 12).trans rfl; have cf13 : World.cell? w4 ⟨ge, 13, none⟩ = some (.bool e.zoom) := (blk_cell HE4.out 13).trans rfl; clear hb) | ((go_at_call 19); (with_reducible refine (HCLS.out _ (HL.out.below HC4.out)).mono ?_); rintro r w5 ⟨rfl, hb⟩; have HC5 := Lib.hid (below_step HC4.out hb); clear hb) | ((go_at_call 23); (with_reducible refine (sure_calls (HL.out.below HC5.out)).mono ?_); rintro r w6 ⟨rfl, hb⟩; have HC6 := Lib.hid (below_step HC5.out hb); clear hb))
  all_goals go_returns
  all_goals exact ⟨by simp [*], HC6.out⟩
/-- WireTotal. -/
theorem total_calls {w : World} (hL : Given.LaidW w) (s : ByteArray) (hs : s.size ≤ 1048576) : Calls Tryz.prog 11 #[.string s] w fun r w' => r = .returned (.bool true) ∧ Below w.heap.size w w' := by
  have hd := fun w (h : Given.LaidW w) => dec_calls h s (by omega)
  have hc := fun w (h : Given.LaidW w) => class_calls h s (by omega)
  rcases enc_dec s with ⟨h1, h2⟩ | ⟨h1, h2⟩
  · rw [h2] at hd hc
    have he := fun w (h : Given.LaidW w) => enc_calls h (textEv 25 s) ((text_sz 25 hs).ev (by omega))
    rw [enc_bad] at he
    exact total_bad hL s hd he hc
  · have he := fun w (h : Given.LaidW w) => enc_calls h (decN s) ((dec_sz s).ev (by omega))
    rw [h2] at he
    exact total_good hL s (decN s) _ (by simpa using h1) hd he hc (by simpa using class_ne h1)
end Go.Proofs.YtnblabfkkcohgaaGreatDoor.Wire
end
