/- The buffers, in plain words, fifth part: no two have one name, no name is empty, and the text that is kept under a name stays; what Get tells of a name. Conditions: none but the list's own. -/
import Derived.Test.YtjkmmfjlladlfaaDoorRHandG
import Derived.Test.YtjkmmfjlladlfaaDoorRHandH
namespace Go.Proofs.YtjkmmfjlladlfaaDoor.Hand
set_option linter.unusedVariables false
set_option linter.unusedSimpArgs false
open Go.RowKit Go.Proofs.YtjkmmfjlladlfaaDoor.PBuf Go.Proofs.YtjkmmfjlladlfaaDoor.Given Go.Proofs.YtjkmmfjlladlfaaDoorW.PrintWords Go.Proofs.YtjkmmfjlladlfaaDoorW.PrintLast

def keepB : ByteArray := ⟨#[107, 101, 101, 112]⟩

theorem nodup_erase {α : Type} : ∀ (l : List α) (i : Nat) (x : α), l.Nodup → l[i]? = some x → x ∉ l.eraseIdx i
  | [], i, x, _, h => by simp at h
  | y :: l, 0, x, hn, h => by
    have : y = x := by simpa using h
    subst this
    simpa using (List.nodup_cons.1 hn).1
  | y :: l, i + 1, x, hn, h => by
    have h2 : l[i]? = some x := by simpa using h
    have hm := List.mem_of_getElem? h2
    obtain ⟨h3, h4⟩ := List.nodup_cons.1 hn
    rw [List.eraseIdx_cons_succ, List.mem_cons]
    rintro (rfl | hx)
    · exact h3 hm
    · exact nodup_erase l i x h4 h2 hx
theorem nodup_set {α : Type} : ∀ (l : List α) (i : Nat) (x : α), l.Nodup → x ∉ l.eraseIdx i → (l.set i x).Nodup
  | [], i, x, _, h => by simp
  | y :: l, 0, x, hn, h => by
    rw [List.set_cons_zero, List.nodup_cons]
    exact ⟨by simpa using h, (List.nodup_cons.1 hn).2⟩
  | y :: l, i + 1, x, hn, h => by
    obtain ⟨h3, h4⟩ := List.nodup_cons.1 hn
    rw [List.eraseIdx_cons_succ, List.mem_cons] at h
    rw [List.set_cons_succ, List.nodup_cons]
    refine ⟨fun hm => ?_, nodup_set l i x h4 (fun q => h (.inr q))⟩
    rcases List.mem_or_eq_of_mem_set hm with hm | hm
    · exact h3 hm
    · exact h (.inl hm.symm)
theorem nodup_map_inj {α β : Type} (f : α → β) : ∀ (l : List α) (x y : α), (l.map f).Nodup → x ∈ l → y ∈ l → f x = f y → x = y
  | z :: l, x, y, hn, hx, hy, he => by
    revert hn hx hy he
    intro hn hx hy he
    rw [List.map_cons, List.nodup_cons] at hn
    rcases List.mem_cons.1 hx with e1 | hx2 <;> rcases List.mem_cons.1 hy with e2 | hy2
    · rw [e1, e2]
    · exact absurd (List.mem_map.2 ⟨y, hy2, by rw [← he, e1]⟩) hn.1
    · exact absurd (List.mem_map.2 ⟨x, hx2, by rw [he, e2]⟩) hn.1
    · exact nodup_map_inj f l x y hn.2 hx2 hy2 he
theorem erase_map {α β : Type} (f : α → β) : ∀ (l : List α) (i : Nat), (l.eraseIdx i).map f = (l.map f).eraseIdx i
  | [], _ => rfl
  | _ :: _, 0 => rfl
  | x :: l, i + 1 => by rw [List.eraseIdx_cons_succ, List.map_cons, List.map_cons, List.eraseIdx_cons_succ, erase_map f l i]

/-- What holds of a list of buffers; t: the text that is kept, if any. -/
structure Good (t : Option ByteArray) (D : List S79) : Prop where
  nd : (D.map (·.f0)).Nodup
  ne : ∀ x ∈ D, x.f0.toList ≠ ([] : List UInt8)
  kp : ∀ text, t = some text → ∀ x ∈ D, x.f0 = keepB → x.f1 = text
theorem good_nil (t : Option ByteArray) : Good t [] := ⟨by simp, by simp, by simp⟩
theorem Good.sub {t : Option ByteArray} {D D' : List S79} (h : Good t D) (hs : D'.Sublist D) : Good t D' :=
  ⟨h.nd.sublist (hs.map _), fun x hx => h.ne x (hs.subset hx), fun a b x hx => h.kp a b x (hs.subset hx)⟩
theorem Good.nokeep {t : Option ByteArray} {D : List S79} (h : Good t D) : Good none D := ⟨h.nd, h.ne, fun _ q => by cases q⟩
theorem Good.cons {t : Option ByteArray} {D : List S79} (h : Good t D) (x : S79) (h1 : x.f0 ∉ D.map (·.f0)) (h2 : x.f0.toList ≠ ([] : List UInt8)) (h3 : ∀ text, t = some text → x.f0 = keepB → x.f1 = text) : Good t (x :: D) :=
  ⟨by rw [List.map_cons, List.nodup_cons]; exact ⟨h1, h.nd⟩, fun y hy => by
    rcases List.mem_cons.1 hy with rfl | hy
    · exact h2
    · exact h.ne y hy, fun a b y hy => by
    rcases List.mem_cons.1 hy with rfl | hy
    · exact h3 a b
    · exact h.kp a b y hy⟩
theorem trimN_sub (l : List S79) (m : Int) : (trimN l m).Sublist l := trimK_sub _ l
theorem word_empty : wordN (⟨#[]⟩ : ByteArray) = false := Ev.uniq (word_ev _ (by decide)).1 (Ev.of (mono_word _) (show octal_IsWord.f 3 (⟨#[]⟩ : ByteArray) = some false by decide +kernel))
theorem word_ne {s : ByteArray} (h : wordN s = true) : s.toList ≠ ([] : List UInt8) := by
  intro e
  have : s = ⟨#[]⟩ := toList_inj (by rw [e, emp])
  rw [this, word_empty] at h
  cases h
theorem bufName_ne (c : Int) : (bufName c).toList ≠ ([] : List UInt8) := by
  intro e
  rw [ByteArray.toList_eq] at e
  have := congrArg List.length e
  unfold bufName at this
  simp at this
theorem bufName_keep (c : Int) : bufName c ≠ keepB := by
  intro e
  have := congrArg (fun s : ByteArray => s.data.toList[0]?) e
  simp [bufName, keepB] at this
theorem names_at (D : List S79) (i : Nat) (hi : i < D.length) : (D.map (·.f0))[i]? = some (rd_T79 D i).f0 := by
  unfold rd_T79
  rw [List.getElem?_map, List.getD_eq_getElem?_getD, Int.toNat_natCast, List.getElem?_eq_getElem hi]
  rfl
theorem Good.set {t : Option ByteArray} {D : List S79} (h : Good t D) (c m : Int) (hc : 0 ≤ c) (name text : ByteArray) (h3 : ∀ tx, t = some tx → name = keepB → text = tx) : Good t (setN D c m name text).1 := by
  unfold setN
  by_cases h1 : (text.size : Int) > 65536
  · rw [if_pos h1]
    exact h
  · rw [if_neg h1]
    by_cases h2 : name.toList = ([] : List UInt8)
    · rw [if_pos h2]
      exact (h.cons ⟨bufName (nextN D c), text, true⟩ ((atN_none _ _).1 (nextN_spec D c hc).1) (bufName_ne _) (fun _ _ q => absurd q (bufName_keep _))).sub (trimN_sub _ m)
    · rw [if_neg h2]
      by_cases h4 : wordN name = true
      · rw [if_pos h4]
        by_cases h5 : 0 ≤ atN D name
        · rw [if_pos h5]
          have hr := atN_range D name
          have hs := atN_some D name h5
          have hi : (atN D name).toNat < D.length := by omega
          have he : ((atN D name).toNat : Int) = atN D name := by omega
          refine (h.sub (List.eraseIdx_sublist D (atN D name).toNat)).cons ⟨name, text, _⟩ ?_ (word_ne h4) h3
          show name ∉ _
          rw [erase_map]
          refine nodup_erase _ _ _ h.nd ?_
          rw [names_at D _ hi, he, hs]
        · rw [if_neg h5]
          by_cases h6 : 20 ≤ countN D false
          · rw [if_pos h6]
            exact h
          · rw [if_neg h6]
            exact h.cons ⟨name, text, false⟩ ((atN_none D name).1 (by omega)) (word_ne h4) h3
      · rw [if_neg h4]
        exact h
theorem Good.delete {t : Option ByteArray} {D : List S79} (h : Good t D) (name : ByteArray) : Good t (deleteN D name).1 := by
  unfold deleteN
  by_cases h1 : meantN D name < 0
  · rw [if_pos h1]
    exact h
  · rw [if_neg h1]
    exact h.sub (List.eraseIdx_sublist _ _)
theorem Good.limit {t : Option ByteArray} {D : List S79} (h : Good t D) (m n : Int) : Good t (limitN D m n).1 := by
  unfold limitN
  by_cases h1 : n < 1
  · rw [if_pos h1]
    exact h
  · rw [if_neg h1]
    by_cases h2 : n > 20
    · rw [if_pos h2]
      exact h
    · rw [if_neg h2]
      exact h.sub (trimN_sub _ n)
theorem Good.rename {t : Option ByteArray} {D : List S79} (h : Good t D) (name nu : ByteArray) (h3 : t = none ∨ nu ≠ keepB) : Good t (renameN D name nu).1 := by
  unfold renameN
  have hr := meantN_range D name
  by_cases h1 : meantN D name < 0
  · rw [if_pos h1]
    exact h
  · rw [if_neg h1]
    by_cases h2 : wordN nu = true
    · rw [if_pos h2]
      by_cases h4 : 0 ≤ atN D nu ∧ atN D nu ≠ meantN D name
      · rw [if_pos h4]
        exact h
      · rw [if_neg h4]
        by_cases h5 : (rd_T79 D (meantN D name)).f2 = true ∧ 20 ≤ countN D false
        · rw [if_pos h5]
          exact h
        · rw [if_neg h5]
          have hi : (meantN D name).toNat < D.length := by omega
          have hx : ∀ x ∈ D.set (meantN D name).toNat ⟨nu, (rd_T79 D (meantN D name)).f1, false⟩, x ∈ D ∨ x.f0 = nu := fun x hx => by
            rcases List.mem_or_eq_of_mem_set hx with hx | hx
            · exact .inl hx
            · subst hx; exact .inr rfl
          refine ⟨?_, fun x hm => ?_, fun tx ht x hm hk => ?_⟩
          · show (List.map _ (List.set _ _ _)).Nodup
            rw [List.map_set]
            refine nodup_set _ _ _ h.nd ?_
            by_cases h6 : 0 ≤ atN D nu
            · have e : atN D nu = meantN D name := Classical.byContradiction fun q => h4 ⟨h6, q⟩
              have hs := atN_some D nu h6
              refine nodup_erase _ _ _ h.nd ?_
              rw [names_at D _ hi, ← e, show (((atN D nu).toNat : Nat) : Int) = atN D nu by omega, hs]
            · exact fun q => (atN_none D nu).1 (by omega) ((List.eraseIdx_sublist _ _).subset q)
          · rcases hx x hm with hx | hx
            · exact h.ne x hx
            · rw [hx]; exact word_ne h2
          · rcases hx x hm with hx | hx
            · exact h.kp tx ht x hx hk
            · rcases h3 with h3 | h3
              · rw [h3] at ht; cases ht
              · exact absurd (hx.symm.trans hk) h3
    · rw [if_neg h2]
      exact h
/-- The kept text: set, and told as the newest. -/
theorem Good.keep {t : Option ByteArray} {D : List S79} (h : Good t D) (c m : Int) (hc : 0 ≤ c) (text : ByteArray) (ht : text.size ≤ 65536) (he : (setN D c m keepB text).2.2.2 = 0) :
    Good (some text) (setN D c m keepB text).1 ∧ (setN D c m keepB text).2.2.1 = keepB ∧ ∃ b r, (setN D c m keepB text).1 = ⟨keepB, text, b⟩ :: r := by
  have hG := h.nokeep.set c m hc keepB text (fun _ q => by cases q)
  have key : (setN D c m keepB text).2.2.1 = keepB ∧ ∃ b r, (setN D c m keepB text).1 = ⟨keepB, text, b⟩ :: r := by
    unfold setN at he ⊢
    have hk : keepB.toList ≠ ([] : List UInt8) := word_ne word_keep
    rw [if_neg (by omega), if_neg hk, if_pos (show wordN keepB = true from word_keep)] at he ⊢
    by_cases h5 : 0 ≤ atN D keepB
    · rw [if_pos h5]
      exact ⟨rfl, _, _, rfl⟩
    · rw [if_neg h5] at he ⊢
      by_cases h6 : 20 ≤ countN D false
      · rw [if_pos h6] at he
        exact absurd (show (3 : Int) = 0 from he) (by decide)
      · rw [if_neg h6]
        exact ⟨rfl, _, _, rfl⟩
  refine ⟨⟨hG.nd, hG.ne, fun tx q x hx hk => ?_⟩, key⟩
  obtain ⟨b, r, e⟩ := key.2
  have hn := hG.nd
  rw [e] at hx hn
  rw [List.map_cons, List.nodup_cons] at hn
  obtain rfl := Option.some.inj q
  rcases List.mem_cons.1 hx with rfl | hx
  · rfl
  · exact absurd (List.mem_map.2 ⟨x, hx, hk⟩) hn.1
/-- .. and what else there is, where it was refused: twenty at least. -/
theorem keep_full {D : List S79} {c m : Int} {text : ByteArray} (ht : text.size ≤ 65536) (he : (setN D c m keepB text).2.2.2 ≠ 0) : 20 ≤ ((setN D c m keepB text).1).length := by
  unfold setN at he ⊢
  have hk : keepB.toList ≠ ([] : List UInt8) := word_ne word_keep
  rw [if_neg (by omega), if_neg hk, if_pos (show wordN keepB = true from word_keep)] at he ⊢
  by_cases h5 : 0 ≤ atN D keepB
  · rw [if_pos h5] at he
    exact absurd rfl he
  · rw [if_neg h5] at he ⊢
    by_cases h6 : 20 ≤ countN D false
    · rw [if_pos h6]
      have := (countN_le D false).2
      show 20 ≤ D.length
      omega
    · rw [if_neg h6] at he
      exact absurd rfl he
theorem Good.get {t : Option ByteArray} {D : List S79} (h : Good t D) (i : Nat) (hi : i < D.length) : getN D (rd_T79 D i).f0 = ((rd_T79 D i).f0, (rd_T79 D i).f1, 0) := by
  have hx : rd_T79 D i ∈ D := by
    unfold rd_T79
    rw [List.getD_eq_getElem?_getD, Int.toNat_natCast, List.getElem?_eq_getElem hi]
    exact List.getElem_mem hi
  have hne := h.ne _ hx
  have ha : 0 ≤ atN D (rd_T79 D i).f0 := by
    rcases Int.lt_or_le (atN D (rd_T79 D i).f0) 0 with q | q
    · exact absurd (List.mem_map.2 ⟨_, hx, rfl⟩) ((atN_none _ _).1 q)
    · exact q
  have hr := atN_range D (rd_T79 D i).f0
  have hs := atN_some D _ ha
  have hy : rd_T79 D (atN D (rd_T79 D i).f0) ∈ D := by
    have hj : (atN D (rd_T79 D i).f0).toNat < D.length := by omega
    generalize atN D (rd_T79 D i).f0 = j at hj
    unfold rd_T79
    rw [List.getD_eq_getElem?_getD, List.getElem?_eq_getElem hj]
    exact List.getElem_mem hj
  have e := nodup_map_inj _ D _ _ h.nd hy hx hs
  unfold getN meantN
  rw [if_neg hne, if_neg (by omega), e]
theorem Good.apart {t : Option ByteArray} {D : List S79} (h : Good t D) (i k : Nat) (hi : i < D.length) (hk : k < i) : (rd_T79 D i).f0 ≠ (rd_T79 D k).f0 := by
  intro e
  have h1 := names_at D i hi
  have h2 := names_at D k (by omega)
  rw [e] at h1
  have hd := (List.getElem?_inj (by simpa using hi) h.nd).1 (h1.trans h2.symm)
  omega
end Go.Proofs.YtjkmmfjlladlfaaDoor.Hand
