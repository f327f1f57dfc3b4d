/- Texts of this claim, put together by a program of this session (prune.py): LawF. -/
import Derived.Test.YtnblabfkkcohgaaGreatDoorQUCJ
section
/- WireForged: what the law reckons is true. -/
namespace Go.Proofs.YtnblabfkkcohgaaGreatDoor.Wire
set_option linter.unusedVariables false
set_option linter.unusedSimpArgs false
open Go Go.Shelf Go.RowKit Go.Proofs.YtnblabfkkcohgaaGreatDoor.Wire Go.Proofs.YtnblabfkkcohgaaGreatDoor.LawG Go.Proofs.YtnblabfkkcohgaaGreatDoor.Given Go.Proofs.YtnblabfkkcohgaaGreatDoor.LawP Go.Proofs.YtnblabfkkcohgaaGreatDoor.PLwA

def outEv (s : ByteArray) : Evt := ⟨5, 0, 0, 1, 0, 0, 0, 0, 0, ⟨#[]⟩, s, ⟨#[]⟩, ⟨#[]⟩, false⟩
def watchEv (s : ByteArray) : Evt := ⟨22, 1, 1, 1, 0, 0, 0, 0, 0, ⟨#[119]⟩, s, ⟨#[]⟩, ⟨#[]⟩, false⟩
def msgEv (s : ByteArray) : Evt := ⟨23, 0, 0, 0, 0, 0, 0, 0, 0, ⟨#[]⟩, s, ⟨#[]⟩, ⟨#[]⟩, false⟩
/-- The last field of a row is a text, all before it fit: the error tells whether the text fits. -/
theorem enc_last {e : Evt} (k : Int) (hk : e.kind = k) (hK : Kinds k) (h24 : k ≠ 24) {l u : Int} {acc : List UInt8} {t : Evt} {fds : List Fd} (hf : fdsOf k.toNat = fds ++ [.text l u])
    (hp : ∀ rest, putsN (fds ++ rest) e (kwN k).data.toList (bareEv k) = putsN rest e acc t) (ht : { t with text := e.text } = e) :
    ((encN e).2 == 0) = (decide (l ≤ (e.text.size : Int)) && decide ((e.text.size : Int) ≤ u)) := by
  have hN := kinds_ne hK
  have hW := word_ok hK
  subst hk
  unfold encN
  rw [if_neg hN.1, if_neg (fun he => h24 (by rw [he]; rfl)), if_neg (by rw [hW.2.2.2.2]; simp), hf, hp]
  by_cases hz : (decide (l ≤ (e.text.size : Int)) && decide ((e.text.size : Int) ≤ u)) = true
  · have h1 : ((Fd.text l u).put e).2 = true := hz
    rw [show putsN [.text l u] e acc t = putsN [] e (acc ++ [32] ++ ((Fd.text l u).put e).1.data.toList) ((Fd.text l u).keep t e) from if_pos h1]
    simp only [putsN]
    rw [if_pos (show (Fd.text l u).keep t e = e from ht), hz]
    rfl
  · have h1 : ¬ ((Fd.text l u).put e).2 = true := hz
    rw [show putsN [.text l u] e acc t = none from if_neg h1]
    simp only [Bool.not_eq_true] at hz
    rw [hz]
    rfl
theorem puts_one {fd : Fd} {rest : List Fd} {e t : Evt} {acc : List UInt8} (h : (fd.put e).2 = true) : putsN (fd :: rest) e acc t = putsN rest e (acc ++ [32] ++ (fd.put e).1.data.toList) (fd.keep t e) := if_pos h
theorem idOk (m : UInt8) (p : IP) (e : Evt) (h : p.get e = 1) : ((Fd.id m p).put e).2 = true := by
  show (!(ofL (putIdN m (p.get e))).toList.isEmpty) = true
  rw [h, ofL_toList, show putIdN m 1 = [m, UInt8.ofNat (48 + 1)] from id1 m 1 (by omega) (by omega)]
  rfl
theorem numOk (p : NP) (e : Evt) (h : p.get e = 0) (u : Int) (hu : 0 ≤ u) : ((Fd.num p u).put e).2 = true := by
  show (decide (0 ≤ p.get e) && decide (p.get e ≤ u)) = true
  rw [h]
  simp [hu]
theorem enc_out (s : ByteArray) : ((encN (outEv s)).2 == 0) = (decide (1 ≤ (s.size : Int)) && decide ((s.size : Int) ≤ 256)) :=
  enc_last (e := outEv s) 5 rfl (by unfold Kinds; decide) (by decide) (fds := [.id 37 .pane]) rfl (fun rest => puts_one (idOk 37 .pane _ rfl)) rfl
theorem enc_msg (s : ByteArray) : ((encN (msgEv s)).2 == 0) = (decide (0 ≤ (s.size : Int)) && decide ((s.size : Int) ≤ 1024)) :=
  enc_last (e := msgEv s) 23 rfl (by unfold Kinds; decide) (by decide) (fds := []) rfl (fun rest => rfl) rfl
theorem nameOk (s : ByteArray) : ((Fd.name false).put (watchEv s)).2 = true := show mayN false [119] = true by decide +kernel
theorem enc_watch (s : ByteArray) : ((encN (watchEv s)).2 == 0) = (decide (0 ≤ (s.size : Int)) && decide ((s.size : Int) ≤ 1024)) :=
  enc_last (e := watchEv s) 22 rfl (by unfold Kinds; decide) (by decide) (fds := [.name false, .id 36 .session, .id 64 .window, .num .index 9999, .id 37 .pane, .colon]) rfl
    (fun rest => (puts_one (nameOk s)).trans ((puts_one (idOk 36 .session _ rfl)).trans ((puts_one (idOk 64 .window _ rfl)).trans ((puts_one (numOk .index _ rfl 9999 (by decide))).trans ((puts_one (idOk 37 .pane _ rfl)).trans (puts_one rfl)))))) rfl
theorem body_ok (s : ByteArray) : encN (textEv 4 s) = (ofL (escBodyN s.data.toList), 0) := by
  unfold encN
  rw [if_pos (show (textEv 4 s).kind = 4 from rfl), if_pos (show textEv 4 s = textEv 4 (textEv 4 s).text from rfl)]
  rfl
theorem class_of {e : Evt} {m : Nat} (h : (encN e).2 = 0) (hs : Sz m e) (hm : 28 * m + 300 ≤ 1099511627776) (k : Nat) : wire_Class.f (k + 1) (encN e).1 = some (classN e.kind) := by
  have := enc_len hs
  rw [class_val (by omega), dec_enc h]
theorem sz4 {e : Evt} {s : ByteArray} (hs : s.size ≤ 1048576) (h1 : e.name.size ≤ 1) (h2 : e.text = s) (h3 : e.layout.size = 0) (h4 : e.visible.size = 0) : Sz 1048576 e := ⟨by omega, by rw [h2]; exact hs, by omega, by omega⟩
theorem j3_val {a b : ByteArray} {c1 c2 : Int} (k : Nat) (x10 : Bool) (h : x10 = true → wire_Class.f k a = some 1 ∧ wire_Class.f k b = some 1) : mullionlaw03_WireForged.j3 (k + 1) a b x10 false = some true := by
  simp only [mullionlaw03_WireForged.j3]
  cases x10 with
  | true =>
    obtain ⟨h1, h2⟩ := h rfl
    rw [h1, h2]
    rfl
  | false => rfl
theorem j2_val {s : ByteArray} (hs : s.size ≤ 1048576) (k : Nat) : mullionlaw03_WireForged.j2 (k + 3) s false = some true := by
  have z1 : Sz 1048576 (watchEv s) := sz4 hs (by show (1 : Nat) ≤ 1; omega) rfl rfl rfl
  have z2 : Sz 1048576 (msgEv s) := sz4 hs (by show (0 : Nat) ≤ 1; omega) rfl rfl rfl
  have b : decide (0 ≤ (s.size : Int)) = true := decide_eq_true (by omega)
  have e1 := enc_watch s
  have e2 := enc_msg s
  rw [b, Bool.true_and] at e1 e2
  simp only [mullionlaw03_WireForged.j2]
  rw [show given_Encode.f 22 1 1 1 0 0 0 0 0 (⟨#[119]⟩ : ByteArray) s (⟨#[]⟩ : ByteArray) (⟨#[]⟩ : ByteArray) false = some (encN (watchEv s)) from enc_val z1 (by omega)]
  rw [show given_Encode.f 23 0 0 0 0 0 0 0 0 (⟨#[]⟩ : ByteArray) s (⟨#[]⟩ : ByteArray) (⟨#[]⟩ : ByteArray) false = some (encN (msgEv s)) from enc_val z2 (by omega)]
  simp only [Option.bind_some, e1, e2, bne_self_eq_false]
  rw [if_neg (by simp), if_neg (by simp)]
  refine j3_val (c1 := 0) (c2 := 0) (k + 1) _ (fun h => ?_)
  have w1 : (encN (watchEv s)).2 = 0 := by rw [h] at e1; simpa using e1
  have w2 : (encN (msgEv s)).2 = 0 := by rw [h] at e2; simpa using e2
  exact ⟨class_of w1 z1 (by omega) k, class_of w2 z2 (by omega) k⟩
theorem j1_val {s : ByteArray} (hs : s.size ≤ 1048576) (k : Nat) (x6 : Bool) (hx : ((encN (outEv s)).2 == 0) = x6) : mullionlaw03_WireForged.j1 (k + 4) s (encN (outEv s)).2 (encN (outEv s)).1 x6 = some true := by
  have z1 : Sz 1048576 (outEv s) := sz4 hs (by show (0 : Nat) ≤ 1; omega) rfl rfl rfl
  simp only [mullionlaw03_WireForged.j1]
  rw [hx]
  simp only [bne_self_eq_false]
  rw [if_neg (by simp)]
  cases x6 with
  | true =>
    have w1 : (encN (outEv s)).2 = 0 := by simpa using hx
    rw [if_pos rfl, class_of w1 z1 (by omega) (k + 2)]
    exact j2_val hs k
  | false =>
    rw [if_neg (by simp)]
    exact j2_val hs k
theorem forged_val {s : ByteArray} (hs : s.size ≤ 1048576) : mullionlaw03_WireForged.f 5 s = some true := by
  have z0 : Sz 1048576 (textEv 4 s) := text_sz 4 hs
  have z1 : Sz 1048576 (outEv s) := sz4 hs (by show (0 : Nat) ≤ 1; omega) rfl rfl rfl
  unfold mullionlaw03_WireForged.f
  rw [show given_Encode.f 4 0 0 0 0 0 0 0 0 (⟨#[]⟩ : ByteArray) s (⟨#[]⟩ : ByteArray) (⟨#[]⟩ : ByteArray) false = some (encN (textEv 4 s)) from enc_val z0 (by omega)]
  have w0 : (encN (textEv 4 s)).2 = 0 := by rw [body_ok]
  simp only [Option.bind_some]
  rw [if_pos w0, class_of w0 z0 (by omega) 4]
  simp only [Option.bind_some]
  rw [show (classN (textEv 4 s).kind != 3) = false from rfl]
  simp only [mullionlaw03_WireForged.j0]
  rw [show given_Encode.f 5 0 0 1 0 0 0 0 0 (⟨#[]⟩ : ByteArray) s (⟨#[]⟩ : ByteArray) (⟨#[]⟩ : ByteArray) false = some (encN (outEv s)) from enc_val z1 (by omega)]
  simp only [Option.bind_some]
  have e1 := enc_out s
  rw [if_neg (by simp)]
  by_cases h : (s.size : Int) ≥ 1
  · rw [if_pos h]
    exact j1_val hs 0 _ (by rw [e1, decide_eq_true h, Bool.true_and])
  · rw [if_neg h]
    exact j1_val hs 0 _ (by rw [e1, decide_eq_false h, Bool.false_and])
theorem forged_calls {w : World} (hL : LaidW w) (s : ByteArray) (h : s.size ≤ 1048576) : Calls Tryz.prog 12 #[.string s] w fun r w' => r = .returned (.bool true) ∧ Below w.heap.size w w' := mullionlaw03_WireForged.calls 5 s true w hL (forged_val h)
end Go.Proofs.YtnblabfkkcohgaaGreatDoor.Wire
end
