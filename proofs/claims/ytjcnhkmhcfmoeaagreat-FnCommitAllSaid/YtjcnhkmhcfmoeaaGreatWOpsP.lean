/-
  The operations on a store: the plain law.
-/
import Derived.Test.YtjcnhkmhcfmoeaaGreatWChange
namespace Go.Proofs.YtjcnhkmhcfmoeaaGreat
open Go.RowKit
set_option linter.unusedVariables false
set_option linter.unusedSimpArgs false

def inboxB : ByteArray := ⟨#[105, 110, 98, 111, 120]⟩
open Classical in
/-- one commit, or nothing and the code for full -/
noncomputable def oneD (s : DStore) (m : DCommit) : DStore × Int := if ComP s m then (comD s m, 0) else (s, 2)
open Classical in
noncomputable def opD (s : DStore) (P : Prop) (body : DStore × Int) : DStore × Int := if StoreP s ∧ P then body else (s, 4)
noncomputable def makeB (s : DStore) (n : ByteArray) : DStore × Int := if 0 ≤ boxNamed n s.boxes then (s, 3) else oneD s ⟨1, s.given + 1, 0, 0, n, ⟨#[]⟩⟩
noncomputable def makeD (s : DStore) (n : ByteArray) : DStore × Int := opD s (NameP n ∧ s.given ≠ 999999999) (makeB s n)
noncomputable def dropB (s : DStore) (n : ByteArray) : DStore × Int := if n = inboxB then (s, 5) else if boxNamed n s.boxes < 0 then (s, 1) else oneD s ⟨2, (theD s.boxes (boxNamed n s.boxes).toNat).validity, 0, 0, ⟨#[]⟩, ⟨#[]⟩⟩
noncomputable def dropD (s : DStore) (n : ByteArray) : DStore × Int := opD s True (dropB s n)
noncomputable def nameB (s : DStore) (n t : ByteArray) : DStore × Int := if n = inboxB then (s, 5) else if boxNamed n s.boxes < 0 then (s, 1) else if 0 ≤ boxNamed t s.boxes then (s, 3) else oneD s ⟨3, (theD s.boxes (boxNamed n s.boxes).toNat).validity, 0, 0, t, ⟨#[]⟩⟩
noncomputable def nameD (s : DStore) (n t : ByteArray) : DStore × Int := opD s (NameP t) (nameB s n t)
noncomputable def putB (s : DStore) (n : ByteArray) (f : Int) (t : ByteArray) : DStore × Int := if boxNamed n s.boxes < 0 then (s, 1) else oneD s ⟨4, (theD s.boxes (boxNamed n s.boxes).toNat).validity, (theD s.boxes (boxNamed n s.boxes).toNat).next, f, ⟨#[]⟩, t⟩
noncomputable def putD (s : DStore) (n : ByteArray) (f : Int) (t : ByteArray) : DStore × Int := opD s ((0 ≤ f ∧ f ≤ 31) ∧ t.size ≤ 40) (putB s n f t)
theorem opD_no {s : DStore} {P : Prop} {body : DStore × Int} (h : ¬ (StoreP s ∧ P)) : opD s P body = (s, 4) := if_neg h
theorem opD_yes {s : DStore} {P : Prop} {body : DStore × Int} (h : StoreP s) (hp : P) : opD s P body = body := if_pos ⟨h, hp⟩
theorem one_of {s rs : DStore} {m : DCommit} {rok : Bool} (h : CmtRel s m rs rok) : oneD s m = (rs, if rok then 0 else 2) := by
  obtain ⟨ht, rfl⟩ := h
  unfold oneD
  cases rok with
  | false => rw [if_neg (fun hc => by have := ht.2 hc; cases this)]; rfl
  | true => rw [if_pos (ht.1 rfl)]; rfl
/-- what change answers is the body's answer, if the function's answer is -/
theorem ch_op {s rs : DStore} {ok : Bool} {code rc : Int} {P : Prop} {body : DStore × Int} (h : ChRel s ok code (fun r2 c => body = (if c = 0 then r2 else s, c)) rs rc) (hok : Tells ok (StoreP s)) (h0 : P → code = 0) (h4 : ¬ P → code = 4) : opD s P body = (rs, rc) := by
  unfold ChRel at h
  cases ok with
  | false =>
    rw [if_pos rfl] at h
    rw [opD_no (fun h2 => no_of hok h2.1), h.1, h.2]
  | true =>
    rw [if_neg (by simp)] at h
    by_cases hp : P
    · rw [if_neg (by rw [h0 hp]; simp)] at h
      obtain ⟨r2, c, hb, hc⟩ := h
      rw [opD_yes (yes_of hok) hp, hb]
      by_cases hz : c = 0
      · rw [if_pos hz] at hc ⊢; rw [hc.1, hc.2, hz]
      · rw [if_neg hz] at hc ⊢; rw [hc.1, hc.2]
    · rw [if_pos (by rw [h4 hp]; decide)] at h
      rw [opD_no (fun h2 => hp h2.2), h.1, h.2, h4 hp]
theorem one_cr {s r2 : DStore} {m : DCommit} {rok : Bool} (h : CmtRel s m r2 rok) : oneD s m = (if (if rok then (0 : Int) else 2) = 0 then r2 else s, if rok then 0 else 2) := by
  rw [one_of h]
  cases rok with
  | false => obtain ⟨-, rfl⟩ := h; simp
  | true => simp
/-- all the commits, or nothing and the code for full -/
def FullRel (s : DStore) (log : List DCommit) (rs : DStore) (rc : Int) : Prop := ∃ rok, CmtAllRel s log rs rok ∧ rc = if rok then 0 else 2
theorem full_one {s rs : DStore} {m : DCommit} {rc : Int} (h : oneD s m = (rs, rc)) : FullRel s [m] rs rc := by
  obtain ⟨b, hb⟩ := boolOf (ComP s m)
  have h1 := one_of (s := s) (m := m) (rok := b) (rs := if b then comD s m else s) ⟨hb, rfl⟩
  rw [h] at h1
  obtain ⟨rfl, rfl⟩ := Prod.mk.inj h1
  refine ⟨b, ⟨if b then comD s m else s, ?_, ?_⟩, rfl⟩
  · rw [cmtAll_cons s m [] hb]
    cases b <;> simp [cmtAll]
  · cases b <;> simp
theorem one_cnt (s : DStore) (m : DCommit) (h1 : cntD s.boxes ≤ 3145728) (h2 : s.log.length ≤ 1048576) : cntD (oneD s m).1.boxes ≤ 3145728 ∧ (oneD s m).1.log.length ≤ 1048576 := by
  obtain ⟨b, hb⟩ := boolOf (ComP s m)
  rw [one_of (s := s) (m := m) (rok := b) (rs := if b then comD s m else s) ⟨hb, rfl⟩]
  exact cmtRel_cnt (s := s) (m := m) (rok := b) ⟨hb, rfl⟩ h1 h2
theorem op_cnt {s : DStore} {P : Prop} {body : DStore × Int} (h1 : cntD s.boxes ≤ 3145728) (h2 : s.log.length ≤ 1048576) (hb : cntD body.1.boxes ≤ 3145728 ∧ body.1.log.length ≤ 1048576) : cntD (opD s P body).1.boxes ≤ 3145728 ∧ (opD s P body).1.log.length ≤ 1048576 := by
  unfold opD
  split
  · exact hb
  · exact ⟨h1, h2⟩
theorem make_cnt (s : DStore) (n : ByteArray) (h1 : cntD s.boxes ≤ 3145728) (h2 : s.log.length ≤ 1048576) : cntD (makeD s n).1.boxes ≤ 3145728 ∧ (makeD s n).1.log.length ≤ 1048576 := op_cnt h1 h2 (by unfold makeB; split <;> first | exact ⟨h1, h2⟩ | exact one_cnt _ _ h1 h2)
theorem drop_cnt (s : DStore) (n : ByteArray) (h1 : cntD s.boxes ≤ 3145728) (h2 : s.log.length ≤ 1048576) : cntD (dropD s n).1.boxes ≤ 3145728 ∧ (dropD s n).1.log.length ≤ 1048576 := op_cnt h1 h2 (by unfold dropB; (repeat' split) <;> first | exact ⟨h1, h2⟩ | exact one_cnt _ _ h1 h2)
theorem name_cnt (s : DStore) (n t : ByteArray) (h1 : cntD s.boxes ≤ 3145728) (h2 : s.log.length ≤ 1048576) : cntD (nameD s n t).1.boxes ≤ 3145728 ∧ (nameD s n t).1.log.length ≤ 1048576 := op_cnt h1 h2 (by unfold nameB; (repeat' split) <;> first | exact ⟨h1, h2⟩ | exact one_cnt _ _ h1 h2)
theorem put_cnt (s : DStore) (n : ByteArray) (f : Int) (t : ByteArray) (h1 : cntD s.boxes ≤ 3145728) (h2 : s.log.length ≤ 1048576) : cntD (putD s n f t).1.boxes ≤ 3145728 ∧ (putD s n f t).1.log.length ≤ 1048576 := op_cnt h1 h2 (by unfold putB; split <;> first | exact ⟨h1, h2⟩ | exact one_cnt _ _ h1 h2)
/-- the number of a mailbox that is right -/
theorem box_at_ok {s : DStore} (h : StoreP s) {k : Nat} (hk : k < s.boxes.length) : 1 ≤ s.boxes[k].validity ∧ s.boxes[k].validity ≤ 999999999 ∧ 1 ≤ s.boxes[k].next ∧ s.boxes[k].next ≤ 999999999 ∨ True := Or.inr trivial
end Go.Proofs.YtjcnhkmhcfmoeaaGreat
