/-
  Several commits on a store: the plain law.
-/
import Derived.Test.YtemgabekckhckaaGreatXCom
namespace Go.Proofs.YtemgabekckhckaaGreat
open Go.RowKit
set_option linter.unusedVariables false
set_option linter.unusedSimpArgs false

theorem StB.notS {w : World} {b B E EM EC q lc : Nat} {ga la : Option Addr} {zs : List PBox} {l : List DCommit} {gv : Int} (h : StB w b B E EM EC ga q zs la lc l gv) {x : Nat} (hx : x < B) (hb : x ≠ b) : ¬ (x = b ∨ rowsS ga q zs la lc l.length x) := fun hh => hh.elim hb (fun hr => by have := (h.own.rows_lt x hr).1; omega)
/-- a fresh box with the copied store -/
theorem StB.new {w4 : World} {B E EM EC q lc t : Nat} {ga la : Option Addr} {zs : List PBox} {l : List DCommit} {gv : Int} (h : OwnSt w4 B E EM EC ga q zs la lc l) : StB (w4.alloc (.cells #[.slice ga zs.length q, .slice la l.length lc, .int .i64 gv] t)) w4.heap.size B E EM EC ga q zs la lc l gv :=
  ⟨h.ext ((Below.refl _ _).alloc (Nat.le_refl _) _), by simp, fun k hk e => by have := (h.rows_lt k hk).2; omega, by simp [go_sem], by simp [go_sem], by simp [go_sem], by simp [go_sem], by simp [go_sem], by simp [go_sem]⟩
open Classical in
/-- several commits, up to the first that cannot be done -/
noncomputable def cmtAll : DStore → List DCommit → DStore × Bool
  | s, [] => (s, true)
  | s, m :: ms => if ComP s m then cmtAll (comD s m) ms else (s, false)
theorem cmtAll_cons (s : DStore) (m : DCommit) (ms : List DCommit) {r : Bool} (h : Tells r (ComP s m)) : cmtAll s (m :: ms) = if r then cmtAll (comD s m) ms else (s, false) := by
  rw [cmtAll]
  cases r with
  | false => rw [if_neg (fun h2 => absurd (h.2 h2) (by simp))]; rfl
  | true => rw [if_pos (h.1 rfl)]; rfl
/-- all of them, or the store as it was -/
def CmtAllRel (s : DStore) (log : List DCommit) (rs : DStore) (rok : Bool) : Prop := ∃ t, cmtAll s log = (t, rok) ∧ rs = if rok then t else s
theorem cmtAllRel_ex (s : DStore) (log : List DCommit) : ∃ rs rok, CmtAllRel s log rs rok := ⟨_, _, _, rfl, rfl⟩
theorem cmtAll_cnt : ∀ (log : List DCommit) (s t : DStore) (rok : Bool), cmtAll s log = (t, rok) → cntD s.boxes ≤ 3145728 → s.log.length ≤ 1048576 → cntD t.boxes ≤ 3145728 ∧ t.log.length ≤ 1048576
  | [], s, t, rok, h, h1, h2 => by rw [cmtAll] at h; cases h; exact ⟨h1, h2⟩
  | m :: ms, s, t, rok, h, h1, h2 => by
    obtain ⟨b, hb⟩ := boolOf (ComP s m)
    rw [cmtAll_cons s m ms hb] at h
    cases b with
    | false => simp only [Bool.false_eq_true, if_false] at h; cases h; exact ⟨h1, h2⟩
    | true =>
      simp only [if_true] at h
      obtain ⟨h3, h4⟩ := cmtRel_cnt (rok := true) ⟨hb, rfl⟩ h1 h2
      exact cmtAll_cnt ms _ t rok h h3 h4
theorem cmtAllRel_cnt {s rs : DStore} {log : List DCommit} {rok : Bool} (h : CmtAllRel s log rs rok) (h1 : cntD s.boxes ≤ 3145728) (h2 : s.log.length ≤ 1048576) : cntD rs.boxes ≤ 3145728 ∧ rs.log.length ≤ 1048576 := by
  obtain ⟨t, ht, rfl⟩ := h
  cases rok with
  | false => exact ⟨h1, h2⟩
  | true => exact cmtAll_cnt log s t true ht h1 h2
theorem cmtAll_step {s t : DStore} {log : List DCommit} {k : Nat} {rok r : Bool} (hk : k < log.length) (h : cmtAll s (log.drop k) = (t, rok)) (hr : Tells r (ComP s log[k])) : if r then cmtAll (comD s log[k]) (log.drop (k + 1)) = (t, rok) else (s = t ∧ false = rok) := by
  rw [List.drop_eq_getElem_cons hk, cmtAll_cons _ _ _ hr] at h
  cases r with
  | false => simp only [Bool.false_eq_true, if_false] at h ⊢; cases h; exact ⟨rfl, rfl⟩
  | true => simpa using h
theorem cmtAll_end {s t : DStore} {log : List DCommit} {k : Nat} {rok : Bool} (hk : k = log.length) (h : cmtAll s (log.drop k) = (t, rok)) : s = t ∧ true = rok := by
  subst hk
  rw [List.drop_length, cmtAll] at h
  cases h
  exact ⟨rfl, rfl⟩
theorem good_S {b : List PBox} {l : List DCommit} {gv : Int} (hl : b.length ≤ 1048576) (hlm : ∀ y ∈ b, y.msgs.length ≤ 1048576) (hll : l.length ≤ 1048576) (gn : ∀ y ∈ b, y.name.size ≤ 9223372036854775807) (gt : ∀ y ∈ b, ∀ m ∈ y.msgs, m.text.size ≤ 9223372036854775807) (gl : ∀ y ∈ l, y.name.size ≤ 9223372036854775807 ∧ y.text.size ≤ 9223372036854775807) : GoodS ⟨b.map PBox.box, l, gv⟩ := ⟨good_of hl hlm gn gt, hll, gl⟩
end Go.Proofs.YtemgabekckhckaaGreat
