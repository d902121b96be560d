/-
  Whether a store is right: the plain law.
-/
import Derived.Test.YtemgabekckhckaaGreatXCom
namespace Go.Proofs.YtemgabekckhckaaGreat
open Go.RowKit
set_option linter.unusedVariables false
set_option linter.unusedSimpArgs false

/-- no two creations with one number, up to k -/
def MadeTo (l : List DCommit) (k : Nat) : Prop := ∀ i (hi : i < l.length), i < k → ∀ j (hj : j < i), ¬ (l[i].kind = 1 ∧ l[j].kind = 1 ∧ l[i].validity = l[j].validity)
def MadeP (l : List DCommit) : Prop := MadeTo l l.length
def UnderTo (l : List DCommit) (g : Int) (k : Nat) : Prop := ∀ i (hi : i < l.length), i < k → l[i].kind = 1 → l[i].validity ≤ g
theorem madeTo_succ {l : List DCommit} {k : Nat} (hk : k < l.length) (h : MadeTo l k) (hn : ∀ j (hj : j < k), ¬ (l[k].kind = 1 ∧ l[j].kind = 1 ∧ l[k].validity = l[j].validity)) : MadeTo l (k + 1) := fun i hi hik j hj => by
  by_cases e : i = k
  · subst e; exact hn j hj
  · exact h i hi (by omega) j hj
theorem underTo_succ {l : List DCommit} {g : Int} {k : Nat} (hk : k < l.length) (h : UnderTo l g k) (hn : l[k].kind = 1 → l[k].validity ≤ g) : UnderTo l g (k + 1) := fun i hi hik => by
  by_cases e : i = k
  · subst e; exact hn
  · exact h i hi (by omega)
/-- a store is right -/
def StoreP (s : DStore) : Prop := allD [] s.log = (s.boxes, true) ∧ s.log.length ≤ 300 ∧ (0 ≤ s.given ∧ s.given ≤ 999999999) ∧ MadeP s.log ∧ UnderTo s.log s.given s.log.length
theorem allD_ok : ∀ (log : List DCommit) (l t : List DBox), allD l log = (t, true) → ∀ m ∈ log, CommitP m
  | [], _, _, _ => fun m hm => by cases hm
  | m :: ms, l, t, h => by
    obtain ⟨b, hb⟩ := boolOf (AppliesP l m)
    rw [allD_cons l m ms hb] at h
    cases b with
    | false => simp at h
    | true =>
      simp only [if_true] at h
      intro y hy
      rcases List.mem_cons.1 hy with rfl | hy
      · exact (hb.1 rfl).2.1
      · exact allD_ok ms _ t h y hy
theorem create_id {m : DCommit} (h : CommitP m) (hk : m.kind = 1) : 1 ≤ m.validity ∧ m.validity ≤ 999999999 := by
  unfold CommitP CommitK at h
  omega
end Go.Proofs.YtemgabekckhckaaGreat
