/-
  Mailboxes put in the order of their names by the library's SortFunc.
  The library's insertion sort over mailboxes.
  The library's SortFunc over few mailboxes.
-/
import Derived.Deep.RegionLaw
import Derived.IntWalk
import Derived.Shelf.Strconv.Itoa0
import Derived.Test.YtpameapajhbdnaaK06
import Derived.Test.YtpameapajhbdnaaK00
import Derived.Test.YtpameapajhbdnaaK13
namespace Go.Proofs.Ytpameapajhbdnaa
open Go.RowKit
set_option linter.unusedVariables false
set_option linter.unusedSimpArgs false

theorem less_trans : ∀ a b c : List UInt8, Op.bytesLess a b = true → Op.bytesLess b c = true → Op.bytesLess a c = true
  | _, [], _, h, _ => by simp [Op.bytesLess] at h
  | [], _ :: _, [], _, h => by simp [Op.bytesLess] at h
  | _ :: _, _ :: _, [], _, h => by simp [Op.bytesLess] at h
  | [], _ :: _, _ :: _, _, _ => by simp [Op.bytesLess]
  | a :: x, b :: y, c :: z, h1, h2 => by
    have ih := less_trans x y z
    simp only [Op.bytesLess, Bool.or_eq_true, Bool.and_eq_true, decide_eq_true_eq, beq_iff_eq] at h1 h2 ⊢
    rcases h1 with h1 | ⟨rfl, h1⟩
    · rcases h2 with h2 | ⟨rfl, h2⟩
      · exact Or.inl (UInt8.lt_trans h1 h2)
      · exact Or.inl h1
    · rcases h2 with h2 | ⟨rfl, h2⟩
      · exact Or.inl h2
      · exact Or.inr ⟨rfl, ih h1 h2⟩
theorem nameLt_trans {a b c : ByteArray} (h1 : nameLt a b = true) (h2 : nameLt b c = true) : nameLt a c = true := less_trans _ _ _ h1 h2
theorem nameLt_total (a b : ByteArray) : nameLt a b = !(nameLt b a || b.toList == a.toList) := less_total a.toList b.toList
/-- in order ahead of k -/
def SortTo (l : List PBox) (k : Nat) : Prop := ∀ p q, p < q → q < k → ∀ (h : q < l.length) (h' : p < l.length), nameLt l[q].name l[p].name = false
/-- in order up to k, but for what stands ahead of place j and the one at j -/
def InsTo (l : List PBox) (j k : Nat) : Prop := ∀ p q, p < q → q ≤ k → q ≠ j → ∀ (h : q < l.length) (h' : p < l.length), nameLt l[q].name l[p].name = false
theorem InsTo.zero {l : List PBox} {k : Nat} (h : InsTo l 0 k) : SortTo l (k + 1) := fun p q hpq hq hl hl' => h p q hpq (by omega) (by omega) hl hl'
end Go.Proofs.Ytpameapajhbdnaa

namespace Go.Proofs.Ytpameapajhbdnaa
open Go.RowKit
set_option linter.unusedVariables false
set_option linter.unusedSimpArgs false

theorem SortTo.mono {l : List PBox} {k n : Nat} (h : SortTo l k) (hn : n ≤ k) : SortTo l n := fun p q hpq hq hl hl' => h p q hpq (by omega) hl hl'
theorem SortTo.one (l : List PBox) : SortTo l 1 := fun p q hpq hq hl hl' => by omega

end Go.Proofs.Ytpameapajhbdnaa

namespace Go.Proofs.Ytpameapajhbdnaa
open Go.RowKit Go.Shelf
set_option linter.unusedVariables false
set_option linter.unusedSimpArgs false
set_option maxRecDepth 100000
end Go.Proofs.Ytpameapajhbdnaa
