/-
  The program's perform at a creation, a deletion and a renaming.
  The program's perform at an appended message.
  The program's perform at changed flags and at a message removed.
  The program's perform at a message removed.
  The program's perform at any commit that applies.
-/
import Derived.IntWalk
import Derived.Test.YtpameapajhbdnaaK21
import Derived.Test.YtpameapajhbdnaaK00
namespace Go.Proofs.Ytpameapajhbdnaa
open Go.RowKit
set_option linter.unusedVariables false
set_option linter.unusedSimpArgs false

end Go.Proofs.Ytpameapajhbdnaa

namespace Go.Proofs.Ytpameapajhbdnaa
open Go.RowKit
set_option linter.unusedVariables false
set_option linter.unusedSimpArgs false

end Go.Proofs.Ytpameapajhbdnaa

namespace Go.Proofs.Ytpameapajhbdnaa
open Go.RowKit
set_option linter.unusedVariables false
set_option linter.unusedSimpArgs false

end Go.Proofs.Ytpameapajhbdnaa

namespace Go.Proofs.Ytpameapajhbdnaa
open Go.RowKit
set_option linter.unusedVariables false
set_option linter.unusedSimpArgs false

end Go.Proofs.Ytpameapajhbdnaa

namespace Go.Proofs.Ytpameapajhbdnaa
open Go.RowKit
set_option linter.unusedVariables false
set_option linter.unusedSimpArgs false

theorem kind_of {m : DCommit} (h : CommitP m) : m.kind = 1 ∨ m.kind = 2 ∨ m.kind = 3 ∨ m.kind = 4 ∨ m.kind = 5 ∨ m.kind = 6 := by
  unfold CommitP CommitK at h
  omega
theorem place_of {u : Int} {l : List DMsg} (h : 0 ≤ placeOf u l) : pl u l < l.length ∧ placeOf u l = (pl u l : Nat) := by
  have := firstI_range (fun m : DMsg => decide (m.uid = u)) l
  have h2 : placeOf u l < l.length := this.2
  unfold pl
  omega
end Go.Proofs.Ytpameapajhbdnaa
