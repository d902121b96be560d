/-
  The library's Clone and Delete at slices of Commit.
-/
import Derived.Test.YtemgabekckhckaaGreatXFam
import Derived.Test.YtemgabekckhckaaGreatXOwn
import Derived.WalkSpells
import Derived.Lib.LazyBuf
import Derived.Deep.RegionLaw
namespace Go.Proofs.YtemgabekckhckaaGreat
open Go.RowKit
set_option linter.unusedVariables false
set_option linter.unusedSimpArgs false
theorem DCommit.one (x : DCommit) : ∀ u ∈ x.cells, u.oneCell' = true := by simp [DCommit.cells, Value.oneCell']

end Go.Proofs.YtemgabekckhckaaGreat
