/-
  The library's Clone and Delete at slices of Seen.
-/
import Derived.Test.YtadjlfcdjkikgaaDoorFamSeen
import Derived.Test.YtadjlfcdjkikgaaDoorXOwn
import Derived.WalkSpells
import Derived.Lib.LazyBuf
import Derived.Deep.RegionLaw
namespace Go.Proofs.YtadjlfcdjkikgaaDoor
open Go.RowKit
set_option linter.unusedVariables false
set_option linter.unusedSimpArgs false
theorem DSeen.one (x : DSeen) : ∀ u ∈ x.cells, u.oneCell' = true := by simp [DSeen.cells, Value.oneCell']

end Go.Proofs.YtadjlfcdjkikgaaDoor
