/-
  The library's Clone and Delete at slices of Msg.
-/
import Derived.Test.YtadjlfcdjkikgaaDoorXFam
import Derived.Test.YtadjlfcdjkikgaaDoorXOwn
import Derived.WalkSpells
import Derived.Lib.LazyBuf
import Derived.Deep.RegionLaw
namespace Go.Proofs.YtadjlfcdjkikgaaDoor
open Go.RowKit
set_option linter.unusedVariables false
set_option linter.unusedSimpArgs false
theorem DMsg.one (x : DMsg) : ∀ u ∈ x.cells, u.oneCell' = true := by simp [DMsg.cells, Value.oneCell']

end Go.Proofs.YtadjlfcdjkikgaaDoor
