/-
  The laws' functions over View: equality, size, copy.
-/
import Derived.Test.YtgobkfnmagcgcaaFamSeen
namespace Go.Proofs.Ytgobkfnmagcgcaa
open Go.RowKit
set_option linter.unusedVariables false
set_option linter.unusedSimpArgs false

end Go.Proofs.Ytgobkfnmagcgcaa
