/-
  The laws' functions over Queue: equality, size, copy.
-/
import Derived.Test.YtgobkfnmagcgcaaFamNote
namespace Go.Proofs.Ytgobkfnmagcgcaa
open Go.RowKit
set_option linter.unusedVariables false
set_option linter.unusedSimpArgs false

end Go.Proofs.Ytgobkfnmagcgcaa
