/-
  The program's perform at changed flags and at a message removed.
  The program's perform at any commit that applies.
-/
import Derived.Test.YtadjlfcdjkikgaaDoorWPerf
import Derived.Test.YtadjlfcdjkikgaaDoorXOwn
import Derived.IntWalk
import Derived.Test.YtadjlfcdjkikgaaDoorWPlain
namespace Go.Proofs.YtadjlfcdjkikgaaDoor
open Go.RowKit
set_option linter.unusedVariables false
set_option linter.unusedSimpArgs false

theorem wp_then {P : Program} {c : Code} {Q : Exit → Act → World → Prop} {a : Act} {w : World} (h : ∀ K : Act → World → Prop, K = (fun a w => Q .normal a w) → Code.wp P c (Exit.then K Q) a w) : Code.wp P c Q a w :=
  Code.wp_mono (fun e a w hq => by cases e <;> exact hq) (h _ rfl)

end Go.Proofs.YtadjlfcdjkikgaaDoor

namespace Go.Proofs.YtadjlfcdjkikgaaDoor
open Go.RowKit
set_option linter.unusedVariables false
set_option linter.unusedSimpArgs false

theorem kind_of {m : DCommit} (h : CommitP m) : m.kind = 1 ∨ m.kind = 2 ∨ m.kind = 3 ∨ m.kind = 4 ∨ m.kind = 5 ∨ m.kind = 6 := by
  unfold CommitP CommitK at h
  omega
theorem place_of {u : Int} {l : List DMsg} (h : 0 ≤ placeOf u l) : pl u l < l.length ∧ placeOf u l = (pl u l : Nat) := by
  have := firstI_range (fun m : DMsg => decide (m.uid = u)) l
  have h2 : placeOf u l < l.length := this.2
  unfold pl
  omega
end Go.Proofs.YtadjlfcdjkikgaaDoor
