/-
  Whether a note is valid: the program's function and the reference's.
-/
import Derived.Test.YtadjlfcdjkikgaaDoorTy
import Derived.Test.YtadjlfcdjkikgaaDoorWNameOk
namespace Go.Proofs.YtadjlfcdjkikgaaDoor
open Go.RowKit
set_option linter.unusedVariables false
set_option linter.unusedSimpArgs false

def NoteP (n : DNote) : Prop := (n.kind = 1 ∧ (0 ≤ n.n ∧ n.n ≤ 300) ∧ (0 ≤ n.uid ∧ n.uid ≤ 999999998) ∧ n.name = ⟨#[]⟩) ∨ (n.kind ≠ 1 ∧ (2 ≤ n.kind ∧ n.kind ≤ 4) ∧ n.n = 0 ∧ n.uid = 0 ∧ NameP n.name)
theorem noteP_box (n : DNote) (h : n.kind = 1) : NoteP n ↔ (0 ≤ n.n ∧ n.n ≤ 300) ∧ (0 ≤ n.uid ∧ n.uid ≤ 999999998) ∧ n.name = ⟨#[]⟩ := by simp [NoteP, h]
theorem noteP_oth (n : DNote) (h : n.kind ≠ 1) : NoteP n ↔ (2 ≤ n.kind ∧ n.kind ≤ 4) ∧ n.n = 0 ∧ n.uid = 0 ∧ NameP n.name := by simp [NoteP, h]

end Go.Proofs.YtadjlfcdjkikgaaDoor
