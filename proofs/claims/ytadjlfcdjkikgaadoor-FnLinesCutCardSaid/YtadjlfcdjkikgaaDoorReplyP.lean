/-
  What a valid reply is.
-/
import Derived.Test.YtadjlfcdjkikgaaDoorFamReply
import Derived.Test.YtadjlfcdjkikgaaDoorWNoteOk
import Derived.Test.YtadjlfcdjkikgaaDoorWTagOk
namespace Go.Proofs.YtadjlfcdjkikgaaDoor
open Go.RowKit
set_option linter.unusedVariables false
set_option linter.unusedSimpArgs false

def ReplyK (k n u f : Int) (nm tx : ByteArray) : Prop := (k = 1 ∧ (0 ≤ n ∧ n ≤ 999999999) ∧ u = 0 ∧ f = 0 ∧ nm = ⟨#[]⟩ ∧ tx = ⟨#[]⟩) ∨ (k = 2 ∧ (1 ≤ n ∧ n ≤ 999999999) ∧ u = 0 ∧ f = 0 ∧ nm = ⟨#[]⟩ ∧ tx = ⟨#[]⟩) ∨ (k = 3 ∧ (1 ≤ n ∧ n ≤ 999999999) ∧ (1 ≤ u ∧ u ≤ 999999999) ∧ (0 ≤ f ∧ f ≤ 31) ∧ nm = ⟨#[]⟩ ∧ tx = ⟨#[]⟩) ∨ (k = 4 ∧ (1 ≤ n ∧ n ≤ 999999999) ∧ (tx.size ≤ 40) ∧ u = 0 ∧ f = 0 ∧ nm = ⟨#[]⟩) ∨ (k = 5 ∧ (0 ≤ n ∧ n ≤ 999999999) ∧ (1 ≤ u ∧ u ≤ 999999999) ∧ (NameP nm) ∧ f = 0 ∧ tx = ⟨#[]⟩) ∨ (k = 6 ∧ (NameP nm) ∧ n = 0 ∧ u = 0 ∧ f = 0 ∧ tx = ⟨#[]⟩) ∨ (k = 7 ∧ (NameP nm) ∧ n = 0 ∧ u = 0 ∧ f = 0 ∧ tx = ⟨#[]⟩) ∨ (k = 8 ∧ (0 ≤ n ∧ n ≤ 999999999) ∧ (NameP nm) ∧ u = 0 ∧ f = 0 ∧ tx = ⟨#[]⟩) ∨ (k = 9 ∧ n = 0 ∧ u = 0 ∧ f = 0 ∧ nm = ⟨#[]⟩ ∧ tx = ⟨#[]⟩) ∨ (k = 10 ∧ n = 0 ∧ u = 0 ∧ f = 0 ∧ nm = ⟨#[]⟩ ∧ tx = ⟨#[]⟩) ∨ (k = 11 ∧ n = 0 ∧ u = 0 ∧ f = 0 ∧ nm = ⟨#[]⟩ ∧ tx = ⟨#[]⟩) ∨ (k = 12 ∧ (TagP nm ∨ nm = ⟨#[42]⟩) ∧ n = 0 ∧ u = 0 ∧ f = 0 ∧ tx = ⟨#[]⟩) ∨ (k = 13 ∧ (TagP nm ∨ nm = ⟨#[42]⟩) ∧ n = 0 ∧ u = 0 ∧ f = 0 ∧ tx = ⟨#[]⟩) ∨ (k = 14 ∧ (TagP nm ∨ nm = ⟨#[42]⟩) ∧ n = 0 ∧ u = 0 ∧ f = 0 ∧ tx = ⟨#[]⟩) ∨ (k = 15 ∧ n = 0 ∧ u = 0 ∧ f = 0 ∧ nm = ⟨#[]⟩ ∧ tx = ⟨#[]⟩) ∨ (k = 16 ∧ n = 0 ∧ u = 0 ∧ f = 0 ∧ nm = ⟨#[]⟩ ∧ tx = ⟨#[]⟩)
def ReplyP (a : DReply) : Prop := ReplyK a.kind a.n a.uid a.flags a.name a.text
theorem replyK_no (k n u f : Int) (nm tx : ByteArray) (h : ¬ (1 ≤ k ∧ k ≤ 16)) : ¬ ReplyK k n u f nm tx := by
  unfold ReplyK
  rintro (⟨h1, _⟩ | ⟨h1, _⟩ | ⟨h1, _⟩ | ⟨h1, _⟩ | ⟨h1, _⟩ | ⟨h1, _⟩ | ⟨h1, _⟩ | ⟨h1, _⟩ | ⟨h1, _⟩ | ⟨h1, _⟩ | ⟨h1, _⟩ | ⟨h1, _⟩ | ⟨h1, _⟩ | ⟨h1, _⟩ | ⟨h1, _⟩ | ⟨h1, _⟩) <;> omega
theorem l14Named_dec (n : Int) (w : World) :
    Calls Tryd.prog 44 #[.int .i64 n] w fun e w' => e = .returned (.bool (decide (5 ≤ n) && decide (n ≤ 8))) ∧ w' = w := by
  go_enter Tryd.func44, Tryd.ntmps44
  go_wp2_with ((go_at_call 43; refine (l1In_dec _ _ _ _).mono ?_; rintro e w1 ⟨rfl, rfl⟩))
  go_ret
  exact ⟨rfl, rfl⟩
theorem l14Tagged_dec (n : Int) (w : World) :
    Calls Tryd.prog 45 #[.int .i64 n] w fun e w' => e = .returned (.bool (decide (12 ≤ n) && decide (n ≤ 14))) ∧ w' = w := by
  go_enter Tryd.func45, Tryd.ntmps45
  go_wp2_with ((go_at_call 43; refine (l1In_dec _ _ _ _).mono ?_; rintro e w1 ⟨rfl, rfl⟩))
  go_ret
  exact ⟨rfl, rfl⟩

end Go.Proofs.YtadjlfcdjkikgaaDoor
