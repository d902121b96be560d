/-
  The laws' functions over Queue: marks laid and looked at.
-/
import Derived.Test.YteciccchpenbmaaFamQueue
import Derived.Test.YteciccchpenbmaaMarkNote
namespace Go.Proofs.Yteciccchpenbmaa
open Go.RowKit
set_option linter.unusedVariables false
set_option linter.unusedSimpArgs false

set_option maxHeartbeats 1000000 in
theorem markQueue_any (xnotes : List DNote) (xnotesA : Option Addr) (xnotesC : Nat) (xresync : Bool) (xlost : Bool) (B : Nat) (k : Int) (w : World) (hw : Own w B 28 4 (.slice xnotesA xnotes.length xnotesC) xnotes.length (xnotes.flatMap DNote.cells)) (h0 : 1 ≤ k) (h1 : k ≤ 100000000) (hl : xnotes.length ≤ 2097152) :
    Calls Try.prog 45 #[.agg #[.slice xnotesA xnotes.length xnotesC, .bool xresync, .bool xlost], .int .i64 k] w fun e w' => e = .returned (.int .i64 (k + 4 * xnotes.length)) ∧ Own w' B 28 4 (.slice xnotesA xnotes.length xnotesC) xnotes.length ((markN DNote.mark 4 xnotes.length k).flatMap DNote.cells) ∧ w.grownBy w' (foot (.slice xnotesA xnotes.length xnotesC)) := by
  have HW := Lib.hid hw
  clear hw
  have hk1 : k + 4 * xnotes.length ≤ 9223372036854775807 := by omega
  go_enter Try.func45, Try.ntmps45
  go_wp2_with fail
  refine (markNoteS_any xnotes _ _ B k _ (HW.out.ext (by repeat' (first | with_reducible exact Below.refl _ _ | with_reducible assumption | with_reducible refine Below.alloc ?_ ?_ _ | with_reducible refine Below.setCell ?_ ?_ _ | with_reducible refine Below.drew ?_ | with_reducible refine Below.drewN ?_ _ | with_reducible refine Below.ext ?_ (by assumption) | (simp <;> omega) | omega))) h0 h1 hl).mono ?_
  rintro e w1 ⟨rfl, hown, hg⟩
  have HO := Lib.hid hown
  have HG := Lib.hid hg
  clear hown hg
  go_wp2_with fail
  go_ret
  exact ⟨rfl, HO.out, grown_trans (grown_ext (by repeat' (first | with_reducible exact Below.refl _ _ | with_reducible assumption | with_reducible refine Below.alloc ?_ ?_ _ | with_reducible refine Below.setCell ?_ ?_ _ | with_reducible refine Below.drew ?_ | with_reducible refine Below.drewN ?_ _ | with_reducible refine Below.ext ?_ (by assumption) | (simp <;> omega) | omega))) HG.out⟩

set_option maxHeartbeats 1000000 in
theorem heldQueue_any (n : Nat) (xresync : Bool) (xlost : Bool) (xnotesA : Option Addr) (xnotesC : Nat) (k : Int) (w : World) (R : Rd w xnotesA xnotesC 4 n ((markN DNote.mark 4 n k).flatMap DNote.cells)) (h0 : 1 ≤ k) (h1 : k ≤ 100000000) (hl : n ≤ 2097152) :
    Calls Try.prog 46 #[.agg #[.slice xnotesA n xnotesC, .bool xresync, .bool xlost], .int .i64 k] w fun e w' => e = .returned (.int .i64 (k + 4 * n)) ∧ Ext w w' := by
  have HR := Lib.hid R
  clear R
  have hk1 : k + 4 * n ≤ 9223372036854775807 := by omega
  have hk2 : 0 ≤ k + 4 * n := by omega
  go_enter Try.func46, Try.ntmps46
  go_wp2_with fail
  refine (heldNoteS_any n _ _ k _ (HR.out.ext (by repeat' (first | with_reducible exact Below.refl _ _ | with_reducible assumption | with_reducible refine Below.alloc ?_ ?_ _ | with_reducible refine Below.setCell ?_ ?_ _ | with_reducible refine Below.drew ?_ | with_reducible refine Below.drewN ?_ _ | with_reducible refine Below.ext ?_ (by assumption) | (simp <;> omega) | omega))) h0 h1 hl).mono ?_
  rintro e w1 ⟨rfl, hb1⟩
  go_wp2_with fail
  go_ret
  exact ⟨rfl, by repeat' (first | with_reducible exact Below.refl _ _ | with_reducible assumption | with_reducible refine Below.alloc ?_ ?_ _ | with_reducible refine Below.setCell ?_ ?_ _ | with_reducible refine Below.drew ?_ | with_reducible refine Below.drewN ?_ _ | with_reducible refine Below.ext ?_ (by assumption) | (simp <;> omega) | omega)⟩

end Go.Proofs.Yteciccchpenbmaa
