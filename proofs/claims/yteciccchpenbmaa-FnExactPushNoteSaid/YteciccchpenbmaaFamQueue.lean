/-
  The laws' functions over Queue: equality, size, copy.
-/
import Derived.Test.YteciccchpenbmaaFamNote
namespace Go.Proofs.Yteciccchpenbmaa
open Go.RowKit
set_option linter.unusedVariables false
set_option linter.unusedSimpArgs false

set_option maxHeartbeats 1000000 in
theorem eqQueue_any (xnotes : List DNote) (xnotesA : Option Addr) (xnotesC : Nat) (xresync : Bool) (xlost : Bool) (ynotes : List DNote) (ynotesA : Option Addr) (ynotesC : Nat) (yresync : Bool) (ylost : Bool) (w : World) (xnotesR : Rd w xnotesA xnotesC 4 xnotes.length (xnotes.flatMap DNote.cells)) (ynotesR : Rd w ynotesA ynotesC 4 ynotes.length (ynotes.flatMap DNote.cells)) (r : Bool) (Hr : Hid (decide (xnotes = ynotes ∧ xresync = yresync ∧ xlost = ylost) = r)) :
    Calls Try.prog 44 #[.agg #[.slice xnotesA xnotes.length xnotesC, .bool xresync, .bool xlost], .agg #[.slice ynotesA ynotes.length ynotesC, .bool yresync, .bool ylost]] w fun e w' => e = .returned (.bool r) ∧ Ext w w' := by
  obtain ⟨d0, hd0⟩ : ∃ d, decide (xnotes = ynotes) = d := ⟨_, rfl⟩
  have HD0 := Lib.hid hd0
  clear hd0
  have Hxnotes := Lib.hid xnotesR
  clear xnotesR
  have Hynotes := Lib.hid ynotesR
  clear ynotesR
  go_enter Try.func44, Try.ntmps44
  go_wp2_with (first | (go_at_call 101; refine (eqNoteS_any _ _ _ _ _ _ _ (Hxnotes.out.ext (by repeat' (first | with_reducible exact Below.refl _ _ | with_reducible assumption | with_reducible refine Below.alloc ?_ ?_ _ | with_reducible refine Below.setCell ?_ ?_ _ | with_reducible refine Below.drew ?_ | with_reducible refine Below.drewN ?_ _ | with_reducible refine Below.ext ?_ (by assumption) | (simp <;> omega) | omega))) (Hynotes.out.ext (by repeat' (first | with_reducible exact Below.refl _ _ | with_reducible assumption | with_reducible refine Below.alloc ?_ ?_ _ | with_reducible refine Below.setCell ?_ ?_ _ | with_reducible refine Below.drew ?_ | with_reducible refine Below.drewN ?_ _ | with_reducible refine Below.ext ?_ (by assumption) | (simp <;> omega) | omega))) d0 HD0).mono ?_; rintro e w1 ⟨rfl, hb1⟩; obtain ⟨hc1, hf1⟩ := bcell hb1))
  all_goals go_ret
  all_goals go_tidy
  all_goals refine ⟨ret_bool ?_, by repeat' (first | with_reducible exact Below.refl _ _ | with_reducible assumption | with_reducible refine Below.alloc ?_ ?_ _ | with_reducible refine Below.setCell ?_ ?_ _ | with_reducible refine Below.drew ?_ | with_reducible refine Below.drewN ?_ _ | with_reducible refine Below.ext ?_ (by assumption) | (simp <;> omega) | omega)⟩
  all_goals rw [← Hr.out]
  all_goals (have hdd := HD0.out)
  all_goals clear HD0
  all_goals simp_all [str_beq]

set_option maxHeartbeats 1000000 in
theorem szQueue_any (xnotes : List DNote) (xnotesA : Option Addr) (xnotesC : Nat) (xresync : Bool) (xlost : Bool) (left : Int) (w : World) (xnotesR : Rd w xnotesA xnotesC 4 xnotes.length (xnotes.flatMap DNote.cells)) (h0 : 0 ≤ left) (h1 : left ≤ 1048576) (hsnotesname : ∀ y ∈ xnotes, y.name.size ≤ 9223372036854775807) :
    Calls Try.prog 40 #[.agg #[.slice xnotesA xnotes.length xnotesC, .bool xresync, .bool xlost], .int .i64 left] w (SzPost left (DNote.szS xnotes) w) := by
  have Hxnotes := Lib.hid xnotesR
  clear xnotesR
  have HSname := Lib.hid hsnotesname
  clear hsnotesname
  go_enter Try.func40, Try.ntmps40
  go_wp2_with ((go_at_call 98; refine (szNoteS_any xnotes _ _ _ _ (Hxnotes.out.ext (by repeat' (first | with_reducible exact Below.refl _ _ | with_reducible assumption | with_reducible refine Below.alloc ?_ ?_ _ | with_reducible refine Below.setCell ?_ ?_ _ | with_reducible refine Below.drew ?_ | with_reducible refine Below.drewN ?_ _ | with_reducible refine Below.ext ?_ (by assumption) | (simp <;> omega) | omega))) (by omega) (by omega) HSname.out).mono ?_; rintro e w1 ⟨r, rfl, hr, hb1⟩))
  all_goals go_ret
  all_goals go_tidy
  all_goals refine ⟨_, rfl, ?_, by repeat' (first | with_reducible exact Below.refl _ _ | with_reducible assumption | with_reducible refine Below.alloc ?_ ?_ _ | with_reducible refine Below.setCell ?_ ?_ _ | with_reducible refine Below.drew ?_ | with_reducible refine Below.drewN ?_ _ | with_reducible refine Below.ext ?_ (by assumption) | (simp <;> omega) | omega)⟩
  all_goals unfold szR at *
  all_goals first | (exact Or.inl (by omega)) | (exact Or.inr (by omega))

set_option maxHeartbeats 1000000 in
theorem toQueue_any (xnotes : List DNote) (xnotesA : Option Addr) (xnotesC : Nat) (xresync : Bool) (xlost : Bool) (w : World) (xnotesR : Rd w xnotesA xnotesC 4 xnotes.length (xnotes.flatMap DNote.cells)) (hl : xnotes.length ≤ 1048576) :
    Calls Try.prog 42 #[.agg #[.slice xnotesA xnotes.length xnotesC, .bool xresync, .bool xlost]] w fun e w' => ∃ g, e = .returned (.agg #[.slice (some ⟨g, 0, none⟩) xnotes.length xnotes.length, .bool xresync, .bool xlost]) ∧ w'.ownsRow w.heap.size 28 4 (.slice (some ⟨g, 0, none⟩) xnotes.length xnotes.length) xnotes.length (xnotes.flatMap DNote.cells) ∧ Ext w w' := by
  have Hxnotes := Lib.hid xnotesR
  clear xnotesR
  go_enter Try.func42, Try.ntmps42
  go_wp2_with ((go_at_call 99; refine (toNoteS_any xnotes _ _ _ (Hxnotes.out.ext (by repeat' (first | with_reducible exact Below.refl _ _ | with_reducible assumption | with_reducible refine Below.alloc ?_ ?_ _ | with_reducible refine Below.setCell ?_ ?_ _ | with_reducible refine Below.drew ?_ | with_reducible refine Below.drewN ?_ _ | with_reducible refine Below.ext ?_ (by assumption) | (simp <;> omega) | omega))) hl).mono ?_; rintro e w1 ⟨g, rfl, hown, hb1⟩; have HO := Lib.hid (own_le hown (by simp <;> omega : w.heap.size + 3 ≤ _)); clear hown; obtain ⟨hc1, hf1⟩ := bcell hb1; have hsz := hb1.size; simp at hsz))
  refine bodyPost_ret (v := .agg #[.slice (some ⟨g, 0, none⟩) xnotes.length xnotes.length, .bool xresync, .bool xlost]) (by simp [results, Try.results42, go_sem, hc1, hf1]) rfl ⟨g, rfl, ?_, ?_⟩
  · refine own_le ?_ (by omega : w.heap.size ≤ w.heap.size + 3)
    repeat (with_reducible refine ownsRow_setCell_below ?_ (by simp <;> omega) _)
    with_reducible exact HO.out
  · repeat' (first | with_reducible exact Below.refl _ _ | with_reducible assumption | with_reducible refine Below.alloc ?_ ?_ _ | with_reducible refine Below.setCell ?_ ?_ _ | with_reducible refine Below.drew ?_ | with_reducible refine Below.drewN ?_ _ | with_reducible refine Below.ext ?_ (by assumption) | (simp <;> omega) | omega)

end Go.Proofs.Yteciccchpenbmaa
