/-
  A queue's copy: the program's function and the reference's.
-/
import Derived.Test.YtgobkfnmagcgcaaListNote
import Derived.Test.YtgobkfnmagcgcaaFamQueue
namespace Go.Proofs.Ytgobkfnmagcgcaa
open Go.RowKit
set_option linter.unusedVariables false
set_option linter.unusedSimpArgs false

set_option maxRecDepth 100000 in
set_option maxHeartbeats 1000000 in
theorem copyQueue_any (xnotes : List DNote) (xnotesA : Option Addr) (xnotesC : Nat) (xresync xlost : Bool) (w : World) (R : Rd w xnotesA xnotesC 4 xnotes.length (xnotes.flatMap DNote.cells)) (hl : xnotes.length ≤ 4194304) :
    Calls Try.prog 53 #[.agg #[.slice xnotesA xnotes.length xnotesC, .bool xresync, .bool xlost]] w fun e w' => ∃ g q, e = .returned (.agg #[.slice g xnotes.length q, .bool xresync, .bool xlost]) ∧ Own w' (w.heap.size + 2) 36 4 (.slice g xnotes.length q) xnotes.length (xnotes.flatMap DNote.cells) ∧ Ext w w' := by
  have HR := Lib.hid R
  clear R
  go_enter Try.func53, Try.ntmps53
  go_wp2_with ((go_at_call 96; refine (cloneNoteS_any xnotes _ _ _ (HR.out.ext bxt) hl).mono ?_; rintro e w1 ⟨g, q, rfl, hown, hb1⟩; have HO := Lib.hid (hown.le (by simp : w.heap.size + 2 ≤ _)); clear hown; obtain ⟨hc1, hf1⟩ := bcell hb1; have hsz := hb1.size; simp at hsz; have hs1 : w.heap.size < w1.heap.size := (by omega); have hs2 : w.heap.size + 1 < w1.heap.size := (by omega); have b0 : w1.cell? ⟨w.heap.size, 0, none⟩ = some (.slice xnotesA xnotes.length xnotesC) := (hb1.cell (p := ⟨w.heap.size, 0, none⟩) (by simp <;> omega)).trans (by simp [go_sem]); have b1 : w1.cell? ⟨w.heap.size, 1, none⟩ = some (.bool xresync) := (hb1.cell (p := ⟨w.heap.size, 1, none⟩) (by simp <;> omega)).trans (by simp [go_sem]); have b2 : w1.cell? ⟨w.heap.size, 2, none⟩ = some (.bool xlost) := (hb1.cell (p := ⟨w.heap.size, 2, none⟩) (by simp <;> omega)).trans (by simp [go_sem])))
  refine bodyPost_ret (v := .agg #[.slice g xnotes.length q, .bool xresync, .bool xlost]) (by simp [results, Try.results53, go_sem, hc1, hf1]) rfl ⟨g, q, rfl, ?_, ?_⟩
  · repeat (with_reducible refine Own.set_below ?_ (by simp <;> omega) _)
    with_reducible exact HO.out
  · exact bxt

set_option maxRecDepth 100000 in
set_option maxHeartbeats 1000000 in
theorem l16Copy_any (xnotes : List DNote) (xnotesA : Option Addr) (xnotesC : Nat) (xresync xlost : Bool) (w : World) (R : Rd w xnotesA xnotesC 4 xnotes.length (xnotes.flatMap DNote.cells)) (hl : xnotes.length ≤ 4194304) :
    Calls Try.prog 56 #[.agg #[.slice xnotesA xnotes.length xnotesC, .bool xresync, .bool xlost]] w fun e w' => ∃ g q, e = .returned (.agg #[.slice g xnotes.length q, .bool xresync, .bool xlost]) ∧ Own w' (w.heap.size + 2) 36 4 (.slice g xnotes.length q) xnotes.length (xnotes.flatMap DNote.cells) ∧ Ext w w' := by
  obtain ⟨i0, hi, hz0, hz1, hz2⟩ := info_parts info_Note
  have HR := Lib.hid R
  clear R
  go_enter Try.func56, Try.ntmps56
  go_wp2_with ((at_builtin; refine wpList_app (B := w.heap.size + 2) (v := .slice (some ⟨w.heap.size + 2, 0, none⟩) 0 0) rfl _ _ _ rfl 36 i0 _ _ Try.underlying32 hi hz0 hz1 hz2 rfl (by decide) rfl (Own.none0 _) _ _ _ (xnotes.flatMap DNote.cells) rfl (HR.out.ext bxt) (one_flat DNote.one xnotes) (by omega) (by omega) (by simp) ?_; intro g q w1 hown hg; simp only [Nat.zero_add, List.nil_append] at hown; have hgn := grown_below (show World.grownBy _ w1 none from hg); have HO := Lib.hid hown; clear hown hg; obtain ⟨hc1, hf1⟩ := bcell hgn; have hsz := hgn.size; simp at hsz; simp only [Nat.zero_add]; have hs1 : w.heap.size < w1.heap.size := (by omega); have hs2 : w.heap.size + 1 < w1.heap.size := (by omega); have b0 : w1.cell? ⟨w.heap.size, 0, none⟩ = some (.slice xnotesA xnotes.length xnotesC) := (hgn.cell (p := ⟨w.heap.size, 0, none⟩) (by simp <;> omega)).trans (by simp [go_sem]); have b1 : w1.cell? ⟨w.heap.size, 1, none⟩ = some (.bool xresync) := (hgn.cell (p := ⟨w.heap.size, 1, none⟩) (by simp <;> omega)).trans (by simp [go_sem]); have b2 : w1.cell? ⟨w.heap.size, 2, none⟩ = some (.bool xlost) := (hgn.cell (p := ⟨w.heap.size, 2, none⟩) (by simp <;> omega)).trans (by simp [go_sem])))
  refine bodyPost_ret (v := .agg #[.slice g xnotes.length q, .bool xresync, .bool xlost]) (by simp [results, Try.results56, go_sem, hc1, hf1]) rfl ⟨g, q, rfl, ?_, ?_⟩
  · repeat (with_reducible refine Own.set_below ?_ (by simp <;> omega) _)
    with_reducible exact HO.out
  · exact bxt
end Go.Proofs.Ytgobkfnmagcgcaa
