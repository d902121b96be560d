/-
  The law FnExactQueueOk: its walk, out of the contracts of what it calls.
-/
import Derived.Test.YteciccchpenbmaaWQueueOk
namespace Go.Proofs.Yteciccchpenbmaa
open Go.RowKit
set_option linter.unusedVariables false
set_option linter.unusedSimpArgs false

set_option maxHeartbeats 4000000 in
theorem fnExactQueueOk_walk (a0notes : List DNote) (a0notesA : Option Addr) (a0notesC : Nat) (a0resync : Bool) (a0lost : Bool) (w : World) : (MaxLen w) → (Rd w a0notesA a0notesC 4 a0notes.length (a0notes.flatMap DNote.cells)) → (∀ y ∈ a0notes, y.name.size ≤ 9223372036854775807) →
    Calls Try.prog 12 #[.agg #[.slice a0notesA a0notes.length a0notesC, .bool a0resync, .bool a0lost]] w fun e w' => e = .returned (.bool true) ∧ Below w.heap.size w w' := by
  intro hmx a0notesR gs0notes
  obtain ⟨r, hr⟩ := boolOf (QueueP a0notes a0resync a0lost)
  have Hr := Lib.hid hr
  clear hr
  have HMX := Lib.hid hmx
  clear hmx
  have Ha0notes := Lib.hid a0notesR
  clear a0notesR
  have Hgs0notes := Lib.hid gs0notes
  clear gs0notes
  go_enter Try.func12, Try.ntmps12
  go_wp2_with fail
  refine (szQueue_any a0notes _ _ a0resync a0lost 1048576 _ (Ha0notes.out.ext (by repeat' (first | with_reducible exact Below.refl _ _ | with_reducible assumption | with_reducible refine Below.alloc ?_ ?_ _ | with_reducible refine Below.setCell ?_ ?_ _ | with_reducible refine Below.drew ?_ | with_reducible refine Below.drewN ?_ _ | with_reducible refine Below.ext ?_ (by assumption) | (simp <;> omega) | omega))) (by omega) (by omega) Hgs0notes.out).mono ?_
  rintro e w1 ⟨left1, rfl, hz1, hb1⟩
  obtain ⟨hc1, hf1⟩ := bcell hb1
  have hs1_0 : w.heap.size < w1.heap.size := by (have hss := hb1.size; first | omega | (simp at hss <;> omega))
  rcases hz1 with hz1 | ⟨hz10, hz1⟩
  · go_wp2_with fail
    go_ret
    exact ⟨rfl, by repeat' (first | with_reducible exact Below.refl _ _ | with_reducible assumption | with_reducible refine Below.alloc ?_ ?_ _ | with_reducible refine Below.setCell ?_ ?_ _ | with_reducible refine Below.drew ?_ | with_reducible refine Below.drewN ?_ _ | with_reducible refine Below.ext ?_ (by assumption) | (simp <;> omega) | omega)⟩
  have hlt1 : left1 ≤ 1048576 := by omega
  have hla0notes : a0notes.length ≤ 1048576 := by (have := DNote.len_le a0notes; omega)
  clear hz1
  go_wp2_with fail
  refine (toQueue_any a0notes _ _ a0resync a0lost _ (Ha0notes.out.ext (by repeat' (first | with_reducible exact Below.refl _ _ | with_reducible assumption | with_reducible refine Below.alloc ?_ ?_ _ | with_reducible refine Below.setCell ?_ ?_ _ | with_reducible refine Below.drew ?_ | with_reducible refine Below.drewN ?_ _ | with_reducible refine Below.ext ?_ (by assumption) | (simp <;> omega) | omega))) hla0notes).mono ?_
  rintro e w2 ⟨gx2, rfl, hown, hb2⟩
  have HX2 := Lib.hid hown; clear hown
  obtain ⟨hc2, hf2⟩ := bcell hb2
  have hs2_0 : w.heap.size < w2.heap.size := by (have hss := hb2.size; first | omega | (simp at hss <;> omega))
  go_wp2_with fail
  refine (specQueueOk_any a0notes _ _ a0resync a0lost _ ((Rd.of_own HX2.out).ext (by repeat' (first | with_reducible exact Below.refl _ _ | with_reducible assumption | with_reducible refine Below.alloc ?_ ?_ _ | with_reducible refine Below.setCell ?_ ?_ _ | with_reducible refine Below.drew ?_ | with_reducible refine Below.drewN ?_ _ | with_reducible refine Below.ext ?_ (by assumption) | (simp <;> omega) | omega))) Hgs0notes.out r Hr).mono ?_
  rintro e w3 ⟨rfl, hb3⟩
  obtain ⟨hc3, hf3⟩ := bcell hb3
  have hs3_0 : w.heap.size < w3.heap.size := by (have hss := hb3.size; first | omega | (simp at hss <;> omega))
  go_wp2_with fail
  refine (toQueue_any a0notes _ _ a0resync a0lost _ (Ha0notes.out.ext (by repeat' (first | with_reducible exact Below.refl _ _ | with_reducible assumption | with_reducible refine Below.alloc ?_ ?_ _ | with_reducible refine Below.setCell ?_ ?_ _ | with_reducible refine Below.drew ?_ | with_reducible refine Below.drewN ?_ _ | with_reducible refine Below.ext ?_ (by assumption) | (simp <;> omega) | omega))) hla0notes).mono ?_
  rintro e w4 ⟨gx4, rfl, hown, hb4⟩
  have HX4 := Lib.hid hown; clear hown
  obtain ⟨hc4, hf4⟩ := bcell hb4
  have hs4_0 : w.heap.size < w4.heap.size := by (have hss := hb4.size; first | omega | (simp at hss <;> omega))
  go_wp2_with fail
  refine (implQueueOk_any a0notes _ _ a0resync a0lost _ ((Rd.of_own HX4.out).ext (by repeat' (first | with_reducible exact Below.refl _ _ | with_reducible assumption | with_reducible refine Below.alloc ?_ ?_ _ | with_reducible refine Below.setCell ?_ ?_ _ | with_reducible refine Below.drew ?_ | with_reducible refine Below.drewN ?_ _ | with_reducible refine Below.ext ?_ (by assumption) | (simp <;> omega) | omega))) (HMX.out.ext (by repeat' (first | with_reducible exact Below.refl _ _ | with_reducible assumption | with_reducible refine Below.alloc ?_ ?_ _ | with_reducible refine Below.setCell ?_ ?_ _ | with_reducible refine Below.drew ?_ | with_reducible refine Below.drewN ?_ _ | with_reducible refine Below.ext ?_ (by assumption) | (simp <;> omega) | omega))) Hgs0notes.out r Hr).mono ?_
  rintro e w5 ⟨rfl, hb5⟩
  obtain ⟨hc5, hf5⟩ := bcell hb5
  have hs5_0 : w.heap.size < w5.heap.size := by (have hss := hb5.size; first | omega | (simp at hss <;> omega))
  have hs5_1 : w4.heap.size < w5.heap.size := by (have hss := hb5.size; first | omega | (simp at hss <;> omega))
  go_wp2_with fail
  go_region_held3 (fun w' => Below w5.heap.size w5 w' ∧ (∀ b o, b < w5.heap.size → w'.cell? ⟨b, o, none⟩ = w5.cell? ⟨b, o, none⟩)) (first | exact sBeg _ | exact sExt (by assumption) (by assumption)) ((first | (go_at_call_of 42 (a0notes); refine (toQueue_any a0notes _ _ a0resync a0lost _ (Ha0notes.out.ext (by repeat' (first | with_reducible exact Below.refl _ _ | with_reducible assumption | with_reducible refine Below.alloc ?_ ?_ _ | with_reducible refine Below.setCell ?_ ?_ _ | with_reducible refine Below.drew ?_ | with_reducible refine Below.drewN ?_ _ | with_reducible refine Below.ext ?_ (by assumption) | (simp <;> omega) | omega))) hla0notes).mono ?_; rintro e w6 ⟨gx6, rfl, hown, hb6⟩; have HX6 := Lib.hid hown; clear hown) | (go_at_call_of 44 (a0notes); refine (eqQueue_any a0notes _ _ a0resync a0lost a0notes _ _ a0resync a0lost _ ((Rd.of_own HX4.out).ext (by repeat' (first | with_reducible exact Below.refl _ _ | with_reducible assumption | with_reducible refine Below.alloc ?_ ?_ _ | with_reducible refine Below.setCell ?_ ?_ _ | with_reducible refine Below.drew ?_ | with_reducible refine Below.drewN ?_ _ | with_reducible refine Below.ext ?_ (by assumption) | (simp <;> omega) | omega))) ((Rd.of_own HX6.out).ext (by repeat' (first | with_reducible exact Below.refl _ _ | with_reducible assumption | with_reducible refine Below.alloc ?_ ?_ _ | with_reducible refine Below.setCell ?_ ?_ _ | with_reducible refine Below.drew ?_ | with_reducible refine Below.drewN ?_ _ | with_reducible refine Below.ext ?_ (by assumption) | (simp <;> omega) | omega))) true (by simp [Hid])).mono ?_; rintro e w7 ⟨rfl, hb7⟩)))
  have hbq7 : Ext w5 w7 := Below.ext (Below.ext ((Below.refl _ _).drew) hb6) hb7
  obtain ⟨hc7, hf7⟩ := bcell hbq7
  have hs7_0 : w.heap.size < w7.heap.size := by (have hss := hbq7.size; first | omega | (simp at hss <;> omega))
  have hs7_1 : w4.heap.size < w7.heap.size := by (have hss := hbq7.size; first | omega | (simp at hss <;> omega))
  go_wp2_with fail
  go_ret
  exact ⟨rfl, by repeat' (first | with_reducible exact Below.refl _ _ | with_reducible assumption | with_reducible refine Below.alloc ?_ ?_ _ | with_reducible refine Below.setCell ?_ ?_ _ | with_reducible refine Below.drew ?_ | with_reducible refine Below.drewN ?_ _ | with_reducible refine Below.ext ?_ (by assumption) | (simp <;> omega) | omega)⟩

end Go.Proofs.Yteciccchpenbmaa
