/-
  The law FnExactSameQueue: its walk, out of the contracts of what it calls.
-/
import Derived.Test.YthhabohbbdcfcaaWSameQueue
namespace Go.Proofs.Ythhabohbbdcfcaa
open Go.RowKit
set_option linter.unusedVariables false
set_option linter.unusedSimpArgs false

set_option maxHeartbeats 4000000 in
theorem fnExactSameQueue_walk (a0notes : List DNote) (a0notesA : Option Addr) (a0notesC : Nat) (a0resync : Bool) (a0lost : Bool) (a1notes : List DNote) (a1notesA : Option Addr) (a1notesC : Nat) (a1resync : Bool) (a1lost : Bool) (w : World) : (Rd w a0notesA a0notesC 4 a0notes.length (a0notes.flatMap DNote.cells)) → (∀ y ∈ a0notes, y.name.size ≤ 9223372036854775807) → (Rd w a1notesA a1notesC 4 a1notes.length (a1notes.flatMap DNote.cells)) → (∀ y ∈ a1notes, y.name.size ≤ 9223372036854775807) →
    Calls Try.prog 9 #[.agg #[.slice a0notesA a0notes.length a0notesC, .bool a0resync, .bool a0lost], .agg #[.slice a1notesA a1notes.length a1notesC, .bool a1resync, .bool a1lost]] w fun e w' => e = .returned (.bool true) ∧ Below w.heap.size w w' := by
  intro a0notesR gs0notes a1notesR gs1notes
  obtain ⟨r, hr⟩ : ∃ r, decide (a0notes = a1notes ∧ a0resync = a1resync ∧ a0lost = a1lost) = r := ⟨_, rfl⟩
  have Hr := Lib.hid hr
  clear hr
  have Ha0notes := Lib.hid a0notesR
  clear a0notesR
  have Ha1notes := Lib.hid a1notesR
  clear a1notesR
  have Hgs0notes := Lib.hid gs0notes
  clear gs0notes
  have Hgs1notes := Lib.hid gs1notes
  clear gs1notes
  go_enter Try.func9, Try.ntmps9
  go_wp2_with fail
  refine (szQueue_any a0notes _ _ a0resync a0lost 1048576 _ (Ha0notes.out.ext (by repeat' (first | with_reducible exact Below.refl _ _ | with_reducible assumption | with_reducible refine Below.alloc ?_ ?_ _ | with_reducible refine Below.setCell ?_ ?_ _ | with_reducible refine Below.drew ?_ | with_reducible refine Below.drewN ?_ _ | with_reducible refine Below.ext ?_ (by assumption) | (simp <;> omega) | omega))) (by omega) (by omega) Hgs0notes.out).mono ?_
  rintro e w1 ⟨left1, rfl, hz1, hb1⟩
  obtain ⟨hc1, hf1⟩ := bcell hb1
  have hs1_0 : w.heap.size < w1.heap.size := by (have hss := hb1.size; first | omega | (simp at hss <;> omega))
  have hs1_1 : w.heap.size + 1 < w1.heap.size := by (have hss := hb1.size; first | omega | (simp at hss <;> omega))
  rcases hz1 with hz1 | ⟨hz10, hz1⟩
  · go_wp2_with fail
    go_ret
    exact ⟨rfl, by repeat' (first | with_reducible exact Below.refl _ _ | with_reducible assumption | with_reducible refine Below.alloc ?_ ?_ _ | with_reducible refine Below.setCell ?_ ?_ _ | with_reducible refine Below.drew ?_ | with_reducible refine Below.drewN ?_ _ | with_reducible refine Below.ext ?_ (by assumption) | (simp <;> omega) | omega)⟩
  have hlt1 : left1 ≤ 1048576 := by omega
  have hla0notes : a0notes.length ≤ 1048576 := by (have := DNote.len_le a0notes; omega)
  clear hz1
  go_wp2_with fail
  refine (szQueue_any a1notes _ _ a1resync a1lost left1 _ (Ha1notes.out.ext (by repeat' (first | with_reducible exact Below.refl _ _ | with_reducible assumption | with_reducible refine Below.alloc ?_ ?_ _ | with_reducible refine Below.setCell ?_ ?_ _ | with_reducible refine Below.drew ?_ | with_reducible refine Below.drewN ?_ _ | with_reducible refine Below.ext ?_ (by assumption) | (simp <;> omega) | omega))) (by omega) (by omega) Hgs1notes.out).mono ?_
  rintro e w2 ⟨left2, rfl, hz2, hb2⟩
  obtain ⟨hc2, hf2⟩ := bcell hb2
  have hs2_0 : w.heap.size < w2.heap.size := by (have hss := hb2.size; first | omega | (simp at hss <;> omega))
  have hs2_1 : w.heap.size + 1 < w2.heap.size := by (have hss := hb2.size; first | omega | (simp at hss <;> omega))
  rcases hz2 with hz2 | ⟨hz20, hz2⟩
  · go_wp2_with fail
    go_ret
    exact ⟨rfl, by repeat' (first | with_reducible exact Below.refl _ _ | with_reducible assumption | with_reducible refine Below.alloc ?_ ?_ _ | with_reducible refine Below.setCell ?_ ?_ _ | with_reducible refine Below.drew ?_ | with_reducible refine Below.drewN ?_ _ | with_reducible refine Below.ext ?_ (by assumption) | (simp <;> omega) | omega)⟩
  have hlt2 : left2 ≤ 1048576 := by omega
  have hla1notes : a1notes.length ≤ 1048576 := by (have := DNote.len_le a1notes; omega)
  clear hz2
  go_wp2_with fail
  go_region_held3 (fun w' => Below w2.heap.size w2 w' ∧ (∀ b o, b < w2.heap.size → w'.cell? ⟨b, o, none⟩ = w2.cell? ⟨b, o, none⟩)) (first | exact sBeg _ | exact sExt (by assumption) (by assumption)) ((first | (go_at_call_of 25 (a0notes); refine (toQueue_any a0notes _ _ a0resync a0lost _ (Ha0notes.out.ext (by repeat' (first | with_reducible exact Below.refl _ _ | with_reducible assumption | with_reducible refine Below.alloc ?_ ?_ _ | with_reducible refine Below.setCell ?_ ?_ _ | with_reducible refine Below.drew ?_ | with_reducible refine Below.drewN ?_ _ | with_reducible refine Below.ext ?_ (by assumption) | (simp <;> omega) | omega))) hla0notes).mono ?_; rintro e w3 ⟨gx3, rfl, hown, hb3⟩; have HX3 := Lib.hid hown; clear hown) | (go_at_call_of 25 (a1notes); refine (toQueue_any a1notes _ _ a1resync a1lost _ (Ha1notes.out.ext (by repeat' (first | with_reducible exact Below.refl _ _ | with_reducible assumption | with_reducible refine Below.alloc ?_ ?_ _ | with_reducible refine Below.setCell ?_ ?_ _ | with_reducible refine Below.drew ?_ | with_reducible refine Below.drewN ?_ _ | with_reducible refine Below.ext ?_ (by assumption) | (simp <;> omega) | omega))) hla1notes).mono ?_; rintro e w4 ⟨gx4, rfl, hown, hb4⟩; have HX4 := Lib.hid hown; clear hown) | (go_at_call_of 33 (a0notes); refine (specSameQueue_any a0notes _ _ a0resync a0lost a1notes _ _ a1resync a1lost _ ((Rd.of_own HX3.out).ext (by repeat' (first | with_reducible exact Below.refl _ _ | with_reducible assumption | with_reducible refine Below.alloc ?_ ?_ _ | with_reducible refine Below.setCell ?_ ?_ _ | with_reducible refine Below.drew ?_ | with_reducible refine Below.drewN ?_ _ | with_reducible refine Below.ext ?_ (by assumption) | (simp <;> omega) | omega))) ((Rd.of_own HX4.out).ext (by repeat' (first | with_reducible exact Below.refl _ _ | with_reducible assumption | with_reducible refine Below.alloc ?_ ?_ _ | with_reducible refine Below.setCell ?_ ?_ _ | with_reducible refine Below.drew ?_ | with_reducible refine Below.drewN ?_ _ | with_reducible refine Below.ext ?_ (by assumption) | (simp <;> omega) | omega)))  r Hr).mono ?_; rintro e w5 ⟨rfl, hb5⟩)))
  have hbq5 : Ext w2 w5 := Below.ext (Below.ext (Below.ext ((Below.refl _ _).drew) hb3) hb4) hb5
  obtain ⟨hc5, hf5⟩ := bcell hbq5
  have hs5_0 : w.heap.size < w5.heap.size := by (have hss := hbq5.size; first | omega | (simp at hss <;> omega))
  have hs5_1 : w.heap.size + 1 < w5.heap.size := by (have hss := hbq5.size; first | omega | (simp at hss <;> omega))
  go_wp2_with fail
  refine (toQueue_any a0notes _ _ a0resync a0lost _ (Ha0notes.out.ext (by repeat' (first | with_reducible exact Below.refl _ _ | with_reducible assumption | with_reducible refine Below.alloc ?_ ?_ _ | with_reducible refine Below.setCell ?_ ?_ _ | with_reducible refine Below.drew ?_ | with_reducible refine Below.drewN ?_ _ | with_reducible refine Below.ext ?_ (by assumption) | (simp <;> omega) | omega))) hla0notes).mono ?_
  rintro e w6 ⟨gx6, rfl, hown, hb6⟩
  have HX6 := Lib.hid hown; clear hown
  obtain ⟨hc6, hf6⟩ := bcell hb6
  have hs6_0 : w.heap.size < w6.heap.size := by (have hss := hb6.size; first | omega | (simp at hss <;> omega))
  have hs6_1 : w.heap.size + 1 < w6.heap.size := by (have hss := hb6.size; first | omega | (simp at hss <;> omega))
  go_wp2_with fail
  refine (toQueue_any a1notes _ _ a1resync a1lost _ (Ha1notes.out.ext (by repeat' (first | with_reducible exact Below.refl _ _ | with_reducible assumption | with_reducible refine Below.alloc ?_ ?_ _ | with_reducible refine Below.setCell ?_ ?_ _ | with_reducible refine Below.drew ?_ | with_reducible refine Below.drewN ?_ _ | with_reducible refine Below.ext ?_ (by assumption) | (simp <;> omega) | omega))) hla1notes).mono ?_
  rintro e w7 ⟨gx7, rfl, hown, hb7⟩
  have HX7 := Lib.hid hown; clear hown
  obtain ⟨hc7, hf7⟩ := bcell hb7
  have hs7_0 : w.heap.size < w7.heap.size := by (have hss := hb7.size; first | omega | (simp at hss <;> omega))
  have hs7_1 : w.heap.size + 1 < w7.heap.size := by (have hss := hb7.size; first | omega | (simp at hss <;> omega))
  have hs7_2 : w6.heap.size < w7.heap.size := by (have hss := hb7.size; first | omega | (simp at hss <;> omega))
  go_wp2_with fail
  refine (implSameQueue_any a0notes _ _ a0resync a0lost a1notes _ _ a1resync a1lost _ ((Rd.of_own HX6.out).ext (by repeat' (first | with_reducible exact Below.refl _ _ | with_reducible assumption | with_reducible refine Below.alloc ?_ ?_ _ | with_reducible refine Below.setCell ?_ ?_ _ | with_reducible refine Below.drew ?_ | with_reducible refine Below.drewN ?_ _ | with_reducible refine Below.ext ?_ (by assumption) | (simp <;> omega) | omega))) ((Rd.of_own HX7.out).ext (by repeat' (first | with_reducible exact Below.refl _ _ | with_reducible assumption | with_reducible refine Below.alloc ?_ ?_ _ | with_reducible refine Below.setCell ?_ ?_ _ | with_reducible refine Below.drew ?_ | with_reducible refine Below.drewN ?_ _ | with_reducible refine Below.ext ?_ (by assumption) | (simp <;> omega) | omega)))  r Hr).mono ?_
  rintro e w8 ⟨rfl, hb8⟩
  obtain ⟨hc8, hf8⟩ := bcell hb8
  have hs8_0 : w.heap.size < w8.heap.size := by (have hss := hb8.size; first | omega | (simp at hss <;> omega))
  have hs8_1 : w.heap.size + 1 < w8.heap.size := by (have hss := hb8.size; first | omega | (simp at hss <;> omega))
  have hs8_2 : w6.heap.size < w8.heap.size := by (have hss := hb8.size; first | omega | (simp at hss <;> omega))
  have hs8_3 : w7.heap.size < w8.heap.size := by (have hss := hb8.size; first | omega | (simp at hss <;> omega))
  go_wp2_with fail
  go_region_held3 (fun w' => Below w8.heap.size w8 w' ∧ (∀ b o, b < w8.heap.size → w'.cell? ⟨b, o, none⟩ = w8.cell? ⟨b, o, none⟩)) (first | exact sBeg _ | exact sExt (by assumption) (by assumption)) ((first | (go_at_call_of 25 (a0notes); refine (toQueue_any a0notes _ _ a0resync a0lost _ (Ha0notes.out.ext (by repeat' (first | with_reducible exact Below.refl _ _ | with_reducible assumption | with_reducible refine Below.alloc ?_ ?_ _ | with_reducible refine Below.setCell ?_ ?_ _ | with_reducible refine Below.drew ?_ | with_reducible refine Below.drewN ?_ _ | with_reducible refine Below.ext ?_ (by assumption) | (simp <;> omega) | omega))) hla0notes).mono ?_; rintro e w9 ⟨gx9, rfl, hown, hb9⟩; have HX9 := Lib.hid hown; clear hown) | (go_at_call_of 27 (a0notes); refine (eqQueue_any a0notes _ _ a0resync a0lost a0notes _ _ a0resync a0lost _ ((Rd.of_own HX6.out).ext (by repeat' (first | with_reducible exact Below.refl _ _ | with_reducible assumption | with_reducible refine Below.alloc ?_ ?_ _ | with_reducible refine Below.setCell ?_ ?_ _ | with_reducible refine Below.drew ?_ | with_reducible refine Below.drewN ?_ _ | with_reducible refine Below.ext ?_ (by assumption) | (simp <;> omega) | omega))) ((Rd.of_own HX9.out).ext (by repeat' (first | with_reducible exact Below.refl _ _ | with_reducible assumption | with_reducible refine Below.alloc ?_ ?_ _ | with_reducible refine Below.setCell ?_ ?_ _ | with_reducible refine Below.drew ?_ | with_reducible refine Below.drewN ?_ _ | with_reducible refine Below.ext ?_ (by assumption) | (simp <;> omega) | omega))) true (by simp [Hid])).mono ?_; rintro e w10 ⟨rfl, hb10⟩)))
  have hbq10 : Ext w8 w10 := Below.ext (Below.ext ((Below.refl _ _).drew) hb9) hb10
  obtain ⟨hc10, hf10⟩ := bcell hbq10
  have hs10_0 : w.heap.size < w10.heap.size := by (have hss := hbq10.size; first | omega | (simp at hss <;> omega))
  have hs10_1 : w.heap.size + 1 < w10.heap.size := by (have hss := hbq10.size; first | omega | (simp at hss <;> omega))
  have hs10_2 : w6.heap.size < w10.heap.size := by (have hss := hbq10.size; first | omega | (simp at hss <;> omega))
  have hs10_3 : w7.heap.size < w10.heap.size := by (have hss := hbq10.size; first | omega | (simp at hss <;> omega))
  go_wp2_with fail
  go_region_held3 (fun w' => Below w10.heap.size w10 w' ∧ (∀ b o, b < w10.heap.size → w'.cell? ⟨b, o, none⟩ = w10.cell? ⟨b, o, none⟩)) (first | exact sBeg _ | exact sExt (by assumption) (by assumption)) ((first | (go_at_call_of 25 (a1notes); refine (toQueue_any a1notes _ _ a1resync a1lost _ (Ha1notes.out.ext (by repeat' (first | with_reducible exact Below.refl _ _ | with_reducible assumption | with_reducible refine Below.alloc ?_ ?_ _ | with_reducible refine Below.setCell ?_ ?_ _ | with_reducible refine Below.drew ?_ | with_reducible refine Below.drewN ?_ _ | with_reducible refine Below.ext ?_ (by assumption) | (simp <;> omega) | omega))) hla1notes).mono ?_; rintro e w11 ⟨gx11, rfl, hown, hb11⟩; have HX11 := Lib.hid hown; clear hown) | (go_at_call_of 27 (a1notes); refine (eqQueue_any a1notes _ _ a1resync a1lost a1notes _ _ a1resync a1lost _ ((Rd.of_own HX7.out).ext (by repeat' (first | with_reducible exact Below.refl _ _ | with_reducible assumption | with_reducible refine Below.alloc ?_ ?_ _ | with_reducible refine Below.setCell ?_ ?_ _ | with_reducible refine Below.drew ?_ | with_reducible refine Below.drewN ?_ _ | with_reducible refine Below.ext ?_ (by assumption) | (simp <;> omega) | omega))) ((Rd.of_own HX11.out).ext (by repeat' (first | with_reducible exact Below.refl _ _ | with_reducible assumption | with_reducible refine Below.alloc ?_ ?_ _ | with_reducible refine Below.setCell ?_ ?_ _ | with_reducible refine Below.drew ?_ | with_reducible refine Below.drewN ?_ _ | with_reducible refine Below.ext ?_ (by assumption) | (simp <;> omega) | omega))) true (by simp [Hid])).mono ?_; rintro e w12 ⟨rfl, hb12⟩)))
  have hbq12 : Ext w10 w12 := Below.ext (Below.ext ((Below.refl _ _).drew) hb11) hb12
  obtain ⟨hc12, hf12⟩ := bcell hbq12
  have hs12_0 : w.heap.size < w12.heap.size := by (have hss := hbq12.size; first | omega | (simp at hss <;> omega))
  have hs12_1 : w.heap.size + 1 < w12.heap.size := by (have hss := hbq12.size; first | omega | (simp at hss <;> omega))
  have hs12_2 : w6.heap.size < w12.heap.size := by (have hss := hbq12.size; first | omega | (simp at hss <;> omega))
  have hs12_3 : w7.heap.size < w12.heap.size := by (have hss := hbq12.size; first | omega | (simp at hss <;> omega))
  go_wp2_with fail
  go_ret
  exact ⟨rfl, by repeat' (first | with_reducible exact Below.refl _ _ | with_reducible assumption | with_reducible refine Below.alloc ?_ ?_ _ | with_reducible refine Below.setCell ?_ ?_ _ | with_reducible refine Below.drew ?_ | with_reducible refine Below.drewN ?_ _ | with_reducible refine Below.ext ?_ (by assumption) | (simp <;> omega) | omega)⟩

end Go.Proofs.Ythhabohbbdcfcaa
