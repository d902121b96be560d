/-
  The law FnExactDropNote: its walk, out of the contracts of what it calls.
-/
import Derived.Test.YteciccchpenbmaaWDropNote
import Derived.Test.YteciccchpenbmaaFamQueue
import Derived.Test.YteciccchpenbmaaMarkQueue
import Derived.Test.YteciccchpenbmaaOwn2
namespace Go.Proofs.Yteciccchpenbmaa
open Go.RowKit
set_option linter.unusedVariables false
set_option linter.unusedSimpArgs false

set_option maxHeartbeats 8000000 in
theorem fnExactDropNote_walk (a0notes : List DNote) (a0notesA : Option Addr) (a0notesC : Nat) (a0resync : Bool) (a0lost : Bool) (x1 : Int) (w : World) : (Rd w a0notesA a0notesC 4 a0notes.length (a0notes.flatMap DNote.cells)) → (∀ y ∈ a0notes, y.name.size ≤ 9223372036854775807) → ((Lit.int .i64 x1).wf = true) →
    Calls Try.prog 7 #[.agg #[.slice a0notesA a0notes.length a0notesC, .bool a0resync, .bool a0lost], .int .i64 x1] w fun e w' => e = .returned (.bool true) ∧ Below w.heap.size w w' := by
  intro a0notesR gs0notes wf1
  obtain ⟨rnotes, hrnotes⟩ : ∃ r, dropN a0notes x1 = r := ⟨_, rfl⟩
  have Hrnotes := Lib.hid hrnotes
  clear hrnotes
  obtain ⟨rresync, hrresync⟩ : ∃ r, a0resync = r := ⟨_, rfl⟩
  have Hrresync := Lib.hid hrresync
  clear hrresync
  obtain ⟨rlost, hrlost⟩ : ∃ r, a0lost = r := ⟨_, rfl⟩
  have Hrlost := Lib.hid hrlost
  clear hrlost
  have Ha0notes := Lib.hid a0notesR
  clear a0notesR
  have Hgs0notes := Lib.hid gs0notes
  clear gs0notes
  go_enter Try.func7, Try.ntmps7
  go_wp2_with fail
  refine (szQueue_any a0notes _ _ a0resync a0lost 1048576 _ (Ha0notes.out.ext (by repeat' (first | with_reducible exact Below.refl _ _ | with_reducible assumption | with_reducible refine Below.alloc ?_ ?_ _ | with_reducible refine Below.setCell ?_ ?_ _ | with_reducible refine Below.drew ?_ | with_reducible refine Below.drewN ?_ _ | with_reducible refine Below.ext ?_ (by assumption) | (simp <;> omega) | omega))) (by omega) (by omega) Hgs0notes.out).mono ?_
  rintro e w1 ⟨left1, rfl, hz1, hb1⟩
  obtain ⟨hc1, hf1⟩ := bcell hb1
  have hs1_0 : w.heap.size < w1.heap.size := by (have hss := hb1.size; first | omega | (simp at hss <;> omega))
  rcases hz1 with hz1 | ⟨hz10, hz1⟩
  · go_wp2_with fail
    go_ret
    exact ⟨rfl, by repeat' (first | with_reducible exact Below.refl _ _ | with_reducible assumption | with_reducible refine Below.alloc ?_ ?_ _ | with_reducible refine Below.setCell ?_ ?_ _ | with_reducible refine Below.drew ?_ | with_reducible refine Below.drewN ?_ _ | with_reducible refine Below.ext ?_ (by assumption) | (simp <;> omega) | omega)⟩
  have hlt1 : left1 ≤ 1048576 := by omega
  have hla0notes : a0notes.length ≤ 1048576 := by (have := DNote.len_le a0notes; omega)
  clear hz1
  have hlr : rnotes.length ≤ 1048576 := by (rw [← Hrnotes.out]; exact Nat.le_trans (dropN_len _ _) hla0notes)
  go_wp2_with fail
  refine (toQueue_any a0notes _ _ a0resync a0lost _ (Ha0notes.out.ext (by repeat' (first | with_reducible exact Below.refl _ _ | with_reducible assumption | with_reducible refine Below.alloc ?_ ?_ _ | with_reducible refine Below.setCell ?_ ?_ _ | with_reducible refine Below.drew ?_ | with_reducible refine Below.drewN ?_ _ | with_reducible refine Below.ext ?_ (by assumption) | (simp <;> omega) | omega))) hla0notes).mono ?_
  rintro e w2 ⟨gx2, rfl, hown, hb2⟩
  have HX2 := Lib.hid (Own.of_row hown); clear hown
  obtain ⟨hc2, hf2⟩ := bcell hb2
  have hm2 : w1.heap.size ≤ w2.heap.size := by (have hss := hb2.size; first | omega | (simp at hss <;> omega))
  have hs2_0 : w.heap.size < w2.heap.size := by (have hss := hb2.size; first | omega | (simp at hss <;> omega))
  go_wp2_with fail
  refine (specDropNote_any a0notes _ _ a0resync a0lost x1 _ ((Rd.of_Own HX2.out).ext (by repeat' (first | with_reducible exact Below.refl _ _ | with_reducible assumption | with_reducible refine Below.alloc ?_ ?_ _ | with_reducible refine Below.setCell ?_ ?_ _ | with_reducible refine Below.drew ?_ | with_reducible refine Below.drewN ?_ _ | with_reducible refine Below.ext ?_ (by assumption) | (simp <;> omega) | omega))) hla0notes  rnotes Hrnotes rresync Hrresync rlost Hrlost).mono ?_
  rintro e w3 ⟨ga3, qa3, rfl, hown, hb3⟩
  have HX3 := Lib.hid hown; clear hown
  obtain ⟨hc3, hf3⟩ := bcell hb3
  have hm3 : w2.heap.size ≤ w3.heap.size := by (have hss := hb3.size; first | omega | (simp at hss <;> omega))
  have hs3_0 : w.heap.size < w3.heap.size := by (have hss := hb3.size; first | omega | (simp at hss <;> omega))
  go_wp2_with fail
  refine (toQueue_any a0notes _ _ a0resync a0lost _ (Ha0notes.out.ext (by repeat' (first | with_reducible exact Below.refl _ _ | with_reducible assumption | with_reducible refine Below.alloc ?_ ?_ _ | with_reducible refine Below.setCell ?_ ?_ _ | with_reducible refine Below.drew ?_ | with_reducible refine Below.drewN ?_ _ | with_reducible refine Below.ext ?_ (by assumption) | (simp <;> omega) | omega))) hla0notes).mono ?_
  rintro e w4 ⟨gx4, rfl, hown, hb4⟩
  have HX4 := Lib.hid (Own.of_row hown); clear hown
  obtain ⟨hc4, hf4⟩ := bcell hb4
  have hm4 : w3.heap.size ≤ w4.heap.size := by (have hss := hb4.size; first | omega | (simp at hss <;> omega))
  have hs4_0 : w.heap.size < w4.heap.size := by (have hss := hb4.size; first | omega | (simp at hss <;> omega))
  have hs4_1 : w3.heap.size < w4.heap.size := by (have hss := hb4.size; first | omega | (simp at hss <;> omega))
  go_wp2_with fail
  refine (implDropNote_any a0notes _ _ a0resync a0lost x1 _ ((Rd.of_Own HX4.out).ext (by repeat' (first | with_reducible exact Below.refl _ _ | with_reducible assumption | with_reducible refine Below.alloc ?_ ?_ _ | with_reducible refine Below.setCell ?_ ?_ _ | with_reducible refine Below.drew ?_ | with_reducible refine Below.drewN ?_ _ | with_reducible refine Below.ext ?_ (by assumption) | (simp <;> omega) | omega))) hla0notes  rnotes Hrnotes rresync Hrresync rlost Hrlost).mono ?_
  rintro e w5 ⟨ga5, qa5, rfl, hown, hb5⟩
  have HX5 := Lib.hid hown; clear hown
  obtain ⟨hc5, hf5⟩ := bcell hb5
  have hm5 : w4.heap.size ≤ w5.heap.size := by (have hss := hb5.size; first | omega | (simp at hss <;> omega))
  have hs5_0 : w.heap.size < w5.heap.size := by (have hss := hb5.size; first | omega | (simp at hss <;> omega))
  have hs5_1 : w3.heap.size < w5.heap.size := by (have hss := hb5.size; first | omega | (simp at hss <;> omega))
  have hs5_2 : w4.heap.size < w5.heap.size := by (have hss := hb5.size; first | omega | (simp at hss <;> omega))
  go_wp2_with fail
  refine (eqQueue_any rnotes _ _ rresync rlost rnotes _ _ rresync rlost _ ((Rd.of_Own HX5.out).ext (by repeat' (first | with_reducible exact Below.refl _ _ | with_reducible assumption | with_reducible refine Below.alloc ?_ ?_ _ | with_reducible refine Below.setCell ?_ ?_ _ | with_reducible refine Below.drew ?_ | with_reducible refine Below.drewN ?_ _ | with_reducible refine Below.ext ?_ (by assumption) | (simp <;> omega) | omega))) ((Rd.of_Own HX3.out).ext (by repeat' (first | with_reducible exact Below.refl _ _ | with_reducible assumption | with_reducible refine Below.alloc ?_ ?_ _ | with_reducible refine Below.setCell ?_ ?_ _ | with_reducible refine Below.drew ?_ | with_reducible refine Below.drewN ?_ _ | with_reducible refine Below.ext ?_ (by assumption) | (simp <;> omega) | omega))) true (by simp [Hid])).mono ?_
  rintro e w6 ⟨rfl, hb6⟩
  obtain ⟨hc6, hf6⟩ := bcell hb6
  have hm6 : w5.heap.size ≤ w6.heap.size := by (have hss := hb6.size; first | omega | (simp at hss <;> omega))
  have hs6_0 : w.heap.size < w6.heap.size := by (have hss := hb6.size; first | omega | (simp at hss <;> omega))
  have hs6_1 : w3.heap.size < w6.heap.size := by (have hss := hb6.size; first | omega | (simp at hss <;> omega))
  have hs6_2 : w4.heap.size < w6.heap.size := by (have hss := hb6.size; first | omega | (simp at hss <;> omega))
  have hs6_3 : w5.heap.size < w6.heap.size := by (have hss := hb6.size; first | omega | (simp at hss <;> omega))
  go_wp2_with fail
  go_region_held3 (fun w' => Below w6.heap.size w6 w' ∧ (∀ b o, b < w6.heap.size → w'.cell? ⟨b, o, none⟩ = w6.cell? ⟨b, o, none⟩)) (first | exact sBeg _ | exact sExt (by assumption) (by assumption)) ((first | (go_at_call_of 42 (a0notes); refine (toQueue_any a0notes _ _ a0resync a0lost _ (Ha0notes.out.ext (by repeat' (first | with_reducible exact Below.refl _ _ | with_reducible assumption | with_reducible refine Below.alloc ?_ ?_ _ | with_reducible refine Below.setCell ?_ ?_ _ | with_reducible refine Below.drew ?_ | with_reducible refine Below.drewN ?_ _ | with_reducible refine Below.ext ?_ (by assumption) | (simp <;> omega) | omega))) hla0notes).mono ?_; rintro e w7 ⟨gx7, rfl, hown, hb7⟩; have HX7 := Lib.hid (Own.of_row hown); clear hown) | (go_at_call_of 44 (a0notes); refine (eqQueue_any a0notes _ _ a0resync a0lost a0notes _ _ a0resync a0lost _ ((Rd.of_Own HX4.out).ext (by repeat' (first | with_reducible exact Below.refl _ _ | with_reducible assumption | with_reducible refine Below.alloc ?_ ?_ _ | with_reducible refine Below.setCell ?_ ?_ _ | with_reducible refine Below.drew ?_ | with_reducible refine Below.drewN ?_ _ | with_reducible refine Below.ext ?_ (by assumption) | (simp <;> omega) | omega))) ((Rd.of_Own HX7.out).ext (by repeat' (first | with_reducible exact Below.refl _ _ | with_reducible assumption | with_reducible refine Below.alloc ?_ ?_ _ | with_reducible refine Below.setCell ?_ ?_ _ | with_reducible refine Below.drew ?_ | with_reducible refine Below.drewN ?_ _ | with_reducible refine Below.ext ?_ (by assumption) | (simp <;> omega) | omega))) true (by simp [Hid])).mono ?_; rintro e w8 ⟨rfl, hb8⟩)))
  have hbq8 : Ext w6 w8 := Below.ext (Below.ext ((Below.refl _ _).drew) hb7) hb8
  obtain ⟨hc8, hf8⟩ := bcell hbq8
  have hm8 : w6.heap.size ≤ w8.heap.size := by (have hss := hbq8.size; first | omega | (simp at hss <;> omega))
  have hs8_0 : w.heap.size < w8.heap.size := by (have hss := hbq8.size; first | omega | (simp at hss <;> omega))
  have hs8_1 : w3.heap.size < w8.heap.size := by (have hss := hbq8.size; first | omega | (simp at hss <;> omega))
  have hs8_2 : w4.heap.size < w8.heap.size := by (have hss := hbq8.size; first | omega | (simp at hss <;> omega))
  have hs8_3 : w5.heap.size < w8.heap.size := by (have hss := hbq8.size; first | omega | (simp at hss <;> omega))
  go_wp2_with fail
  refine (markQueue_any a0notes _ _ a0resync a0lost _ (1) _ (HX4.out.ext (by repeat' (first | with_reducible exact Below.refl _ _ | with_reducible assumption | with_reducible refine Below.alloc ?_ ?_ _ | with_reducible refine Below.setCell ?_ ?_ _ | with_reducible refine Below.drew ?_ | with_reducible refine Below.drewN ?_ _ | with_reducible refine Below.ext ?_ (by assumption) | (simp <;> omega) | omega))) (by omega) (by omega) hla0notes).mono ?_
  rintro e w9 ⟨rfl, hown, hg9⟩
  have HM9 := Lib.hid hown
  clear hown
  have hroot9 : Below w.heap.size w w9 := below_foot (show Below w.heap.size w w8 from by repeat' (first | with_reducible exact Below.refl _ _ | with_reducible assumption | with_reducible refine Below.alloc ?_ ?_ _ | with_reducible refine Below.setCell ?_ ?_ _ | with_reducible refine Below.drew ?_ | with_reducible refine Below.drewN ?_ _ | with_reducible refine Below.ext ?_ (by assumption) | (simp <;> omega) | omega)) (HX4.out.ext (by repeat' (first | with_reducible exact Below.refl _ _ | with_reducible assumption | with_reducible refine Below.alloc ?_ ?_ _ | with_reducible refine Below.setCell ?_ ?_ _ | with_reducible refine Below.drew ?_ | with_reducible refine Below.drewN ?_ _ | with_reducible refine Below.ext ?_ (by assumption) | (simp <;> omega) | omega))) (by (first | omega | (simp <;> omega))) (by (first | omega | (simp <;> omega))) hg9
  obtain ⟨hc9, hf9⟩ := grown_foff hg9
  have hm9 : w8.heap.size ≤ w9.heap.size := hg9.size
  have hs9_0 : w.heap.size < w9.heap.size := by omega
  have hn9_0 : FOff (w.heap.size) _ := FOff.lt HX4.out (by (first | omega | (simp <;> omega)))
  have hs9_1 : w3.heap.size < w9.heap.size := by omega
  have hn9_1 : FOff (w3.heap.size) _ := FOff.lt HX4.out (by (first | omega | (simp <;> omega)))
  have hs9_2 : w4.heap.size < w9.heap.size := by omega
  have hn9_2 : FOff (w4.heap.size) _ := FOff.ge HX4.out (by (first | omega | (simp <;> omega)))
  have hs9_3 : w5.heap.size < w9.heap.size := by omega
  have hn9_3 : FOff (w5.heap.size) _ := FOff.ge HX4.out (by (first | omega | (simp <;> omega)))
  have HR9_5 := Lib.hid (Own.off (HX5.out.ext (by repeat' (first | with_reducible exact Below.refl _ _ | with_reducible assumption | with_reducible refine Below.alloc ?_ ?_ _ | with_reducible refine Below.setCell ?_ ?_ _ | with_reducible refine Below.drew ?_ | with_reducible refine Below.drewN ?_ _ | with_reducible refine Below.ext ?_ (by assumption) | (simp <;> omega) | omega))) hg9 ((Off2.of HX4.out HX5.out (by (first | omega | (simp <;> omega)))).symm))
  have HR9_3 := Lib.hid (Own.off (HX3.out.ext (by repeat' (first | with_reducible exact Below.refl _ _ | with_reducible assumption | with_reducible refine Below.alloc ?_ ?_ _ | with_reducible refine Below.setCell ?_ ?_ _ | with_reducible refine Below.drew ?_ | with_reducible refine Below.drewN ?_ _ | with_reducible refine Below.ext ?_ (by assumption) | (simp <;> omega) | omega))) hg9 (Off2.of HX3.out HX4.out (by (first | omega | (simp <;> omega)))))
  clear hg9
  go_wp2_with fail
  refine (eqQueue_any rnotes _ _ rresync rlost rnotes _ _ rresync rlost _ ((Rd.of_Own HR9_5.out).ext (by repeat' (first | with_reducible exact Below.refl _ _ | with_reducible assumption | with_reducible refine Below.alloc ?_ ?_ _ | with_reducible refine Below.setCell ?_ ?_ _ | with_reducible refine Below.drew ?_ | with_reducible refine Below.drewN ?_ _ | with_reducible refine Below.ext ?_ (by assumption) | (simp <;> omega) | omega))) ((Rd.of_Own HR9_3.out).ext (by repeat' (first | with_reducible exact Below.refl _ _ | with_reducible assumption | with_reducible refine Below.alloc ?_ ?_ _ | with_reducible refine Below.setCell ?_ ?_ _ | with_reducible refine Below.drew ?_ | with_reducible refine Below.drewN ?_ _ | with_reducible refine Below.ext ?_ (by assumption) | (simp <;> omega) | omega))) true (by simp [Hid])).mono ?_
  rintro e w10 ⟨rfl, hb10⟩
  obtain ⟨hc10, hf10⟩ := bcell hb10
  have hm10 : w9.heap.size ≤ w10.heap.size := by (have hss := hb10.size; first | omega | (simp at hss <;> omega))
  have hs10_0 : w.heap.size < w10.heap.size := by (have hss := hb10.size; first | omega | (simp at hss <;> omega))
  have hs10_1 : w3.heap.size < w10.heap.size := by (have hss := hb10.size; first | omega | (simp at hss <;> omega))
  have hs10_2 : w4.heap.size < w10.heap.size := by (have hss := hb10.size; first | omega | (simp at hss <;> omega))
  have hs10_3 : w5.heap.size < w10.heap.size := by (have hss := hb10.size; first | omega | (simp at hss <;> omega))
  go_wp2_with fail
  refine (markQueue_any rnotes _ _ rresync rlost _ 1 _ (HR9_5.out.ext (by repeat' (first | with_reducible exact Below.refl _ _ | with_reducible assumption | with_reducible refine Below.alloc ?_ ?_ _ | with_reducible refine Below.setCell ?_ ?_ _ | with_reducible refine Below.drew ?_ | with_reducible refine Below.drewN ?_ _ | with_reducible refine Below.ext ?_ (by assumption) | (simp <;> omega) | omega))) (by omega) (by omega) hlr).mono ?_
  rintro e w11 ⟨rfl, hown, hg11⟩
  have HM11 := Lib.hid hown
  clear hown
  have hroot11 : Below w.heap.size w w11 := below_foot (show Below w.heap.size w w10 from by repeat' (first | with_reducible exact Below.refl _ _ | with_reducible assumption | with_reducible refine Below.alloc ?_ ?_ _ | with_reducible refine Below.setCell ?_ ?_ _ | with_reducible refine Below.drew ?_ | with_reducible refine Below.drewN ?_ _ | with_reducible refine Below.ext ?_ (by assumption) | (simp <;> omega) | omega)) (HR9_5.out.ext (by repeat' (first | with_reducible exact Below.refl _ _ | with_reducible assumption | with_reducible refine Below.alloc ?_ ?_ _ | with_reducible refine Below.setCell ?_ ?_ _ | with_reducible refine Below.drew ?_ | with_reducible refine Below.drewN ?_ _ | with_reducible refine Below.ext ?_ (by assumption) | (simp <;> omega) | omega))) (by (first | omega | (simp <;> omega))) (by (first | omega | (simp <;> omega))) hg11
  obtain ⟨hc11, hf11⟩ := grown_foff hg11
  have hm11 : w10.heap.size ≤ w11.heap.size := hg11.size
  have hs11_0 : w.heap.size < w11.heap.size := by omega
  have hn11_0 : FOff (w.heap.size) _ := FOff.lt HX5.out (by (first | omega | (simp <;> omega)))
  have hs11_1 : w3.heap.size < w11.heap.size := by omega
  have hn11_1 : FOff (w3.heap.size) _ := FOff.lt HX5.out (by (first | omega | (simp <;> omega)))
  have hs11_2 : w4.heap.size < w11.heap.size := by omega
  have hn11_2 : FOff (w4.heap.size) _ := FOff.lt HX5.out (by (first | omega | (simp <;> omega)))
  have hs11_3 : w5.heap.size < w11.heap.size := by omega
  have hn11_3 : FOff (w5.heap.size) _ := FOff.ge HX5.out (by (first | omega | (simp <;> omega)))
  have HR11_3 := Lib.hid (Own.off (HR9_3.out.ext (by repeat' (first | with_reducible exact Below.refl _ _ | with_reducible assumption | with_reducible refine Below.alloc ?_ ?_ _ | with_reducible refine Below.setCell ?_ ?_ _ | with_reducible refine Below.drew ?_ | with_reducible refine Below.drewN ?_ _ | with_reducible refine Below.ext ?_ (by assumption) | (simp <;> omega) | omega))) hg11 (Off2.of HX3.out HX5.out (by (first | omega | (simp <;> omega)))))
  clear hg11
  go_wp2_with fail
  refine (heldQueue_any rnotes.length rresync rlost _ _ 1 _ ((Rd.of_Own HM11.out).ext (by repeat' (first | with_reducible exact Below.refl _ _ | with_reducible assumption | with_reducible refine Below.alloc ?_ ?_ _ | with_reducible refine Below.setCell ?_ ?_ _ | with_reducible refine Below.drew ?_ | with_reducible refine Below.drewN ?_ _ | with_reducible refine Below.ext ?_ (by assumption) | (simp <;> omega) | omega))) (by omega) (by omega) hlr).mono ?_
  rintro e w12 ⟨rfl, hb12⟩
  obtain ⟨hc12, hf12⟩ := bcell hb12
  have hm12 : w11.heap.size ≤ w12.heap.size := by (have hss := hb12.size; first | omega | (simp at hss <;> omega))
  have hs12_0 : w.heap.size < w12.heap.size := by (have hss := hb12.size; first | omega | (simp at hss <;> omega))
  have hs12_1 : w3.heap.size < w12.heap.size := by (have hss := hb12.size; first | omega | (simp at hss <;> omega))
  have hs12_2 : w4.heap.size < w12.heap.size := by (have hss := hb12.size; first | omega | (simp at hss <;> omega))
  have hs12_3 : w5.heap.size < w12.heap.size := by (have hss := hb12.size; first | omega | (simp at hss <;> omega))
  go_wp2_with fail
  refine (toQueue_any a0notes _ _ a0resync a0lost _ (Ha0notes.out.ext (by repeat' (first | with_reducible exact Below.refl _ _ | with_reducible assumption | with_reducible refine Below.alloc ?_ ?_ _ | with_reducible refine Below.setCell ?_ ?_ _ | with_reducible refine Below.drew ?_ | with_reducible refine Below.drewN ?_ _ | with_reducible refine Below.ext ?_ (by assumption) | (simp <;> omega) | omega))) hla0notes).mono ?_
  rintro e w13 ⟨gx13, rfl, hown, hb13⟩
  have HX13 := Lib.hid (Own.of_row hown); clear hown
  obtain ⟨hc13, hf13⟩ := bcell hb13
  have hm13 : w12.heap.size ≤ w13.heap.size := by (have hss := hb13.size; first | omega | (simp at hss <;> omega))
  have hs13_0 : w.heap.size < w13.heap.size := by (have hss := hb13.size; first | omega | (simp at hss <;> omega))
  have hs13_1 : w3.heap.size < w13.heap.size := by (have hss := hb13.size; first | omega | (simp at hss <;> omega))
  have hs13_2 : w4.heap.size < w13.heap.size := by (have hss := hb13.size; first | omega | (simp at hss <;> omega))
  have hs13_3 : w5.heap.size < w13.heap.size := by (have hss := hb13.size; first | omega | (simp at hss <;> omega))
  go_wp2_with fail
  refine (implDropNote_any a0notes _ _ a0resync a0lost x1 _ ((Rd.of_Own HX13.out).ext (by repeat' (first | with_reducible exact Below.refl _ _ | with_reducible assumption | with_reducible refine Below.alloc ?_ ?_ _ | with_reducible refine Below.setCell ?_ ?_ _ | with_reducible refine Below.drew ?_ | with_reducible refine Below.drewN ?_ _ | with_reducible refine Below.ext ?_ (by assumption) | (simp <;> omega) | omega))) hla0notes  rnotes Hrnotes rresync Hrresync rlost Hrlost).mono ?_
  rintro e w14 ⟨ga14, qa14, rfl, hown, hb14⟩
  have HX14 := Lib.hid hown; clear hown
  obtain ⟨hc14, hf14⟩ := bcell hb14
  have hm14 : w13.heap.size ≤ w14.heap.size := by (have hss := hb14.size; first | omega | (simp at hss <;> omega))
  have hs14_0 : w.heap.size < w14.heap.size := by (have hss := hb14.size; first | omega | (simp at hss <;> omega))
  have hs14_1 : w3.heap.size < w14.heap.size := by (have hss := hb14.size; first | omega | (simp at hss <;> omega))
  have hs14_2 : w4.heap.size < w14.heap.size := by (have hss := hb14.size; first | omega | (simp at hss <;> omega))
  have hs14_3 : w5.heap.size < w14.heap.size := by (have hss := hb14.size; first | omega | (simp at hss <;> omega))
  go_wp2_with fail
  refine (eqQueue_any rnotes _ _ rresync rlost rnotes _ _ rresync rlost _ ((Rd.of_Own HX14.out).ext (by repeat' (first | with_reducible exact Below.refl _ _ | with_reducible assumption | with_reducible refine Below.alloc ?_ ?_ _ | with_reducible refine Below.setCell ?_ ?_ _ | with_reducible refine Below.drew ?_ | with_reducible refine Below.drewN ?_ _ | with_reducible refine Below.ext ?_ (by assumption) | (simp <;> omega) | omega))) ((Rd.of_Own HR11_3.out).ext (by repeat' (first | with_reducible exact Below.refl _ _ | with_reducible assumption | with_reducible refine Below.alloc ?_ ?_ _ | with_reducible refine Below.setCell ?_ ?_ _ | with_reducible refine Below.drew ?_ | with_reducible refine Below.drewN ?_ _ | with_reducible refine Below.ext ?_ (by assumption) | (simp <;> omega) | omega))) true (by simp [Hid])).mono ?_
  rintro e w15 ⟨rfl, hb15⟩
  obtain ⟨hc15, hf15⟩ := bcell hb15
  have hm15 : w14.heap.size ≤ w15.heap.size := by (have hss := hb15.size; first | omega | (simp at hss <;> omega))
  have hs15_0 : w.heap.size < w15.heap.size := by (have hss := hb15.size; first | omega | (simp at hss <;> omega))
  have hs15_1 : w3.heap.size < w15.heap.size := by (have hss := hb15.size; first | omega | (simp at hss <;> omega))
  have hs15_2 : w4.heap.size < w15.heap.size := by (have hss := hb15.size; first | omega | (simp at hss <;> omega))
  have hs15_3 : w5.heap.size < w15.heap.size := by (have hss := hb15.size; first | omega | (simp at hss <;> omega))
  have hs15_4 : w14.heap.size < w15.heap.size := by (have hss := hb15.size; first | omega | (simp at hss <;> omega))
  go_wp2_with fail
  refine (heldQueue_any rnotes.length rresync rlost _ _ 1 _ ((Rd.of_Own HM11.out).ext (by repeat' (first | with_reducible exact Below.refl _ _ | with_reducible assumption | with_reducible refine Below.alloc ?_ ?_ _ | with_reducible refine Below.setCell ?_ ?_ _ | with_reducible refine Below.drew ?_ | with_reducible refine Below.drewN ?_ _ | with_reducible refine Below.ext ?_ (by assumption) | (simp <;> omega) | omega))) (by omega) (by omega) hlr).mono ?_
  rintro e w16 ⟨rfl, hb16⟩
  obtain ⟨hc16, hf16⟩ := bcell hb16
  have hm16 : w15.heap.size ≤ w16.heap.size := by (have hss := hb16.size; first | omega | (simp at hss <;> omega))
  have hs16_0 : w.heap.size < w16.heap.size := by (have hss := hb16.size; first | omega | (simp at hss <;> omega))
  have hs16_1 : w3.heap.size < w16.heap.size := by (have hss := hb16.size; first | omega | (simp at hss <;> omega))
  have hs16_2 : w4.heap.size < w16.heap.size := by (have hss := hb16.size; first | omega | (simp at hss <;> omega))
  have hs16_3 : w5.heap.size < w16.heap.size := by (have hss := hb16.size; first | omega | (simp at hss <;> omega))
  have hs16_4 : w14.heap.size < w16.heap.size := by (have hss := hb16.size; first | omega | (simp at hss <;> omega))
  go_wp2_with fail
  go_ret
  exact ⟨rfl, by repeat' (first | with_reducible exact Below.refl _ _ | with_reducible assumption | with_reducible refine Below.alloc ?_ ?_ _ | with_reducible refine Below.setCell ?_ ?_ _ | with_reducible refine Below.drew ?_ | with_reducible refine Below.drewN ?_ _ | with_reducible refine Below.ext ?_ (by assumption) | (simp <;> omega) | omega)⟩

end Go.Proofs.Yteciccchpenbmaa
