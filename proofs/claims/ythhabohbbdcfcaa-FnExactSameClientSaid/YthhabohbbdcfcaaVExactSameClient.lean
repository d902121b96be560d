/-
  The law FnExactSameClient: its walk, out of the contracts of what it calls.
-/
import Derived.Test.YthhabohbbdcfcaaWSameClient
namespace Go.Proofs.Ythhabohbbdcfcaa
open Go.RowKit
set_option linter.unusedVariables false
set_option linter.unusedSimpArgs false

set_option maxHeartbeats 4000000 in
theorem fnExactSameClient_walk (a0active : Bool) (a0name : ByteArray) (a0validity : Int) (a0size : Int) (a0known : List DSeen) (a0knownA : Option Addr) (a0knownC : Nat) (a0bad : Bool) (a1active : Bool) (a1name : ByteArray) (a1validity : Int) (a1size : Int) (a1known : List DSeen) (a1knownA : Option Addr) (a1knownC : Nat) (a1bad : Bool) (w : World) : (Rd w a0knownA a0knownC 2 a0known.length (a0known.flatMap DSeen.cells)) → (a0name.size ≤ 9223372036854775807) → (Rd w a1knownA a1knownC 2 a1known.length (a1known.flatMap DSeen.cells)) → (a1name.size ≤ 9223372036854775807) →
    Calls Try.prog 8 #[.agg #[.bool a0active, .string a0name, .int .i64 a0validity, .int .i64 a0size, .slice a0knownA a0known.length a0knownC, .bool a0bad], .agg #[.bool a1active, .string a1name, .int .i64 a1validity, .int .i64 a1size, .slice a1knownA a1known.length a1knownC, .bool a1bad]] w fun e w' => e = .returned (.bool true) ∧ Below w.heap.size w w' := by
  intro a0knownR g0name a1knownR g1name
  obtain ⟨r, hr⟩ : ∃ r, decide (a0active = a1active ∧ a0name = a1name ∧ a0validity = a1validity ∧ a0size = a1size ∧ a0known = a1known ∧ a0bad = a1bad) = r := ⟨_, rfl⟩
  have Hr := Lib.hid hr
  clear hr
  have Ha0known := Lib.hid a0knownR
  clear a0knownR
  have Ha1known := Lib.hid a1knownR
  clear a1knownR
  go_enter Try.func8, Try.ntmps8
  go_wp2_with fail
  refine (szClient_any a0active a0name a0validity a0size a0known _ _ a0bad 1048576 _ (Ha0known.out.ext (by repeat' (first | with_reducible exact Below.refl _ _ | with_reducible assumption | with_reducible refine Below.alloc ?_ ?_ _ | with_reducible refine Below.setCell ?_ ?_ _ | with_reducible refine Below.drew ?_ | with_reducible refine Below.drewN ?_ _ | with_reducible refine Below.ext ?_ (by assumption) | (simp <;> omega) | omega))) (by omega) (by omega) g0name).mono ?_
  rintro e w1 ⟨left1, rfl, hz1, hb1⟩
  obtain ⟨hc1, hf1⟩ := bcell hb1
  have hs1_0 : w.heap.size < w1.heap.size := by (have hss := hb1.size; first | omega | (simp at hss <;> omega))
  have hs1_1 : w.heap.size + 1 < w1.heap.size := by (have hss := hb1.size; first | omega | (simp at hss <;> omega))
  rcases hz1 with hz1 | ⟨hz10, hz1⟩
  · go_wp2_with fail
    go_ret
    exact ⟨rfl, by repeat' (first | with_reducible exact Below.refl _ _ | with_reducible assumption | with_reducible refine Below.alloc ?_ ?_ _ | with_reducible refine Below.setCell ?_ ?_ _ | with_reducible refine Below.drew ?_ | with_reducible refine Below.drewN ?_ _ | with_reducible refine Below.ext ?_ (by assumption) | (simp <;> omega) | omega)⟩
  have hlt1 : left1 ≤ 1048576 := by omega
  have hla0known : a0known.length ≤ 1048576 := by (have := DSeen.len_le a0known; omega)
  clear hz1
  go_wp2_with fail
  refine (szClient_any a1active a1name a1validity a1size a1known _ _ a1bad left1 _ (Ha1known.out.ext (by repeat' (first | with_reducible exact Below.refl _ _ | with_reducible assumption | with_reducible refine Below.alloc ?_ ?_ _ | with_reducible refine Below.setCell ?_ ?_ _ | with_reducible refine Below.drew ?_ | with_reducible refine Below.drewN ?_ _ | with_reducible refine Below.ext ?_ (by assumption) | (simp <;> omega) | omega))) (by omega) (by omega) g1name).mono ?_
  rintro e w2 ⟨left2, rfl, hz2, hb2⟩
  obtain ⟨hc2, hf2⟩ := bcell hb2
  have hs2_0 : w.heap.size < w2.heap.size := by (have hss := hb2.size; first | omega | (simp at hss <;> omega))
  have hs2_1 : w.heap.size + 1 < w2.heap.size := by (have hss := hb2.size; first | omega | (simp at hss <;> omega))
  rcases hz2 with hz2 | ⟨hz20, hz2⟩
  · go_wp2_with fail
    go_ret
    exact ⟨rfl, by repeat' (first | with_reducible exact Below.refl _ _ | with_reducible assumption | with_reducible refine Below.alloc ?_ ?_ _ | with_reducible refine Below.setCell ?_ ?_ _ | with_reducible refine Below.drew ?_ | with_reducible refine Below.drewN ?_ _ | with_reducible refine Below.ext ?_ (by assumption) | (simp <;> omega) | omega)⟩
  have hlt2 : left2 ≤ 1048576 := by omega
  have hla1known : a1known.length ≤ 1048576 := by (have := DSeen.len_le a1known; omega)
  clear hz2
  go_wp2_with fail
  go_region_held3 (fun w' => Below w2.heap.size w2 w' ∧ (∀ b o, b < w2.heap.size → w'.cell? ⟨b, o, none⟩ = w2.cell? ⟨b, o, none⟩)) (first | exact sBeg _ | exact sExt (by assumption) (by assumption)) ((first | (go_at_call_of 30 (a0known); refine (toClient_any a0active a0name a0validity a0size a0known _ _ a0bad _ (Ha0known.out.ext (by repeat' (first | with_reducible exact Below.refl _ _ | with_reducible assumption | with_reducible refine Below.alloc ?_ ?_ _ | with_reducible refine Below.setCell ?_ ?_ _ | with_reducible refine Below.drew ?_ | with_reducible refine Below.drewN ?_ _ | with_reducible refine Below.ext ?_ (by assumption) | (simp <;> omega) | omega))) hla0known).mono ?_; rintro e w3 ⟨gx3, rfl, hown, hb3⟩; have HX3 := Lib.hid hown; clear hown) | (go_at_call_of 30 (a1known); refine (toClient_any a1active a1name a1validity a1size a1known _ _ a1bad _ (Ha1known.out.ext (by repeat' (first | with_reducible exact Below.refl _ _ | with_reducible assumption | with_reducible refine Below.alloc ?_ ?_ _ | with_reducible refine Below.setCell ?_ ?_ _ | with_reducible refine Below.drew ?_ | with_reducible refine Below.drewN ?_ _ | with_reducible refine Below.ext ?_ (by assumption) | (simp <;> omega) | omega))) hla1known).mono ?_; rintro e w4 ⟨gx4, rfl, hown, hb4⟩; have HX4 := Lib.hid hown; clear hown) | (go_at_call_of 29 (a0known); refine (specSameClient_any a0active a0name a0validity a0size a0known _ _ a0bad a1active a1name a1validity a1size a1known _ _ a1bad _ ((Rd.of_own HX3.out).ext (by repeat' (first | with_reducible exact Below.refl _ _ | with_reducible assumption | with_reducible refine Below.alloc ?_ ?_ _ | with_reducible refine Below.setCell ?_ ?_ _ | with_reducible refine Below.drew ?_ | with_reducible refine Below.drewN ?_ _ | with_reducible refine Below.ext ?_ (by assumption) | (simp <;> omega) | omega))) ((Rd.of_own HX4.out).ext (by repeat' (first | with_reducible exact Below.refl _ _ | with_reducible assumption | with_reducible refine Below.alloc ?_ ?_ _ | with_reducible refine Below.setCell ?_ ?_ _ | with_reducible refine Below.drew ?_ | with_reducible refine Below.drewN ?_ _ | with_reducible refine Below.ext ?_ (by assumption) | (simp <;> omega) | omega)))  r Hr).mono ?_; rintro e w5 ⟨rfl, hb5⟩)))
  have hbq5 : Ext w2 w5 := Below.ext (Below.ext (Below.ext ((Below.refl _ _).drew) hb3) hb4) hb5
  obtain ⟨hc5, hf5⟩ := bcell hbq5
  have hs5_0 : w.heap.size < w5.heap.size := by (have hss := hbq5.size; first | omega | (simp at hss <;> omega))
  have hs5_1 : w.heap.size + 1 < w5.heap.size := by (have hss := hbq5.size; first | omega | (simp at hss <;> omega))
  go_wp2_with fail
  refine (toClient_any a0active a0name a0validity a0size a0known _ _ a0bad _ (Ha0known.out.ext (by repeat' (first | with_reducible exact Below.refl _ _ | with_reducible assumption | with_reducible refine Below.alloc ?_ ?_ _ | with_reducible refine Below.setCell ?_ ?_ _ | with_reducible refine Below.drew ?_ | with_reducible refine Below.drewN ?_ _ | with_reducible refine Below.ext ?_ (by assumption) | (simp <;> omega) | omega))) hla0known).mono ?_
  rintro e w6 ⟨gx6, rfl, hown, hb6⟩
  have HX6 := Lib.hid hown; clear hown
  obtain ⟨hc6, hf6⟩ := bcell hb6
  have hs6_0 : w.heap.size < w6.heap.size := by (have hss := hb6.size; first | omega | (simp at hss <;> omega))
  have hs6_1 : w.heap.size + 1 < w6.heap.size := by (have hss := hb6.size; first | omega | (simp at hss <;> omega))
  go_wp2_with fail
  refine (toClient_any a1active a1name a1validity a1size a1known _ _ a1bad _ (Ha1known.out.ext (by repeat' (first | with_reducible exact Below.refl _ _ | with_reducible assumption | with_reducible refine Below.alloc ?_ ?_ _ | with_reducible refine Below.setCell ?_ ?_ _ | with_reducible refine Below.drew ?_ | with_reducible refine Below.drewN ?_ _ | with_reducible refine Below.ext ?_ (by assumption) | (simp <;> omega) | omega))) hla1known).mono ?_
  rintro e w7 ⟨gx7, rfl, hown, hb7⟩
  have HX7 := Lib.hid hown; clear hown
  obtain ⟨hc7, hf7⟩ := bcell hb7
  have hs7_0 : w.heap.size < w7.heap.size := by (have hss := hb7.size; first | omega | (simp at hss <;> omega))
  have hs7_1 : w.heap.size + 1 < w7.heap.size := by (have hss := hb7.size; first | omega | (simp at hss <;> omega))
  have hs7_2 : w6.heap.size < w7.heap.size := by (have hss := hb7.size; first | omega | (simp at hss <;> omega))
  go_wp2_with fail
  refine (implSameClient_any a0active a0name a0validity a0size a0known _ _ a0bad a1active a1name a1validity a1size a1known _ _ a1bad _ ((Rd.of_own HX6.out).ext (by repeat' (first | with_reducible exact Below.refl _ _ | with_reducible assumption | with_reducible refine Below.alloc ?_ ?_ _ | with_reducible refine Below.setCell ?_ ?_ _ | with_reducible refine Below.drew ?_ | with_reducible refine Below.drewN ?_ _ | with_reducible refine Below.ext ?_ (by assumption) | (simp <;> omega) | omega))) ((Rd.of_own HX7.out).ext (by repeat' (first | with_reducible exact Below.refl _ _ | with_reducible assumption | with_reducible refine Below.alloc ?_ ?_ _ | with_reducible refine Below.setCell ?_ ?_ _ | with_reducible refine Below.drew ?_ | with_reducible refine Below.drewN ?_ _ | with_reducible refine Below.ext ?_ (by assumption) | (simp <;> omega) | omega)))  r Hr).mono ?_
  rintro e w8 ⟨rfl, hb8⟩
  obtain ⟨hc8, hf8⟩ := bcell hb8
  have hs8_0 : w.heap.size < w8.heap.size := by (have hss := hb8.size; first | omega | (simp at hss <;> omega))
  have hs8_1 : w.heap.size + 1 < w8.heap.size := by (have hss := hb8.size; first | omega | (simp at hss <;> omega))
  have hs8_2 : w6.heap.size < w8.heap.size := by (have hss := hb8.size; first | omega | (simp at hss <;> omega))
  have hs8_3 : w7.heap.size < w8.heap.size := by (have hss := hb8.size; first | omega | (simp at hss <;> omega))
  go_wp2_with fail
  go_region_held3 (fun w' => Below w8.heap.size w8 w' ∧ (∀ b o, b < w8.heap.size → w'.cell? ⟨b, o, none⟩ = w8.cell? ⟨b, o, none⟩)) (first | exact sBeg _ | exact sExt (by assumption) (by assumption)) ((first | (go_at_call_of 30 (a0known); refine (toClient_any a0active a0name a0validity a0size a0known _ _ a0bad _ (Ha0known.out.ext (by repeat' (first | with_reducible exact Below.refl _ _ | with_reducible assumption | with_reducible refine Below.alloc ?_ ?_ _ | with_reducible refine Below.setCell ?_ ?_ _ | with_reducible refine Below.drew ?_ | with_reducible refine Below.drewN ?_ _ | with_reducible refine Below.ext ?_ (by assumption) | (simp <;> omega) | omega))) hla0known).mono ?_; rintro e w9 ⟨gx9, rfl, hown, hb9⟩; have HX9 := Lib.hid hown; clear hown) | (go_at_call_of 32 (a0known); refine (eqClient_any a0active a0name a0validity a0size a0known _ _ a0bad a0active a0name a0validity a0size a0known _ _ a0bad _ ((Rd.of_own HX6.out).ext (by repeat' (first | with_reducible exact Below.refl _ _ | with_reducible assumption | with_reducible refine Below.alloc ?_ ?_ _ | with_reducible refine Below.setCell ?_ ?_ _ | with_reducible refine Below.drew ?_ | with_reducible refine Below.drewN ?_ _ | with_reducible refine Below.ext ?_ (by assumption) | (simp <;> omega) | omega))) ((Rd.of_own HX9.out).ext (by repeat' (first | with_reducible exact Below.refl _ _ | with_reducible assumption | with_reducible refine Below.alloc ?_ ?_ _ | with_reducible refine Below.setCell ?_ ?_ _ | with_reducible refine Below.drew ?_ | with_reducible refine Below.drewN ?_ _ | with_reducible refine Below.ext ?_ (by assumption) | (simp <;> omega) | omega))) true (by simp [Hid])).mono ?_; rintro e w10 ⟨rfl, hb10⟩)))
  have hbq10 : Ext w8 w10 := Below.ext (Below.ext ((Below.refl _ _).drew) hb9) hb10
  obtain ⟨hc10, hf10⟩ := bcell hbq10
  have hs10_0 : w.heap.size < w10.heap.size := by (have hss := hbq10.size; first | omega | (simp at hss <;> omega))
  have hs10_1 : w.heap.size + 1 < w10.heap.size := by (have hss := hbq10.size; first | omega | (simp at hss <;> omega))
  have hs10_2 : w6.heap.size < w10.heap.size := by (have hss := hbq10.size; first | omega | (simp at hss <;> omega))
  have hs10_3 : w7.heap.size < w10.heap.size := by (have hss := hbq10.size; first | omega | (simp at hss <;> omega))
  go_wp2_with fail
  go_region_held3 (fun w' => Below w10.heap.size w10 w' ∧ (∀ b o, b < w10.heap.size → w'.cell? ⟨b, o, none⟩ = w10.cell? ⟨b, o, none⟩)) (first | exact sBeg _ | exact sExt (by assumption) (by assumption)) ((first | (go_at_call_of 30 (a1known); refine (toClient_any a1active a1name a1validity a1size a1known _ _ a1bad _ (Ha1known.out.ext (by repeat' (first | with_reducible exact Below.refl _ _ | with_reducible assumption | with_reducible refine Below.alloc ?_ ?_ _ | with_reducible refine Below.setCell ?_ ?_ _ | with_reducible refine Below.drew ?_ | with_reducible refine Below.drewN ?_ _ | with_reducible refine Below.ext ?_ (by assumption) | (simp <;> omega) | omega))) hla1known).mono ?_; rintro e w11 ⟨gx11, rfl, hown, hb11⟩; have HX11 := Lib.hid hown; clear hown) | (go_at_call_of 32 (a1known); refine (eqClient_any a1active a1name a1validity a1size a1known _ _ a1bad a1active a1name a1validity a1size a1known _ _ a1bad _ ((Rd.of_own HX7.out).ext (by repeat' (first | with_reducible exact Below.refl _ _ | with_reducible assumption | with_reducible refine Below.alloc ?_ ?_ _ | with_reducible refine Below.setCell ?_ ?_ _ | with_reducible refine Below.drew ?_ | with_reducible refine Below.drewN ?_ _ | with_reducible refine Below.ext ?_ (by assumption) | (simp <;> omega) | omega))) ((Rd.of_own HX11.out).ext (by repeat' (first | with_reducible exact Below.refl _ _ | with_reducible assumption | with_reducible refine Below.alloc ?_ ?_ _ | with_reducible refine Below.setCell ?_ ?_ _ | with_reducible refine Below.drew ?_ | with_reducible refine Below.drewN ?_ _ | with_reducible refine Below.ext ?_ (by assumption) | (simp <;> omega) | omega))) true (by simp [Hid])).mono ?_; rintro e w12 ⟨rfl, hb12⟩)))
  have hbq12 : Ext w10 w12 := Below.ext (Below.ext ((Below.refl _ _).drew) hb11) hb12
  obtain ⟨hc12, hf12⟩ := bcell hbq12
  have hs12_0 : w.heap.size < w12.heap.size := by (have hss := hbq12.size; first | omega | (simp at hss <;> omega))
  have hs12_1 : w.heap.size + 1 < w12.heap.size := by (have hss := hbq12.size; first | omega | (simp at hss <;> omega))
  have hs12_2 : w6.heap.size < w12.heap.size := by (have hss := hbq12.size; first | omega | (simp at hss <;> omega))
  have hs12_3 : w7.heap.size < w12.heap.size := by (have hss := hbq12.size; first | omega | (simp at hss <;> omega))
  go_wp2_with fail
  go_ret
  exact ⟨rfl, by repeat' (first | with_reducible exact Below.refl _ _ | with_reducible assumption | with_reducible refine Below.alloc ?_ ?_ _ | with_reducible refine Below.setCell ?_ ?_ _ | with_reducible refine Below.drew ?_ | with_reducible refine Below.drewN ?_ _ | with_reducible refine Below.ext ?_ (by assumption) | (simp <;> omega) | omega)⟩

end Go.Proofs.Ythhabohbbdcfcaa
