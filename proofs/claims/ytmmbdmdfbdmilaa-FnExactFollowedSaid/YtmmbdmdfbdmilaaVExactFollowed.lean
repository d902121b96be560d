/-
  The law FnExactFollowed: its walk, out of the contracts of what it calls.
-/
import Derived.Test.YtmmbdmdfbdmilaaWFollowed
import Derived.Test.YtmmbdmdfbdmilaaFamView
import Derived.Test.YtmmbdmdfbdmilaaFamCommit
import Derived.Test.YtmmbdmdfbdmilaaMarkView
import Derived.Test.YtmmbdmdfbdmilaaCut
namespace Go.Proofs.Ytmmbdmdfbdmilaa
open Go.RowKit
set_option linter.unusedVariables false
set_option linter.unusedSimpArgs false

theorem sMk {W w : World} (h3 : Below W.heap.size W w) : Below W.heap.size W w ∧ (∀ b o, b < W.heap.size → w.cell? ⟨b, o, none⟩ = W.cell? ⟨b, o, none⟩) := ⟨h3, (bcell h3).1⟩

set_option maxRecDepth 100000 in
set_option maxHeartbeats 8000000 in
theorem fnExactFollowed_walk (a0known : List DSeen) (a0knownA : Option Addr) (a0knownC : Nat) (a1 : DCommit) (w : World) : (MaxLen w) → (Rd w a0knownA a0knownC 2 a0known.length (a0known.flatMap DSeen.cells)) → (a1.name.size ≤ 9223372036854775807) → (a1.text.size ≤ 9223372036854775807) →
    Calls Try.prog 5 #[.agg #[.slice a0knownA a0known.length a0knownC], .agg #[.int .i64 a1.kind, .int .i64 a1.validity, .int .i64 a1.uid, .int .i64 a1.flags, .string a1.name, .string a1.text]] w fun e w' => e = .returned (.bool true) ∧ Below w.heap.size w w' := by
  intro hmx a0knownR g1name g1text
  have HMX := Lib.hid hmx
  clear hmx
  obtain ⟨rknown, hrknown⟩ : ∃ r, (followed a0known a1).known = r := ⟨_, rfl⟩
  have Hrknown := Lib.hid hrknown
  clear hrknown
  obtain ⟨rok, hrok⟩ : ∃ r, (followed a0known a1).ok = r := ⟨_, rfl⟩
  have Hrok := Lib.hid hrok
  clear hrok
  have Ha0known := Lib.hid a0knownR
  clear a0knownR
  go_enter Try.func5, Try.ntmps5
  go_wp2_with fail
  refine (szView_any a0known _ _ 1048576 _ (Ha0known.out.ext (by repeat' (first | with_reducible exact Below.refl _ _ | with_reducible assumption | with_reducible refine Below.alloc ?_ ?_ _ | with_reducible refine Below.setCell ?_ ?_ _ | with_reducible refine Below.drew ?_ | with_reducible refine Below.drewN ?_ _ | with_reducible refine Below.ext ?_ (by assumption) | (simp <;> omega) | omega))) (by omega) (by omega) ).mono ?_
  rintro e w1 ⟨left1, rfl, hz1, hb1⟩
  obtain ⟨hc1, hf1⟩ := bcell hb1
  have hs1_0 : w.heap.size < w1.heap.size := by (have hss := hb1.size; first | omega | (simp at hss <;> omega))
  have hs1_1 : w.heap.size + 1 < w1.heap.size := by (have hss := hb1.size; first | omega | (simp at hss <;> omega))
  rcases hz1 with hz1 | ⟨hz10, hz1⟩
  · go_wp2_with fail
    go_ret
    exact ⟨rfl, by repeat' (first | with_reducible exact Below.refl _ _ | with_reducible assumption | with_reducible refine Below.alloc ?_ ?_ _ | with_reducible refine Below.setCell ?_ ?_ _ | with_reducible refine Below.drew ?_ | with_reducible refine Below.drewN ?_ _ | with_reducible refine Below.ext ?_ (by assumption) | (simp <;> omega) | omega)⟩
  have hlt1 : left1 ≤ 1048576 := by omega
  have hla0known : a0known.length ≤ 1048576 := by (have := DSeen.len_le a0known; omega)
  clear hz1
  go_wp2_with fail
  refine (szCommit_any a1 left1 _ (by omega) (by omega) g1name g1text).mono ?_
  rintro e w2 ⟨left2, rfl, hz2, hb2⟩
  obtain ⟨hc2, hf2⟩ := bcell hb2
  have hm2 : w1.heap.size ≤ w2.heap.size := by (have hss := hb2.size; first | omega | (simp at hss <;> omega))
  have hs2_0 : w.heap.size < w2.heap.size := by (have hss := hb2.size; first | omega | (simp at hss <;> omega))
  have hs2_1 : w.heap.size + 1 < w2.heap.size := by (have hss := hb2.size; first | omega | (simp at hss <;> omega))
  rcases hz2 with hz2 | ⟨hz20, hz2⟩
  · go_wp2_with fail
    go_ret
    exact ⟨rfl, by repeat' (first | with_reducible exact Below.refl _ _ | with_reducible assumption | with_reducible refine Below.alloc ?_ ?_ _ | with_reducible refine Below.setCell ?_ ?_ _ | with_reducible refine Below.drew ?_ | with_reducible refine Below.drewN ?_ _ | with_reducible refine Below.ext ?_ (by assumption) | (simp <;> omega) | omega)⟩
  have hlt2 : left2 ≤ 1048576 := by omega
  clear hz2
  have hlr : rknown.length ≤ 2097152 := by (rw [← Hrknown.out]; have := followed_len a0known a1; omega)
  go_upto_region 8 with fail
  go_cut [6, 7] (fun v u wx => CutR 95 2 rknown.length (rknown.flatMap DSeen.cells) (fun ga qa => [.slice ga rknown.length qa]) w2 v wx ∧ u = .bool rok)
  case first =>
    go_region_held3 (fun w' => Below w2.heap.size w2 w' ∧ (∀ b o, b < w2.heap.size → w'.cell? ⟨b, o, none⟩ = w2.cell? ⟨b, o, none⟩)) (first | with_reducible exact sBeg _ | with_reducible exact sExt (by assumption) (by assumption) | (refine sMk ?_; exact (by repeat' (first | with_reducible exact Below.refl _ _ | with_reducible assumption | with_reducible refine Below.alloc ?_ ?_ _ | with_reducible refine Below.setCell ?_ ?_ _ | with_reducible refine Below.drew ?_ | with_reducible refine Below.drewN ?_ _ | with_reducible refine Below.ext ?_ (by assumption) | (simp <;> omega) | omega)))) ((first | (go_at_call_of 30 (a0known); refine (toView_any a0known _ _ _ (Ha0known.out.ext (by repeat' (first | with_reducible exact Below.refl _ _ | with_reducible assumption | with_reducible refine Below.alloc ?_ ?_ _ | with_reducible refine Below.setCell ?_ ?_ _ | with_reducible refine Below.drew ?_ | with_reducible refine Below.drewN ?_ _ | with_reducible refine Below.ext ?_ (by assumption) | (simp <;> omega) | omega))) hla0known).mono ?_; rintro e w3 ⟨gx3, rfl, hown, hb3⟩; have HX3 := Lib.hid (Own.of_row hown); clear hown; have hzz3 := hb3.size; (try simp at hzz3); (try (have hx3_0 : w2.heap.size < w3.heap.size := hzz3; (first | have hy3_0_0 : w3.cell? ⟨w2.heap.size, 0, none⟩ = some (.slice none 0 0) := (hb3.cell (p := ⟨w2.heap.size, 0, none⟩) (by simp)).trans (keep_new rfl) | have hy3_0_0 : w3.cell? ⟨w2.heap.size, 0, none⟩ = some (.slice none 0 0) := (hb3.cell (p := ⟨w2.heap.size, 0, none⟩) (by simp)).trans (keep_newd rfl)); (first | have hv3_0_0 : w3.frozen? ⟨w2.heap.size, 0, none⟩ = false := (hb3.frozen (p := ⟨w2.heap.size, 0, none⟩) (by simp)).trans (keepf_new (by simp)) | have hv3_0_0 : w3.frozen? ⟨w2.heap.size, 0, none⟩ = false := (hb3.frozen (p := ⟨w2.heap.size, 0, none⟩) (by simp)).trans (keepf_newd (by simp)))))) | (go_at_call_of 31 (a1.kind); refine (toCommit_any a1 _).mono ?_; rintro e w4 ⟨rfl, hb4⟩; have hzz4 := hb4.size; (try simp at hzz4); (try (have hx4_0 : w2.heap.size < w4.heap.size := Nat.lt_of_lt_of_le hx3_0 hzz4; have hy4_0_0 : w4.cell? ⟨w2.heap.size, 0, none⟩ = some (.slice none 0 0) := (hb4.cell (p := ⟨w2.heap.size, 0, none⟩) hx3_0).trans hy3_0_0; have hv4_0_0 : w4.frozen? ⟨w2.heap.size, 0, none⟩ = false := (hb4.frozen (p := ⟨w2.heap.size, 0, none⟩) hx3_0).trans hv3_0_0)); (try (have hx4_1 : w3.heap.size < w4.heap.size := hzz4; (first | have hy4_1_0 : w4.cell? ⟨w3.heap.size, 0, none⟩ = some (.slice none 0 0) := (hb4.cell (p := ⟨w3.heap.size, 0, none⟩) (by simp)).trans (keep_new rfl) | have hy4_1_0 : w4.cell? ⟨w3.heap.size, 0, none⟩ = some (.slice none 0 0) := (hb4.cell (p := ⟨w3.heap.size, 0, none⟩) (by simp)).trans (keep_newd rfl)); (first | have hv4_1_0 : w4.frozen? ⟨w3.heap.size, 0, none⟩ = false := (hb4.frozen (p := ⟨w3.heap.size, 0, none⟩) (by simp)).trans (keepf_new (by simp)) | have hv4_1_0 : w4.frozen? ⟨w3.heap.size, 0, none⟩ = false := (hb4.frozen (p := ⟨w3.heap.size, 0, none⟩) (by simp)).trans (keepf_newd (by simp)))))) | (go_at_call_of 29 (a0known); refine (specFollowed_any a0known _ _ a1 _ ((Rd.of_Own HX3.out).ext (by repeat' (first | with_reducible exact Below.refl _ _ | with_reducible assumption | with_reducible refine Below.alloc ?_ ?_ _ | with_reducible refine Below.setCell ?_ ?_ _ | with_reducible refine Below.drew ?_ | with_reducible refine Below.drewN ?_ _ | with_reducible refine Below.ext ?_ (by assumption) | (simp <;> omega) | omega))) (by omega) g1name g1text rknown Hrknown rok Hrok).mono ?_; rintro e w5 ⟨ga5, qa5, rfl, hown, hb5⟩; have HX5 := Lib.hid hown; clear hown; have hzz5 := hb5.size; (try simp at hzz5); (try (have hx5_0 : w2.heap.size < w5.heap.size := Nat.lt_of_lt_of_le hx4_0 hzz5; have hy5_0_0 : w5.cell? ⟨w2.heap.size, 0, none⟩ = some (.slice none 0 0) := (hb5.cell (p := ⟨w2.heap.size, 0, none⟩) hx4_0).trans hy4_0_0; have hv5_0_0 : w5.frozen? ⟨w2.heap.size, 0, none⟩ = false := (hb5.frozen (p := ⟨w2.heap.size, 0, none⟩) hx4_0).trans hv4_0_0)); (try (have hx5_1 : w3.heap.size < w5.heap.size := Nat.lt_of_lt_of_le hx4_1 hzz5; have hy5_1_0 : w5.cell? ⟨w3.heap.size, 0, none⟩ = some (.slice none 0 0) := (hb5.cell (p := ⟨w3.heap.size, 0, none⟩) hx4_1).trans hy4_1_0; have hv5_1_0 : w5.frozen? ⟨w3.heap.size, 0, none⟩ = false := (hb5.frozen (p := ⟨w3.heap.size, 0, none⟩) hx4_1).trans hv4_1_0)); (try (have hx5_2 : w4.heap.size < w5.heap.size := hzz5; (first | have hy5_2_0 : w5.cell? ⟨w4.heap.size, 0, none⟩ = some (.slice none 0 0) := (hb5.cell (p := ⟨w4.heap.size, 0, none⟩) (by simp)).trans (keep_new rfl) | have hy5_2_0 : w5.cell? ⟨w4.heap.size, 0, none⟩ = some (.slice none 0 0) := (hb5.cell (p := ⟨w4.heap.size, 0, none⟩) (by simp)).trans (keep_newd rfl)); (first | have hv5_2_0 : w5.frozen? ⟨w4.heap.size, 0, none⟩ = false := (hb5.frozen (p := ⟨w4.heap.size, 0, none⟩) (by simp)).trans (keepf_new (by simp)) | have hv5_2_0 : w5.frozen? ⟨w4.heap.size, 0, none⟩ = false := (hb5.frozen (p := ⟨w4.heap.size, 0, none⟩) (by simp)).trans (keepf_newd (by simp))))))))
    all_goals go_wp2_with fail
    all_goals go_meet
    all_goals refine ⟨⟨_, ga5, qa5, rfl, (by (first | omega | (simp <;> omega))), (by (first | omega | (simp <;> omega))), (at_cons (by simp [go_sem, *]) at_nil), ?_, ?_, ?_⟩, rfl⟩
    all_goals first | with_reducible exact FOff.lt HX5.out (by (first | omega | (simp <;> omega))) | with_reducible exact FOff.ge HX5.out (by (first | omega | (simp <;> omega))) | with_reducible exact (by (repeat' (first | with_reducible refine Own.set_lt ?_ HX5.out (by (first | omega | (simp <;> omega))) _ | with_reducible refine Own.alloc1 ?_ _ | with_reducible refine Own.drew1 ?_)); exact Own.le HX5.out (by (first | omega | (simp <;> omega)))) | exact (by repeat' (first | with_reducible exact Below.refl _ _ | with_reducible assumption | with_reducible refine Below.alloc ?_ ?_ _ | with_reducible refine Below.setCell ?_ ?_ _ | with_reducible refine Below.drew ?_ | with_reducible refine Below.drewN ?_ _ | with_reducible refine Below.ext ?_ (by assumption) | (simp <;> omega) | omega))
  obtain ⟨w5, hw5⟩ : ∃ x, x = wc := ⟨_, rfl⟩
  subst hw5
  obtain ⟨⟨β5, ga5, qa5, rfl, hβ5, hβs5, hat5, hown5, hoff5, hb5⟩, rfl⟩ := hcut
  have HX5 := Lib.hid hown5
  have HN5 := Lib.hid hoff5
  clear hown5 hoff5
  have hcl5_0 : w5.cell? ⟨β5, 0, none⟩ = some (.slice ga5 rknown.length qa5) := by simpa using hat5 0 _ rfl
  clear hat5
  obtain ⟨hc5, hf5⟩ := bcell hb5
  have hm5 : w2.heap.size ≤ w5.heap.size := by (have hss := hb5.size; first | omega | (simp at hss <;> omega))
  have hs5_0 : w.heap.size < w5.heap.size := by (have hss := hb5.size; first | omega | (simp at hss <;> omega))
  have hs5_1 : w.heap.size + 1 < w5.heap.size := by (have hss := hb5.size; first | omega | (simp at hss <;> omega))
  go_wp2_with fail
  refine (toView_any a0known _ _ _ (Ha0known.out.ext (by repeat' (first | with_reducible exact Below.refl _ _ | with_reducible assumption | with_reducible refine Below.alloc ?_ ?_ _ | with_reducible refine Below.setCell ?_ ?_ _ | with_reducible refine Below.drew ?_ | with_reducible refine Below.drewN ?_ _ | with_reducible refine Below.ext ?_ (by assumption) | (simp <;> omega) | omega))) hla0known).mono ?_
  rintro e w6 ⟨gx6, rfl, hown, hb6⟩
  have HX6 := Lib.hid (Own.of_row hown); clear hown
  obtain ⟨hc6, hf6⟩ := bcell hb6
  have hm6 : w5.heap.size ≤ w6.heap.size := by (have hss := hb6.size; first | omega | (simp at hss <;> omega))
  have hs6_0 : w.heap.size < w6.heap.size := by (have hss := hb6.size; first | omega | (simp at hss <;> omega))
  have hs6_1 : w.heap.size + 1 < w6.heap.size := by (have hss := hb6.size; first | omega | (simp at hss <;> omega))
  have hs6_2 : β5 < w6.heap.size := by (have hss := hb6.size; first | omega | (simp at hss <;> omega))
  go_upto_region 10 with fail
  refine wp_world (fun w7 hw7 => ?_)
  have hb7 : Ext w6 w7 := by (rw [hw7]; exact (by repeat' (first | with_reducible exact Below.refl _ _ | with_reducible assumption | with_reducible refine Below.alloc ?_ ?_ _ | with_reducible refine Below.setCell ?_ ?_ _ | with_reducible refine Below.drew ?_ | with_reducible refine Below.drewN ?_ _ | with_reducible refine Below.ext ?_ (by assumption) | (simp <;> omega) | omega)))
  have hcl7_0 : w7.cell? ⟨w6.heap.size, 0, none⟩ = some (.slice (some ⟨gx6, 0, none⟩) a0known.length a0known.length) := by (rw [hw7]; simp [go_sem])
  have hz7 : w6.heap.size < w7.heap.size := by (rw [hw7]; simp)
  clear hw7
  obtain ⟨hc7, hf7⟩ := bcell hb7
  have hm7 : w6.heap.size ≤ w7.heap.size := by (have hss := hb7.size; first | omega | (simp at hss <;> omega))
  have hs7_0 : w.heap.size < w7.heap.size := by (have hss := hb7.size; first | omega | (simp at hss <;> omega))
  have hs7_1 : w.heap.size + 1 < w7.heap.size := by (have hss := hb7.size; first | omega | (simp at hss <;> omega))
  have hs7_2 : β5 < w7.heap.size := by (have hss := hb7.size; first | omega | (simp at hss <;> omega))
  have hs7_3 : w6.heap.size < w7.heap.size := by (have hss := hb7.size; first | omega | (simp at hss <;> omega))
  go_upto_region 10 with fail
  go_cut [9, 10] (fun v u wx => CutR 95 2 rknown.length (rknown.flatMap DSeen.cells) (fun ga qa => [.slice ga rknown.length qa]) w7 v wx ∧ u = .bool rok)
  case first =>
    go_region_held3 (fun w' => Below w7.heap.size w7 w' ∧ (∀ b o, b < w7.heap.size → w'.cell? ⟨b, o, none⟩ = w7.cell? ⟨b, o, none⟩)) (first | with_reducible exact sBeg _ | with_reducible exact sExt (by assumption) (by assumption) | (refine sMk ?_; exact (by repeat' (first | with_reducible exact Below.refl _ _ | with_reducible assumption | with_reducible refine Below.alloc ?_ ?_ _ | with_reducible refine Below.setCell ?_ ?_ _ | with_reducible refine Below.drew ?_ | with_reducible refine Below.drewN ?_ _ | with_reducible refine Below.ext ?_ (by assumption) | (simp <;> omega) | omega)))) ((first | (go_at_call_of 31 (a1.kind); refine (toCommit_any a1 _).mono ?_; rintro e w8 ⟨rfl, hb8⟩; have hzz8 := hb8.size; (try simp at hzz8); (try (have hx8_0 : w7.heap.size < w8.heap.size := hzz8; (first | have hy8_0_0 : w8.cell? ⟨w7.heap.size, 0, none⟩ = some (.slice none 0 0) := (hb8.cell (p := ⟨w7.heap.size, 0, none⟩) (by simp)).trans (keep_new rfl) | have hy8_0_0 : w8.cell? ⟨w7.heap.size, 0, none⟩ = some (.slice none 0 0) := (hb8.cell (p := ⟨w7.heap.size, 0, none⟩) (by simp)).trans (keep_newd rfl)); (first | have hv8_0_0 : w8.frozen? ⟨w7.heap.size, 0, none⟩ = false := (hb8.frozen (p := ⟨w7.heap.size, 0, none⟩) (by simp)).trans (keepf_new (by simp)) | have hv8_0_0 : w8.frozen? ⟨w7.heap.size, 0, none⟩ = false := (hb8.frozen (p := ⟨w7.heap.size, 0, none⟩) (by simp)).trans (keepf_newd (by simp)))))) | (go_at_call_of 32 (a0known); refine (implFollowed_any a0known _ _ a1 _ ((Rd.of_Own HX6.out).ext (by repeat' (first | with_reducible exact Below.refl _ _ | with_reducible assumption | with_reducible refine Below.alloc ?_ ?_ _ | with_reducible refine Below.setCell ?_ ?_ _ | with_reducible refine Below.drew ?_ | with_reducible refine Below.drewN ?_ _ | with_reducible refine Below.ext ?_ (by assumption) | (simp <;> omega) | omega))) (by omega) (HMX.out.ext (by repeat' (first | with_reducible exact Below.refl _ _ | with_reducible assumption | with_reducible refine Below.alloc ?_ ?_ _ | with_reducible refine Below.setCell ?_ ?_ _ | with_reducible refine Below.drew ?_ | with_reducible refine Below.drewN ?_ _ | with_reducible refine Below.ext ?_ (by assumption) | (simp <;> omega) | omega))) g1name g1text rknown Hrknown rok Hrok).mono ?_; rintro e w9 ⟨ga9, qa9, rfl, hown, hb9⟩; have HX9 := Lib.hid hown; clear hown; have hzz9 := hb9.size; (try simp at hzz9); (try (have hx9_0 : w7.heap.size < w9.heap.size := Nat.lt_of_lt_of_le hx8_0 hzz9; have hy9_0_0 : w9.cell? ⟨w7.heap.size, 0, none⟩ = some (.slice none 0 0) := (hb9.cell (p := ⟨w7.heap.size, 0, none⟩) hx8_0).trans hy8_0_0; have hv9_0_0 : w9.frozen? ⟨w7.heap.size, 0, none⟩ = false := (hb9.frozen (p := ⟨w7.heap.size, 0, none⟩) hx8_0).trans hv8_0_0)); (try (have hx9_1 : w8.heap.size < w9.heap.size := hzz9; (first | have hy9_1_0 : w9.cell? ⟨w8.heap.size, 0, none⟩ = some (.slice none 0 0) := (hb9.cell (p := ⟨w8.heap.size, 0, none⟩) (by simp)).trans (keep_new rfl) | have hy9_1_0 : w9.cell? ⟨w8.heap.size, 0, none⟩ = some (.slice none 0 0) := (hb9.cell (p := ⟨w8.heap.size, 0, none⟩) (by simp)).trans (keep_newd rfl)); (first | have hv9_1_0 : w9.frozen? ⟨w8.heap.size, 0, none⟩ = false := (hb9.frozen (p := ⟨w8.heap.size, 0, none⟩) (by simp)).trans (keepf_new (by simp)) | have hv9_1_0 : w9.frozen? ⟨w8.heap.size, 0, none⟩ = false := (hb9.frozen (p := ⟨w8.heap.size, 0, none⟩) (by simp)).trans (keepf_newd (by simp))))))))
    all_goals go_wp2_with fail
    all_goals go_meet
    all_goals refine ⟨⟨_, ga9, qa9, rfl, (by (first | omega | (simp <;> omega))), (by (first | omega | (simp <;> omega))), (at_cons (by simp [go_sem, *]) at_nil), ?_, ?_, ?_⟩, rfl⟩
    all_goals first | with_reducible exact FOff.lt HX9.out (by (first | omega | (simp <;> omega))) | with_reducible exact FOff.ge HX9.out (by (first | omega | (simp <;> omega))) | with_reducible exact (by (repeat' (first | with_reducible refine Own.set_lt ?_ HX9.out (by (first | omega | (simp <;> omega))) _ | with_reducible refine Own.alloc1 ?_ _ | with_reducible refine Own.drew1 ?_)); exact Own.le HX9.out (by (first | omega | (simp <;> omega)))) | exact (by repeat' (first | with_reducible exact Below.refl _ _ | with_reducible assumption | with_reducible refine Below.alloc ?_ ?_ _ | with_reducible refine Below.setCell ?_ ?_ _ | with_reducible refine Below.drew ?_ | with_reducible refine Below.drewN ?_ _ | with_reducible refine Below.ext ?_ (by assumption) | (simp <;> omega) | omega))
  obtain ⟨w9, hw9⟩ : ∃ x, x = wc := ⟨_, rfl⟩
  subst hw9
  obtain ⟨⟨β9, ga9, qa9, rfl, hβ9, hβs9, hat9, hown9, hoff9, hb9⟩, rfl⟩ := hcut
  have HX9 := Lib.hid hown9
  have HN9 := Lib.hid hoff9
  clear hown9 hoff9
  have hcl9_0 : w9.cell? ⟨β9, 0, none⟩ = some (.slice ga9 rknown.length qa9) := by simpa using hat9 0 _ rfl
  clear hat9
  obtain ⟨hc9, hf9⟩ := bcell hb9
  have hm9 : w7.heap.size ≤ w9.heap.size := by (have hss := hb9.size; first | omega | (simp at hss <;> omega))
  have hs9_0 : w.heap.size < w9.heap.size := by (have hss := hb9.size; first | omega | (simp at hss <;> omega))
  have hs9_1 : w.heap.size + 1 < w9.heap.size := by (have hss := hb9.size; first | omega | (simp at hss <;> omega))
  have hs9_2 : β5 < w9.heap.size := by (have hss := hb9.size; first | omega | (simp at hss <;> omega))
  have hs9_3 : w6.heap.size < w9.heap.size := by (have hss := hb9.size; first | omega | (simp at hss <;> omega))
  go_wp2_with fail
  refine (eqView_any rknown _ _ rknown _ _ _ ((Rd.of_Own HX9.out).ext (by repeat' (first | with_reducible exact Below.refl _ _ | with_reducible assumption | with_reducible refine Below.alloc ?_ ?_ _ | with_reducible refine Below.setCell ?_ ?_ _ | with_reducible refine Below.drew ?_ | with_reducible refine Below.drewN ?_ _ | with_reducible refine Below.ext ?_ (by assumption) | (simp <;> omega) | omega))) ((Rd.of_Own HX5.out).ext (by repeat' (first | with_reducible exact Below.refl _ _ | with_reducible assumption | with_reducible refine Below.alloc ?_ ?_ _ | with_reducible refine Below.setCell ?_ ?_ _ | with_reducible refine Below.drew ?_ | with_reducible refine Below.drewN ?_ _ | with_reducible refine Below.ext ?_ (by assumption) | (simp <;> omega) | omega))) true (by simp [Hid])).mono ?_
  rintro e w10 ⟨rfl, hb10⟩
  obtain ⟨hc10, hf10⟩ := bcell hb10
  have hm10 : w9.heap.size ≤ w10.heap.size := by (have hss := hb10.size; first | omega | (simp at hss <;> omega))
  have hs10_0 : w.heap.size < w10.heap.size := by (have hss := hb10.size; first | omega | (simp at hss <;> omega))
  have hs10_1 : w.heap.size + 1 < w10.heap.size := by (have hss := hb10.size; first | omega | (simp at hss <;> omega))
  have hs10_2 : β5 < w10.heap.size := by (have hss := hb10.size; first | omega | (simp at hss <;> omega))
  have hs10_3 : w6.heap.size < w10.heap.size := by (have hss := hb10.size; first | omega | (simp at hss <;> omega))
  have hs10_4 : β9 < w10.heap.size := by (have hss := hb10.size; first | omega | (simp at hss <;> omega))
  go_wp2_with fail
  go_region_held3 (fun w' => Below w10.heap.size w10 w' ∧ (∀ b o, b < w10.heap.size → w'.cell? ⟨b, o, none⟩ = w10.cell? ⟨b, o, none⟩)) (first | with_reducible exact sBeg _ | with_reducible exact sExt (by assumption) (by assumption) | (refine sMk ?_; exact (by repeat' (first | with_reducible exact Below.refl _ _ | with_reducible assumption | with_reducible refine Below.alloc ?_ ?_ _ | with_reducible refine Below.setCell ?_ ?_ _ | with_reducible refine Below.drew ?_ | with_reducible refine Below.drewN ?_ _ | with_reducible refine Below.ext ?_ (by assumption) | (simp <;> omega) | omega)))) ((first | (go_at_call_of 30 (a0known); refine (toView_any a0known _ _ _ (Ha0known.out.ext (by repeat' (first | with_reducible exact Below.refl _ _ | with_reducible assumption | with_reducible refine Below.alloc ?_ ?_ _ | with_reducible refine Below.setCell ?_ ?_ _ | with_reducible refine Below.drew ?_ | with_reducible refine Below.drewN ?_ _ | with_reducible refine Below.ext ?_ (by assumption) | (simp <;> omega) | omega))) hla0known).mono ?_; rintro e w11 ⟨gx11, rfl, hown, hb11⟩; have HX11 := Lib.hid (Own.of_row hown); clear hown; have hzz11 := hb11.size; (try simp at hzz11)) | (go_at_call_of 33 (a0known); refine (eqView_any a0known _ _ a0known _ _ _ ((Rd.of_Own HX6.out).ext (by repeat' (first | with_reducible exact Below.refl _ _ | with_reducible assumption | with_reducible refine Below.alloc ?_ ?_ _ | with_reducible refine Below.setCell ?_ ?_ _ | with_reducible refine Below.drew ?_ | with_reducible refine Below.drewN ?_ _ | with_reducible refine Below.ext ?_ (by assumption) | (simp <;> omega) | omega))) ((Rd.of_Own HX11.out).ext (by repeat' (first | with_reducible exact Below.refl _ _ | with_reducible assumption | with_reducible refine Below.alloc ?_ ?_ _ | with_reducible refine Below.setCell ?_ ?_ _ | with_reducible refine Below.drew ?_ | with_reducible refine Below.drewN ?_ _ | with_reducible refine Below.ext ?_ (by assumption) | (simp <;> omega) | omega))) true (by simp [Hid])).mono ?_; rintro e w12 ⟨rfl, hb12⟩; have hzz12 := hb12.size; (try simp at hzz12))))
  have hbq12 : Ext w10 w12 := Below.ext (Below.ext ((Below.refl _ _).drew) hb11) hb12
  obtain ⟨hc12, hf12⟩ := bcell hbq12
  have hm12 : w10.heap.size ≤ w12.heap.size := by (have hss := hbq12.size; first | omega | (simp at hss <;> omega))
  have hs12_0 : w.heap.size < w12.heap.size := by (have hss := hbq12.size; first | omega | (simp at hss <;> omega))
  have hs12_1 : w.heap.size + 1 < w12.heap.size := by (have hss := hbq12.size; first | omega | (simp at hss <;> omega))
  have hs12_2 : β5 < w12.heap.size := by (have hss := hbq12.size; first | omega | (simp at hss <;> omega))
  have hs12_3 : w6.heap.size < w12.heap.size := by (have hss := hbq12.size; first | omega | (simp at hss <;> omega))
  have hs12_4 : β9 < w12.heap.size := by (have hss := hbq12.size; first | omega | (simp at hss <;> omega))
  go_wp2_with fail
  refine (markView_any a0known _ _ _ (1) _ (HX6.out.ext (by repeat' (first | with_reducible exact Below.refl _ _ | with_reducible assumption | with_reducible refine Below.alloc ?_ ?_ _ | with_reducible refine Below.setCell ?_ ?_ _ | with_reducible refine Below.drew ?_ | with_reducible refine Below.drewN ?_ _ | with_reducible refine Below.ext ?_ (by assumption) | (simp <;> omega) | omega))) (by omega) (by omega) (by omega)).mono ?_
  rintro e w13 ⟨rfl, hown, hg13⟩
  have HM13 := Lib.hid hown
  clear hown
  have hroot13 : Below w.heap.size w w13 := below_foot (show Below w.heap.size w w12 from by repeat' (first | with_reducible exact Below.refl _ _ | with_reducible assumption | with_reducible refine Below.alloc ?_ ?_ _ | with_reducible refine Below.setCell ?_ ?_ _ | with_reducible refine Below.drew ?_ | with_reducible refine Below.drewN ?_ _ | with_reducible refine Below.ext ?_ (by assumption) | (simp <;> omega) | omega)) (HX6.out.ext (by repeat' (first | with_reducible exact Below.refl _ _ | with_reducible assumption | with_reducible refine Below.alloc ?_ ?_ _ | with_reducible refine Below.setCell ?_ ?_ _ | with_reducible refine Below.drew ?_ | with_reducible refine Below.drewN ?_ _ | with_reducible refine Below.ext ?_ (by assumption) | (simp <;> omega) | omega))) (by (first | omega | (simp <;> omega))) (by (first | omega | (simp <;> omega))) hg13
  obtain ⟨hc13, hf13⟩ := grown_foff hg13
  have hm13 : w12.heap.size ≤ w13.heap.size := hg13.size
  have hs13_0 : w.heap.size < w13.heap.size := by omega
  have hn13_0 : FOff (w.heap.size) _ := FOff.lt HX6.out (by (first | omega | (simp <;> omega)))
  have hs13_1 : w.heap.size + 1 < w13.heap.size := by omega
  have hn13_1 : FOff (w.heap.size + 1) _ := FOff.lt HX6.out (by (first | omega | (simp <;> omega)))
  have hs13_2 : β5 < w13.heap.size := by omega
  have hn13_2 : FOff (β5) _ := FOff.lt HX6.out (by (first | omega | (simp <;> omega)))
  have hs13_3 : w6.heap.size < w13.heap.size := by omega
  have hn13_3 : FOff (w6.heap.size) _ := FOff.ge HX6.out (by (first | omega | (simp <;> omega)))
  have hs13_4 : β9 < w13.heap.size := by omega
  have hn13_4 : FOff (β9) _ := FOff.ge HX6.out (by (first | omega | (simp <;> omega)))
  have HR13_9 := Lib.hid (Own.off (HX9.out.ext (by repeat' (first | with_reducible exact Below.refl _ _ | with_reducible assumption | with_reducible refine Below.alloc ?_ ?_ _ | with_reducible refine Below.setCell ?_ ?_ _ | with_reducible refine Below.drew ?_ | with_reducible refine Below.drewN ?_ _ | with_reducible refine Below.ext ?_ (by assumption) | (simp <;> omega) | omega))) hg13 ((Off2.of HX6.out HX9.out (by (first | omega | (simp <;> omega)))).symm))
  have HR13_5 := Lib.hid (Own.off (HX5.out.ext (by repeat' (first | with_reducible exact Below.refl _ _ | with_reducible assumption | with_reducible refine Below.alloc ?_ ?_ _ | with_reducible refine Below.setCell ?_ ?_ _ | with_reducible refine Below.drew ?_ | with_reducible refine Below.drewN ?_ _ | with_reducible refine Below.ext ?_ (by assumption) | (simp <;> omega) | omega))) hg13 (Off2.of HX5.out HX6.out (by (first | omega | (simp <;> omega)))))
  clear hg13
  go_wp2_with fail
  refine (eqView_any rknown _ _ rknown _ _ _ ((Rd.of_Own HR13_9.out).ext (by repeat' (first | with_reducible exact Below.refl _ _ | with_reducible assumption | with_reducible refine Below.alloc ?_ ?_ _ | with_reducible refine Below.setCell ?_ ?_ _ | with_reducible refine Below.drew ?_ | with_reducible refine Below.drewN ?_ _ | with_reducible refine Below.ext ?_ (by assumption) | (simp <;> omega) | omega))) ((Rd.of_Own HR13_5.out).ext (by repeat' (first | with_reducible exact Below.refl _ _ | with_reducible assumption | with_reducible refine Below.alloc ?_ ?_ _ | with_reducible refine Below.setCell ?_ ?_ _ | with_reducible refine Below.drew ?_ | with_reducible refine Below.drewN ?_ _ | with_reducible refine Below.ext ?_ (by assumption) | (simp <;> omega) | omega))) true (by simp [Hid])).mono ?_
  rintro e w14 ⟨rfl, hb14⟩
  obtain ⟨hc14, hf14⟩ := bcell hb14
  have hm14 : w13.heap.size ≤ w14.heap.size := by (have hss := hb14.size; first | omega | (simp at hss <;> omega))
  have hs14_0 : w.heap.size < w14.heap.size := by (have hss := hb14.size; first | omega | (simp at hss <;> omega))
  have hs14_1 : w.heap.size + 1 < w14.heap.size := by (have hss := hb14.size; first | omega | (simp at hss <;> omega))
  have hs14_2 : β5 < w14.heap.size := by (have hss := hb14.size; first | omega | (simp at hss <;> omega))
  have hs14_3 : w6.heap.size < w14.heap.size := by (have hss := hb14.size; first | omega | (simp at hss <;> omega))
  have hs14_4 : β9 < w14.heap.size := by (have hss := hb14.size; first | omega | (simp at hss <;> omega))
  go_wp2_with fail
  refine (markView_any rknown _ _ _ 1 _ (HR13_9.out.ext (by repeat' (first | with_reducible exact Below.refl _ _ | with_reducible assumption | with_reducible refine Below.alloc ?_ ?_ _ | with_reducible refine Below.setCell ?_ ?_ _ | with_reducible refine Below.drew ?_ | with_reducible refine Below.drewN ?_ _ | with_reducible refine Below.ext ?_ (by assumption) | (simp <;> omega) | omega))) (by omega) (by omega) hlr).mono ?_
  rintro e w15 ⟨rfl, hown, hg15⟩
  have HM15 := Lib.hid hown
  clear hown
  have hroot15 : Below w.heap.size w w15 := below_foot (show Below w.heap.size w w14 from by repeat' (first | with_reducible exact Below.refl _ _ | with_reducible assumption | with_reducible refine Below.alloc ?_ ?_ _ | with_reducible refine Below.setCell ?_ ?_ _ | with_reducible refine Below.drew ?_ | with_reducible refine Below.drewN ?_ _ | with_reducible refine Below.ext ?_ (by assumption) | (simp <;> omega) | omega)) (HR13_9.out.ext (by repeat' (first | with_reducible exact Below.refl _ _ | with_reducible assumption | with_reducible refine Below.alloc ?_ ?_ _ | with_reducible refine Below.setCell ?_ ?_ _ | with_reducible refine Below.drew ?_ | with_reducible refine Below.drewN ?_ _ | with_reducible refine Below.ext ?_ (by assumption) | (simp <;> omega) | omega))) (by (first | omega | (simp <;> omega))) (by (first | omega | (simp <;> omega))) hg15
  obtain ⟨hc15, hf15⟩ := grown_foff hg15
  have hm15 : w14.heap.size ≤ w15.heap.size := hg15.size
  have hs15_0 : w.heap.size < w15.heap.size := by omega
  have hn15_0 : FOff (w.heap.size) _ := FOff.lt HX9.out (by (first | omega | (simp <;> omega)))
  have hs15_1 : w.heap.size + 1 < w15.heap.size := by omega
  have hn15_1 : FOff (w.heap.size + 1) _ := FOff.lt HX9.out (by (first | omega | (simp <;> omega)))
  have hs15_2 : β5 < w15.heap.size := by omega
  have hn15_2 : FOff (β5) _ := FOff.lt HX9.out (by (first | omega | (simp <;> omega)))
  have hs15_3 : w6.heap.size < w15.heap.size := by omega
  have hn15_3 : FOff (w6.heap.size) _ := FOff.lt HX9.out (by (first | omega | (simp <;> omega)))
  have hs15_4 : β9 < w15.heap.size := by omega
  have hn15_4 : FOff (β9) _ := HN9.out
  have HR15_5 := Lib.hid (Own.off (HR13_5.out.ext (by repeat' (first | with_reducible exact Below.refl _ _ | with_reducible assumption | with_reducible refine Below.alloc ?_ ?_ _ | with_reducible refine Below.setCell ?_ ?_ _ | with_reducible refine Below.drew ?_ | with_reducible refine Below.drewN ?_ _ | with_reducible refine Below.ext ?_ (by assumption) | (simp <;> omega) | omega))) hg15 (Off2.of HX5.out HX9.out (by (first | omega | (simp <;> omega)))))
  clear hg15
  go_wp2_with fail
  refine (heldView_any rknown.length  _ _ 1 _ ((Rd.of_Own HM15.out).ext (by repeat' (first | with_reducible exact Below.refl _ _ | with_reducible assumption | with_reducible refine Below.alloc ?_ ?_ _ | with_reducible refine Below.setCell ?_ ?_ _ | with_reducible refine Below.drew ?_ | with_reducible refine Below.drewN ?_ _ | with_reducible refine Below.ext ?_ (by assumption) | (simp <;> omega) | omega))) (by omega) (by omega) hlr).mono ?_
  rintro e w16 ⟨rfl, hb16⟩
  obtain ⟨hc16, hf16⟩ := bcell hb16
  have hm16 : w15.heap.size ≤ w16.heap.size := by (have hss := hb16.size; first | omega | (simp at hss <;> omega))
  have hs16_0 : w.heap.size < w16.heap.size := by (have hss := hb16.size; first | omega | (simp at hss <;> omega))
  have hs16_1 : w.heap.size + 1 < w16.heap.size := by (have hss := hb16.size; first | omega | (simp at hss <;> omega))
  have hs16_2 : β5 < w16.heap.size := by (have hss := hb16.size; first | omega | (simp at hss <;> omega))
  have hs16_3 : w6.heap.size < w16.heap.size := by (have hss := hb16.size; first | omega | (simp at hss <;> omega))
  have hs16_4 : β9 < w16.heap.size := by (have hss := hb16.size; first | omega | (simp at hss <;> omega))
  go_upto_region 27 with fail
  go_cut [14, 15] (fun v u wx => CutR 95 2 rknown.length (rknown.flatMap DSeen.cells) (fun ga qa => [.slice ga rknown.length qa]) w16 v wx ∧ u = .bool rok)
  case first =>
    go_region_held3 (fun w' => Below w16.heap.size w16 w' ∧ (∀ b o, b < w16.heap.size → w'.cell? ⟨b, o, none⟩ = w16.cell? ⟨b, o, none⟩)) (first | with_reducible exact sBeg _ | with_reducible exact sExt (by assumption) (by assumption) | (refine sMk ?_; exact (by repeat' (first | with_reducible exact Below.refl _ _ | with_reducible assumption | with_reducible refine Below.alloc ?_ ?_ _ | with_reducible refine Below.setCell ?_ ?_ _ | with_reducible refine Below.drew ?_ | with_reducible refine Below.drewN ?_ _ | with_reducible refine Below.ext ?_ (by assumption) | (simp <;> omega) | omega)))) ((first | (go_at_call_of 30 (a0known); refine (toView_any a0known _ _ _ (Ha0known.out.ext (by repeat' (first | with_reducible exact Below.refl _ _ | with_reducible assumption | with_reducible refine Below.alloc ?_ ?_ _ | with_reducible refine Below.setCell ?_ ?_ _ | with_reducible refine Below.drew ?_ | with_reducible refine Below.drewN ?_ _ | with_reducible refine Below.ext ?_ (by assumption) | (simp <;> omega) | omega))) hla0known).mono ?_; rintro e w17 ⟨gx17, rfl, hown, hb17⟩; have HX17 := Lib.hid (Own.of_row hown); clear hown; have hzz17 := hb17.size; (try simp at hzz17); (try (have hx17_0 : w16.heap.size < w17.heap.size := hzz17; (first | have hy17_0_0 : w17.cell? ⟨w16.heap.size, 0, none⟩ = some (.slice none 0 0) := (hb17.cell (p := ⟨w16.heap.size, 0, none⟩) (by simp)).trans (keep_new rfl) | have hy17_0_0 : w17.cell? ⟨w16.heap.size, 0, none⟩ = some (.slice none 0 0) := (hb17.cell (p := ⟨w16.heap.size, 0, none⟩) (by simp)).trans (keep_newd rfl)); (first | have hv17_0_0 : w17.frozen? ⟨w16.heap.size, 0, none⟩ = false := (hb17.frozen (p := ⟨w16.heap.size, 0, none⟩) (by simp)).trans (keepf_new (by simp)) | have hv17_0_0 : w17.frozen? ⟨w16.heap.size, 0, none⟩ = false := (hb17.frozen (p := ⟨w16.heap.size, 0, none⟩) (by simp)).trans (keepf_newd (by simp)))))) | (go_at_call_of 31 (a1.kind); refine (toCommit_any a1 _).mono ?_; rintro e w18 ⟨rfl, hb18⟩; have hzz18 := hb18.size; (try simp at hzz18); (try (have hx18_0 : w16.heap.size < w18.heap.size := Nat.lt_of_lt_of_le hx17_0 hzz18; have hy18_0_0 : w18.cell? ⟨w16.heap.size, 0, none⟩ = some (.slice none 0 0) := (hb18.cell (p := ⟨w16.heap.size, 0, none⟩) hx17_0).trans hy17_0_0; have hv18_0_0 : w18.frozen? ⟨w16.heap.size, 0, none⟩ = false := (hb18.frozen (p := ⟨w16.heap.size, 0, none⟩) hx17_0).trans hv17_0_0)); (try (have hx18_1 : w17.heap.size < w18.heap.size := hzz18; (first | have hy18_1_0 : w18.cell? ⟨w17.heap.size, 0, none⟩ = some (.slice none 0 0) := (hb18.cell (p := ⟨w17.heap.size, 0, none⟩) (by simp)).trans (keep_new rfl) | have hy18_1_0 : w18.cell? ⟨w17.heap.size, 0, none⟩ = some (.slice none 0 0) := (hb18.cell (p := ⟨w17.heap.size, 0, none⟩) (by simp)).trans (keep_newd rfl)); (first | have hv18_1_0 : w18.frozen? ⟨w17.heap.size, 0, none⟩ = false := (hb18.frozen (p := ⟨w17.heap.size, 0, none⟩) (by simp)).trans (keepf_new (by simp)) | have hv18_1_0 : w18.frozen? ⟨w17.heap.size, 0, none⟩ = false := (hb18.frozen (p := ⟨w17.heap.size, 0, none⟩) (by simp)).trans (keepf_newd (by simp)))))) | (go_at_call_of 32 (a0known); refine (implFollowed_any a0known _ _ a1 _ ((Rd.of_Own HX17.out).ext (by repeat' (first | with_reducible exact Below.refl _ _ | with_reducible assumption | with_reducible refine Below.alloc ?_ ?_ _ | with_reducible refine Below.setCell ?_ ?_ _ | with_reducible refine Below.drew ?_ | with_reducible refine Below.drewN ?_ _ | with_reducible refine Below.ext ?_ (by assumption) | (simp <;> omega) | omega))) (by omega) (HMX.out.ext (by repeat' (first | with_reducible exact Below.refl _ _ | with_reducible assumption | with_reducible refine Below.alloc ?_ ?_ _ | with_reducible refine Below.setCell ?_ ?_ _ | with_reducible refine Below.drew ?_ | with_reducible refine Below.drewN ?_ _ | with_reducible refine Below.ext ?_ (by assumption) | (simp <;> omega) | omega))) g1name g1text rknown Hrknown rok Hrok).mono ?_; rintro e w19 ⟨ga19, qa19, rfl, hown, hb19⟩; have HX19 := Lib.hid hown; clear hown; have hzz19 := hb19.size; (try simp at hzz19); (try (have hx19_0 : w16.heap.size < w19.heap.size := Nat.lt_of_lt_of_le hx18_0 hzz19; have hy19_0_0 : w19.cell? ⟨w16.heap.size, 0, none⟩ = some (.slice none 0 0) := (hb19.cell (p := ⟨w16.heap.size, 0, none⟩) hx18_0).trans hy18_0_0; have hv19_0_0 : w19.frozen? ⟨w16.heap.size, 0, none⟩ = false := (hb19.frozen (p := ⟨w16.heap.size, 0, none⟩) hx18_0).trans hv18_0_0)); (try (have hx19_1 : w17.heap.size < w19.heap.size := Nat.lt_of_lt_of_le hx18_1 hzz19; have hy19_1_0 : w19.cell? ⟨w17.heap.size, 0, none⟩ = some (.slice none 0 0) := (hb19.cell (p := ⟨w17.heap.size, 0, none⟩) hx18_1).trans hy18_1_0; have hv19_1_0 : w19.frozen? ⟨w17.heap.size, 0, none⟩ = false := (hb19.frozen (p := ⟨w17.heap.size, 0, none⟩) hx18_1).trans hv18_1_0)); (try (have hx19_2 : w18.heap.size < w19.heap.size := hzz19; (first | have hy19_2_0 : w19.cell? ⟨w18.heap.size, 0, none⟩ = some (.slice none 0 0) := (hb19.cell (p := ⟨w18.heap.size, 0, none⟩) (by simp)).trans (keep_new rfl) | have hy19_2_0 : w19.cell? ⟨w18.heap.size, 0, none⟩ = some (.slice none 0 0) := (hb19.cell (p := ⟨w18.heap.size, 0, none⟩) (by simp)).trans (keep_newd rfl)); (first | have hv19_2_0 : w19.frozen? ⟨w18.heap.size, 0, none⟩ = false := (hb19.frozen (p := ⟨w18.heap.size, 0, none⟩) (by simp)).trans (keepf_new (by simp)) | have hv19_2_0 : w19.frozen? ⟨w18.heap.size, 0, none⟩ = false := (hb19.frozen (p := ⟨w18.heap.size, 0, none⟩) (by simp)).trans (keepf_newd (by simp))))))))
    all_goals go_wp2_with fail
    all_goals go_meet
    all_goals refine ⟨⟨_, ga19, qa19, rfl, (by (first | omega | (simp <;> omega))), (by (first | omega | (simp <;> omega))), (at_cons (by simp [go_sem, *]) at_nil), ?_, ?_, ?_⟩, rfl⟩
    all_goals first | with_reducible exact FOff.lt HX19.out (by (first | omega | (simp <;> omega))) | with_reducible exact FOff.ge HX19.out (by (first | omega | (simp <;> omega))) | with_reducible exact (by (repeat' (first | with_reducible refine Own.set_lt ?_ HX19.out (by (first | omega | (simp <;> omega))) _ | with_reducible refine Own.alloc1 ?_ _ | with_reducible refine Own.drew1 ?_)); exact Own.le HX19.out (by (first | omega | (simp <;> omega)))) | exact (by repeat' (first | with_reducible exact Below.refl _ _ | with_reducible assumption | with_reducible refine Below.alloc ?_ ?_ _ | with_reducible refine Below.setCell ?_ ?_ _ | with_reducible refine Below.drew ?_ | with_reducible refine Below.drewN ?_ _ | with_reducible refine Below.ext ?_ (by assumption) | (simp <;> omega) | omega))
  obtain ⟨w19, hw19⟩ : ∃ x, x = wc := ⟨_, rfl⟩
  subst hw19
  obtain ⟨⟨β19, ga19, qa19, rfl, hβ19, hβs19, hat19, hown19, hoff19, hb19⟩, rfl⟩ := hcut
  have HX19 := Lib.hid hown19
  have HN19 := Lib.hid hoff19
  clear hown19 hoff19
  have hcl19_0 : w19.cell? ⟨β19, 0, none⟩ = some (.slice ga19 rknown.length qa19) := by simpa using hat19 0 _ rfl
  clear hat19
  obtain ⟨hc19, hf19⟩ := bcell hb19
  have hm19 : w16.heap.size ≤ w19.heap.size := by (have hss := hb19.size; first | omega | (simp at hss <;> omega))
  have hs19_0 : w.heap.size < w19.heap.size := by (have hss := hb19.size; first | omega | (simp at hss <;> omega))
  have hs19_1 : w.heap.size + 1 < w19.heap.size := by (have hss := hb19.size; first | omega | (simp at hss <;> omega))
  have hs19_2 : β5 < w19.heap.size := by (have hss := hb19.size; first | omega | (simp at hss <;> omega))
  have hs19_3 : w6.heap.size < w19.heap.size := by (have hss := hb19.size; first | omega | (simp at hss <;> omega))
  have hs19_4 : β9 < w19.heap.size := by (have hss := hb19.size; first | omega | (simp at hss <;> omega))
  go_wp2_with fail
  refine (eqView_any rknown _ _ rknown _ _ _ ((Rd.of_Own HX19.out).ext (by repeat' (first | with_reducible exact Below.refl _ _ | with_reducible assumption | with_reducible refine Below.alloc ?_ ?_ _ | with_reducible refine Below.setCell ?_ ?_ _ | with_reducible refine Below.drew ?_ | with_reducible refine Below.drewN ?_ _ | with_reducible refine Below.ext ?_ (by assumption) | (simp <;> omega) | omega))) ((Rd.of_Own HR15_5.out).ext (by repeat' (first | with_reducible exact Below.refl _ _ | with_reducible assumption | with_reducible refine Below.alloc ?_ ?_ _ | with_reducible refine Below.setCell ?_ ?_ _ | with_reducible refine Below.drew ?_ | with_reducible refine Below.drewN ?_ _ | with_reducible refine Below.ext ?_ (by assumption) | (simp <;> omega) | omega))) true (by simp [Hid])).mono ?_
  rintro e w20 ⟨rfl, hb20⟩
  obtain ⟨hc20, hf20⟩ := bcell hb20
  have hm20 : w19.heap.size ≤ w20.heap.size := by (have hss := hb20.size; first | omega | (simp at hss <;> omega))
  have hs20_0 : w.heap.size < w20.heap.size := by (have hss := hb20.size; first | omega | (simp at hss <;> omega))
  have hs20_1 : w.heap.size + 1 < w20.heap.size := by (have hss := hb20.size; first | omega | (simp at hss <;> omega))
  have hs20_2 : β5 < w20.heap.size := by (have hss := hb20.size; first | omega | (simp at hss <;> omega))
  have hs20_3 : w6.heap.size < w20.heap.size := by (have hss := hb20.size; first | omega | (simp at hss <;> omega))
  have hs20_4 : β9 < w20.heap.size := by (have hss := hb20.size; first | omega | (simp at hss <;> omega))
  have hs20_5 : β19 < w20.heap.size := by (have hss := hb20.size; first | omega | (simp at hss <;> omega))
  go_wp2_with fail
  refine (heldView_any rknown.length  _ _ 1 _ ((Rd.of_Own HM15.out).ext (by repeat' (first | with_reducible exact Below.refl _ _ | with_reducible assumption | with_reducible refine Below.alloc ?_ ?_ _ | with_reducible refine Below.setCell ?_ ?_ _ | with_reducible refine Below.drew ?_ | with_reducible refine Below.drewN ?_ _ | with_reducible refine Below.ext ?_ (by assumption) | (simp <;> omega) | omega))) (by omega) (by omega) hlr).mono ?_
  rintro e w21 ⟨rfl, hb21⟩
  obtain ⟨hc21, hf21⟩ := bcell hb21
  have hm21 : w20.heap.size ≤ w21.heap.size := by (have hss := hb21.size; first | omega | (simp at hss <;> omega))
  have hs21_0 : w.heap.size < w21.heap.size := by (have hss := hb21.size; first | omega | (simp at hss <;> omega))
  have hs21_1 : w.heap.size + 1 < w21.heap.size := by (have hss := hb21.size; first | omega | (simp at hss <;> omega))
  have hs21_2 : β5 < w21.heap.size := by (have hss := hb21.size; first | omega | (simp at hss <;> omega))
  have hs21_3 : w6.heap.size < w21.heap.size := by (have hss := hb21.size; first | omega | (simp at hss <;> omega))
  have hs21_4 : β9 < w21.heap.size := by (have hss := hb21.size; first | omega | (simp at hss <;> omega))
  have hs21_5 : β19 < w21.heap.size := by (have hss := hb21.size; first | omega | (simp at hss <;> omega))
  go_wp2_with fail
  go_ret
  exact ⟨rfl, by repeat' (first | with_reducible exact Below.refl _ _ | with_reducible assumption | with_reducible refine Below.alloc ?_ ?_ _ | with_reducible refine Below.setCell ?_ ?_ _ | with_reducible refine Below.drew ?_ | with_reducible refine Below.drewN ?_ _ | with_reducible refine Below.ext ?_ (by assumption) | (simp <;> omega) | omega)⟩

end Go.Proofs.Ytmmbdmdfbdmilaa
