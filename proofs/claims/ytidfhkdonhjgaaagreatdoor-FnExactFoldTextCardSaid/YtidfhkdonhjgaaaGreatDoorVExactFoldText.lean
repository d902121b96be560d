/-
  The law FnExactFoldText: its walk.
-/
import Derived.Test.YtidfhkdonhjgaaaGreatDoorWFtx
import Derived.Test.YtidfhkdonhjgaaaGreatDoorMarkClient
namespace Go.Proofs.YtidfhkdonhjgaaaGreatDoor
open Go.RowKit
set_option linter.unusedVariables false
set_option linter.unusedSimpArgs false

theorem off2_ge {w1 w2 : World} {B1 B2 E1 E2 s1 s2 n1 n2 : Nat} {v1 v2 : Value} {x1 x2 : List Value} (h1 : Own w1 B1 E1 s1 v1 n1 x1) (h2 : Own w2 B2 E2 s2 v2 n2 x2) (hb : w1.heap.size ≤ B2) : Off2 v1 v2 := by
  cases hv : foot v1 with
  | none => exact Or.inl hv
  | some k => exact Or.inr (by rw [hv]; intro e; have := (h1.lt k hv).2; have := (h2.lt k e.symm).1; omega)
set_option maxRecDepth 100000 in
set_option maxHeartbeats 8000000 in
theorem fnExactFoldText_walk (s : ByteArray) (w : World) (hg : Gl w) (hs : s.size ≤ 9223372036854775807) :
    Calls Tryz.prog 6 #[.string s] w fun e w' => e = .returned (.bool true) ∧ Below w.heap.size w w' := by
  have HG := Lib.hid hg
  clear hg
  go_enter Tryz.func6, Tryz.ntmps6
  by_cases hbig : 1048576 < s.size
  · have d0 : decide ((1048576 : Int) < (s.size : Int)) = true := decide_eq_true (by omega)
    have d1 : decide (1048576 < s.size) = true := decide_eq_true hbig
    go_wp2_with fail
    go_ret
    exact ⟨rfl, bxt⟩
  have d0 : decide ((1048576 : Int) < (s.size : Int)) = false := decide_eq_false (by omega)
  have d1 : decide (1048576 < s.size) = false := decide_eq_false hbig
  have hsz : s.size ≤ 1048576 := by omega
  clear hbig
  go_wp2_with fail
  refine (specFoldText_any s _ hsz).mono ?_
  rintro e w1 ⟨rs, a, ac, nm, va, sz, kn, b0, bd, g1, q1, rfl, hr1, hfo1, hbd1, ho1, hb1, hkl⟩
  have HX1 := Lib.hid ho1
  have HR1 := Lib.hid hr1
  have HF1 := Lib.hid hfo1
  have HBD := Lib.hid hbd1
  clear ho1 hr1 hfo1 hbd1
  have hm1 := hb1.size
  go_wp2_with fail
  refine (implFoldText_any s _ (HG.out.ext bxt) hsz).mono ?_
  rintro e w2 ⟨rs2, a2, ac2, nm2, va2, sz2, kn2, bz2, bd2, g2, q2, rfl, hr2, hfo2, hbd2, ho2, hb2, -⟩
  obtain ⟨e1, e2⟩ := reps_eq hr2 HR1.out
  subst e1; subst e2
  have hq2 := HF1.out.symm.trans hfo2
  simp only [DClient.mk.injEq] at hq2
  obtain ⟨rfl, rfl, rfl, rfl, rfl, rfl⟩ := hq2
  obtain rfl : bd = bd2 := HBD.out.trans hbd2.symm
  have HX2 := Lib.hid ho2
  clear ho2 hr2 hfo2 hbd2
  obtain ⟨hc2, hf2⟩ := bcell hb2
  have hmm2 := hb2.size
  (try simp at hmm2)
  have hs2_0 : w1.heap.size < w2.heap.size := by (have hss := hb2.size; first | omega | (simp at hss <;> omega))
  go_wp2_with fail
  refine (eqClient_any ac nm va sz kn _ _ bd ac nm va sz kn _ _ bd _ ((Rd.of_Own HX2.out).ext bxt) ((Rd.of_Own HX1.out).ext bxt) true (Lib.hid (by simp))).mono ?_
  rintro e w3 ⟨rfl, hb3⟩
  obtain ⟨hc3, hf3⟩ := bcell hb3
  have hmm3 := hb3.size
  (try simp at hmm3)
  have hs3_0 : w1.heap.size < w3.heap.size := by (have hss := hb3.size; first | omega | (simp at hss <;> omega))
  have hs3_1 : w2.heap.size < w3.heap.size := by (have hss := hb3.size; first | omega | (simp at hss <;> omega))
  have HO1 := Lib.hid (HX1.out.ext (w' := w3) bxt)
  have HO2 := Lib.hid (HX2.out.ext (w' := w3) bxt)
  have hE3 : Ext w w3 := bxt
  go_wp2_with fail
  refine (markClient_any ac nm va sz kn _ _ bd _ 1 _ HO2.out (by omega) (by omega) (by omega)).mono ?_
  rintro e w4 ⟨rfl, ho4, hg4⟩
  have HO4 := Lib.hid ho4
  have HP1 := Lib.hid (HO1.out.off hg4 (off2_ge HX1.out HO2.out (by (first | omega | (simp <;> omega)))))
  have hE4 : Ext w w4 := Below.grown hE3 hg4 (by omega) (fun x hx => by (have h := (HO2.out.lt x hx).1; (try simp at h); omega))
  obtain ⟨hc4, hf4⟩ := grown_foff hg4
  have hm4 : w3.heap.size ≤ w4.heap.size := hg4.size
  have hs4_0 : w1.heap.size < w4.heap.size := by omega
  have hs4_1 : w2.heap.size < w4.heap.size := by omega
  have hn4_0 : FOff (w1.heap.size) _ := FOff.lt HX2.out (by (first | omega | (simp <;> omega)))
  have hn4_1 : FOff (w2.heap.size) _ := FOff.ge HX2.out (by (first | omega | (simp <;> omega)))
  have n0 : decide (1 + 2 * (kn.length : Int) < 0) = false := decide_eq_false (by omega)
  have n1 : ((1 + 2 * (kn.length : Int)) != (1 + 2 * (kn.length : Int))) = false := by simp
  clear ho4 hg4
  go_wp2_with fail
  refine (heldClient_any kn.length ac nm va sz bd _ _ 1 _ (Rd.of_Own (HO4.out.ext bxt)) (by omega) (by omega) (by omega)).mono ?_
  rintro e w5 ⟨rfl, hb5⟩
  obtain ⟨hc5, hf5⟩ := bcell hb5
  have hmm5 := hb5.size
  (try simp at hmm5)
  have hs5_0 : w1.heap.size < w5.heap.size := by (have hss := hb5.size; first | omega | (simp at hss <;> omega))
  have hs5_1 : w2.heap.size < w5.heap.size := by (have hss := hb5.size; first | omega | (simp at hss <;> omega))
  go_wp2_with fail
  refine (implFoldText_any s _ (HG.out.ext (show Ext w _ from Below.ext hE4 bxt)) hsz).mono ?_
  rintro e w6 ⟨rs6, a6, ac6, nm6, va6, sz6, kn6, bz6, bd6, g6, q6, rfl, hr6, hfo6, hbd6, ho6, hb6, -⟩
  obtain ⟨e1, e2⟩ := reps_eq hr6 HR1.out
  subst e1; subst e2
  have hq6 := HF1.out.symm.trans hfo6
  simp only [DClient.mk.injEq] at hq6
  obtain ⟨rfl, rfl, rfl, rfl, rfl, rfl⟩ := hq6
  obtain rfl : bd = bd6 := HBD.out.trans hbd6.symm
  have HX6 := Lib.hid ho6
  clear ho6 hr6 hfo6 hbd6
  obtain ⟨hc6, hf6⟩ := bcell hb6
  have hmm6 := hb6.size
  (try simp at hmm6)
  have hs6_0 : w1.heap.size < w6.heap.size := by (have hss := hb6.size; first | omega | (simp at hss <;> omega))
  have hs6_1 : w2.heap.size < w6.heap.size := by (have hss := hb6.size; first | omega | (simp at hss <;> omega))
  go_wp2_with fail
  refine (eqClient_any ac nm va sz kn _ _ bd ac nm va sz kn _ _ bd _ ((Rd.of_Own HX6.out).ext bxt) ((Rd.of_Own HP1.out).ext bxt) true (Lib.hid (by simp))).mono ?_
  rintro e w7 ⟨rfl, hb7⟩
  obtain ⟨hc7, hf7⟩ := bcell hb7
  have hmm7 := hb7.size
  (try simp at hmm7)
  have hs7_0 : w1.heap.size < w7.heap.size := by (have hss := hb7.size; first | omega | (simp at hss <;> omega))
  have hs7_1 : w2.heap.size < w7.heap.size := by (have hss := hb7.size; first | omega | (simp at hss <;> omega))
  have hs7_2 : w6.heap.size < w7.heap.size := by (have hss := hb7.size; first | omega | (simp at hss <;> omega))
  go_wp2_with fail
  refine (heldClient_any kn.length ac nm va sz bd _ _ 1 _ (Rd.of_Own (HO4.out.ext bxt)) (by omega) (by omega) (by omega)).mono ?_
  rintro e w8 ⟨rfl, hb8⟩
  go_wp2_with fail
  go_ret
  exact ⟨rfl, Below.ext hE4 bxt⟩
end Go.Proofs.YtidfhkdonhjgaaaGreatDoor
