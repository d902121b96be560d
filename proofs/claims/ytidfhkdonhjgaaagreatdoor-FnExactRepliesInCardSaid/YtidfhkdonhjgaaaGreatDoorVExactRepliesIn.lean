/-
  The law FnExactRepliesIn: its walk.
-/
import Derived.Test.YtidfhkdonhjgaaaGreatDoorWRin
import Derived.Test.YtidfhkdonhjgaaaGreatDoorMarkReply
import Derived.Test.YtidfhkdonhjgaaaGreatDoorFamReply
namespace Go.Proofs.YtidfhkdonhjgaaaGreatDoor
open Go.RowKit
set_option linter.unusedVariables false
set_option linter.unusedSimpArgs false

theorem off2_ge {w1 w2 : World} {B1 B2 E1 E2 s1 s2 n1 n2 : Nat} {v1 v2 : Value} {x1 x2 : List Value} (h1 : Own w1 B1 E1 s1 v1 n1 x1) (h2 : Own w2 B2 E2 s2 v2 n2 x2) (hb : w1.heap.size ≤ B2) : Off2 v1 v2 := by
  cases hv : foot v1 with
  | none => exact Or.inl hv
  | some k => exact Or.inr (by rw [hv]; intro e; have := (h1.lt k hv).2; have := (h2.lt k e.symm).1; omega)
set_option maxRecDepth 100000 in
set_option maxHeartbeats 8000000 in
theorem fnExactRepliesIn_walk (s : ByteArray) (w : World) (hg : Gl w) (hs : s.size ≤ 9223372036854775807) :
    Calls Tryz.prog 5 #[.string s] w fun e w' => e = .returned (.bool true) ∧ Below w.heap.size w w' := by
  have HG := Lib.hid hg
  clear hg
  go_enter Tryz.func5, Tryz.ntmps5
  by_cases hbig : 1048576 < s.size
  · have d0 : decide ((1048576 : Int) < (s.size : Int)) = true := decide_eq_true (by omega)
    have d1 : decide (1048576 < s.size) = true := decide_eq_true hbig
    go_wp2_with fail
    go_ret
    exact ⟨rfl, bxt⟩
  have d0 : decide ((1048576 : Int) < (s.size : Int)) = false := decide_eq_false (by omega)
  have d1 : decide (1048576 < s.size) = false := decide_eq_false hbig
  have hsz : s.size ≤ 1048576 := by omega
  clear hbig
  go_wp2_with fail
  refine (specRepliesIn_any s _ hsz).mono ?_
  rintro e w1 ⟨rs, a, g1, q1, rfl, hr1, ho1, hb1, -⟩
  have hrl : rs.length ≤ 1048576 := by (have h1 := hr1.1.1; have h2 := lnB_len s; omega)
  have H1 := Lib.hid ho1
  have HR1 := Lib.hid hr1
  clear ho1 hr1
  go_wp2_with fail
  refine (implRepliesIn_any s _ (HG.out.ext bxt) hsz).mono ?_
  rintro e w2 ⟨rs2, a2, g2, q2, rfl, hr2, ho2, hb2, -⟩
  obtain ⟨e1, e2⟩ := reps_eq hr2 HR1.out
  subst e1; subst e2
  have H2 := Lib.hid ho2
  clear ho2 hr2
  have na : (a != a) = false := by simp
  go_wp2_with fail
  refine (eqReplyS_any rs rs _ _ _ _ _ (Rd.of_Own (H2.out.ext bxt)) (Rd.of_Own (H1.out.ext bxt)) true (Lib.hid (by simp))).mono ?_
  rintro e w3 ⟨rfl, hb3⟩
  have HO1 := Lib.hid (H1.out.ext (w' := w3) bxt)
  have HO2 := Lib.hid (H2.out.ext (w' := w3) bxt)
  go_wp2_with fail
  refine (markReplyS_any rs _ _ w1.heap.size 1 _ HO2.out (by omega) (by omega) (by omega)).mono ?_
  rintro e w4 ⟨rfl, ho4, hg4⟩
  have HO4 := Lib.hid ho4
  have HP1 := Lib.hid (HO1.out.off hg4 (off2_ge H1.out HO2.out (Nat.le_refl _)))
  have hE4 : Ext w w4 := Below.grown (show Below w.heap.size w w3 from bxt) hg4 (by (have := hb1.size; have := hb2.size; have := hb3.size; omega)) (fun x hx => by (have := (HO2.out.lt x hx).1; have := hb1.size; omega))
  have n0 : decide (1 + 6 * (rs.length : Int) < 0) = false := decide_eq_false (by omega)
  have n1 : ((1 + 6 * (rs.length : Int)) != (1 + 6 * (rs.length : Int))) = false := by simp
  clear ho4 hg4 hb1 hb2 hb3 H1 H2 HO1 HO2
  go_wp2_with fail
  refine (heldReplyS_any rs.length _ _ 1 _ (Rd.of_Own (HO4.out.ext bxt)) (by omega) (by omega) (by omega)).mono ?_
  rintro e w5 ⟨rfl, hb5⟩
  go_wp2_with fail
  refine (implRepliesIn_any s _ (HG.out.ext bxt) hsz).mono ?_
  rintro e w6 ⟨rs6, a6, g6, q6, rfl, hr6, ho6, hb6, -⟩
  obtain ⟨e1, e2⟩ := reps_eq hr6 HR1.out
  subst e1; subst e2
  have H6 := Lib.hid ho6
  clear ho6 hr6
  go_wp2_with fail
  refine (eqReplyS_any rs rs _ _ _ _ _ (Rd.of_Own (H6.out.ext bxt)) (Rd.of_Own (HP1.out.ext bxt)) true (Lib.hid (by simp))).mono ?_
  rintro e w7 ⟨rfl, hb7⟩
  go_wp2_with fail
  refine (heldReplyS_any rs.length _ _ 1 _ (Rd.of_Own (HO4.out.ext bxt)) (by omega) (by omega) (by omega)).mono ?_
  rintro e w8 ⟨rfl, hb8⟩
  go_wp2_with fail
  go_ret
  exact ⟨rfl, bxt⟩
end Go.Proofs.YtidfhkdonhjgaaaGreatDoor
