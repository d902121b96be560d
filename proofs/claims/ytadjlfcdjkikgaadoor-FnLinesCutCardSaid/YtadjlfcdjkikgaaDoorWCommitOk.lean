/-
  Whether a commit is valid: the program's function and the reference's.
-/
import Derived.Test.YtadjlfcdjkikgaaDoorXFam
import Derived.Test.YtadjlfcdjkikgaaDoorWNameOk
namespace Go.Proofs.YtadjlfcdjkikgaaDoor
open Go.RowKit
set_option linter.unusedVariables false
set_option linter.unusedSimpArgs false

def CommitK (k v u f : Int) (nm tx : ByteArray) : Prop := (1 ≤ v ∧ v ≤ 999999999) ∧ ((k = 1 ∧ (NameP nm) ∧ u = 0 ∧ f = 0 ∧ tx = ⟨#[]⟩) ∨ (k = 2 ∧ (True) ∧ u = 0 ∧ f = 0 ∧ nm = ⟨#[]⟩ ∧ tx = ⟨#[]⟩) ∨ (k = 3 ∧ (NameP nm) ∧ u = 0 ∧ f = 0 ∧ tx = ⟨#[]⟩) ∨ (k = 4 ∧ ((1 ≤ u ∧ u ≤ 999999998) ∧ (0 ≤ f ∧ f ≤ 31) ∧ tx.size ≤ 40) ∧ nm = ⟨#[]⟩) ∨ (k = 5 ∧ ((1 ≤ u ∧ u ≤ 999999998) ∧ (0 ≤ f ∧ f ≤ 31)) ∧ nm = ⟨#[]⟩ ∧ tx = ⟨#[]⟩) ∨ (k = 6 ∧ ((1 ≤ u ∧ u ≤ 999999998)) ∧ f = 0 ∧ nm = ⟨#[]⟩ ∧ tx = ⟨#[]⟩))
def CommitP (a : DCommit) : Prop := CommitK a.kind a.validity a.uid a.flags a.name a.text
theorem commitK1 (v u f : Int) (nm tx : ByteArray) : CommitK 1 v u f nm tx ↔ (1 ≤ v ∧ v ≤ 999999999) ∧ (NameP nm) ∧ u = 0 ∧ f = 0 ∧ tx = ⟨#[]⟩ := by simp [CommitK]
theorem commitK2 (v u f : Int) (nm tx : ByteArray) : CommitK 2 v u f nm tx ↔ (1 ≤ v ∧ v ≤ 999999999) ∧ (True) ∧ u = 0 ∧ f = 0 ∧ nm = ⟨#[]⟩ ∧ tx = ⟨#[]⟩ := by simp [CommitK]
theorem commitK3 (v u f : Int) (nm tx : ByteArray) : CommitK 3 v u f nm tx ↔ (1 ≤ v ∧ v ≤ 999999999) ∧ (NameP nm) ∧ u = 0 ∧ f = 0 ∧ tx = ⟨#[]⟩ := by simp [CommitK]
theorem commitK4 (v u f : Int) (nm tx : ByteArray) : CommitK 4 v u f nm tx ↔ (1 ≤ v ∧ v ≤ 999999999) ∧ ((1 ≤ u ∧ u ≤ 999999998) ∧ (0 ≤ f ∧ f ≤ 31) ∧ tx.size ≤ 40) ∧ nm = ⟨#[]⟩ := by simp [CommitK]
theorem commitK5 (v u f : Int) (nm tx : ByteArray) : CommitK 5 v u f nm tx ↔ (1 ≤ v ∧ v ≤ 999999999) ∧ ((1 ≤ u ∧ u ≤ 999999998) ∧ (0 ≤ f ∧ f ≤ 31)) ∧ nm = ⟨#[]⟩ ∧ tx = ⟨#[]⟩ := by simp [CommitK]
theorem commitK6 (v u f : Int) (nm tx : ByteArray) : CommitK 6 v u f nm tx ↔ (1 ≤ v ∧ v ≤ 999999999) ∧ ((1 ≤ u ∧ u ≤ 999999998)) ∧ f = 0 ∧ nm = ⟨#[]⟩ ∧ tx = ⟨#[]⟩ := by simp [CommitK]
theorem commitK_no (k v u f : Int) (nm tx : ByteArray) (h : ¬ (1 ≤ k ∧ k ≤ 6)) : ¬ CommitK k v u f nm tx := by rintro ⟨_, h1⟩; omega

set_option maxHeartbeats 4000000 in
theorem specCommitOk1 (v u f : Int) (nm tx : ByteArray) (w : World) (g1 : nm.size ≤ 9223372036854775807) (g2 : tx.size ≤ 9223372036854775807) (r : Bool) (Hr : Hid (Tells r (CommitK 1 v u f nm tx))) :
    Calls Tryd.prog 105 #[.agg #[.int .i64 1, .int .i64 v, .int .i64 u, .int .i64 f, .string nm, .string tx]] w fun e w' => e = .returned (.bool r) ∧ Ext w w' := by
  have hG := eqCommitG
  have HK : Hid (Tells true ((1 : Int) ≤ 1 ∧ (1 : Int) ≤ 6)) := by (constructor <;> intro _ <;> decide)
  obtain ⟨dV, hV⟩ := boolOf (1 ≤ v ∧ v ≤ 999999999)
  have HV := Lib.hid hV
  clear hV
  obtain ⟨dE, hE⟩ : ∃ d, decide ((⟨1, v, u, f, nm, tx⟩ : DCommit) = ⟨1, v, 0, 0, nm, ⟨#[]⟩⟩) = d := ⟨_, rfl⟩
  have HE := Lib.hid hE
  have hq := fun w => eqCommitB (⟨1, v, u, f, nm, tx⟩ : DCommit) ⟨1, v, 0, 0, nm, ⟨#[]⟩⟩ dE hE w
  dsimp only at hq
  clear hE
  obtain ⟨dN, hN⟩ := boolOf (NameP nm)
  have HN := Lib.hid hN
  clear hN
  cases dV
  · skip
    go_enter Tryd.func105, Tryd.ntmps105
    go_wp2_with (first | (go_at_call 46; refine (sNumber_any _ _ false HV).mono ?_; rintro e w1 ⟨rfl, rfl⟩) | (go_at_call 43; refine (l1In_any _ _ _ _ true HK).mono ?_; rintro e w1 ⟨rfl, rfl⟩) | (go_at_call 48; refine (specNameOk_any nm _ g1 dN HN).mono ?_; rintro e w1 ⟨rfl, rfl⟩))
    all_goals go_ret
    all_goals refine ⟨ret_no Hr.out (fun hn0 => ?_), bxt⟩
    all_goals (have hn := (commitK1 v u f nm tx).1 hn0; clear hn0; exact no_of HV.out (by simp_all))
  cases dE
  · skip
    go_enter Tryd.func105, Tryd.ntmps105
    go_wp2_with (first | (go_at_call 46; refine (sNumber_any _ _ true HV).mono ?_; rintro e w1 ⟨rfl, rfl⟩) | (go_at_call 43; refine (l1In_any _ _ _ _ true HK).mono ?_; rintro e w1 ⟨rfl, rfl⟩) | (go_at_call 48; refine (specNameOk_any nm _ g1 dN HN).mono ?_; rintro e w1 ⟨rfl, rfl⟩))
    all_goals go_ret
    all_goals refine ⟨ret_no Hr.out (fun hn0 => ?_), bxt⟩
    all_goals (have hn := (commitK1 v u f nm tx).1 hn0; clear hn0; exact of_decide_eq_false HE.out (by simp_all))
  cases dN
  · skip
    go_enter Tryd.func105, Tryd.ntmps105
    go_wp2_with (first | (go_at_call 46; refine (sNumber_any _ _ true HV).mono ?_; rintro e w1 ⟨rfl, rfl⟩) | (go_at_call 43; refine (l1In_any _ _ _ _ true HK).mono ?_; rintro e w1 ⟨rfl, rfl⟩) | (go_at_call 48; refine (specNameOk_any nm _ g1 false HN).mono ?_; rintro e w1 ⟨rfl, rfl⟩))
    all_goals go_ret
    all_goals refine ⟨ret_no Hr.out (fun hn0 => ?_), bxt⟩
    all_goals (have hn := (commitK1 v u f nm tx).1 hn0; clear hn0; have hE := of_decide_eq_true HE.out; simp only [DCommit.mk.injEq] at hE; exact no_of HN.out (by simp_all))
  go_enter Tryd.func105, Tryd.ntmps105
  go_wp2_with (first | (go_at_call 46; refine (sNumber_any _ _ true HV).mono ?_; rintro e w1 ⟨rfl, rfl⟩) | (go_at_call 43; refine (l1In_any _ _ _ _ true HK).mono ?_; rintro e w1 ⟨rfl, rfl⟩) | (go_at_call 48; refine (specNameOk_any nm _ g1 true HN).mono ?_; rintro e w1 ⟨rfl, rfl⟩))
  go_ret
  refine ⟨ret_yes Hr.out ((commitK1 v u f nm tx).2 ?_), bxt⟩
  have hV := yes_of HV.out; have hE := of_decide_eq_true HE.out; simp only [DCommit.mk.injEq] at hE; have hN := yes_of HN.out; simp_all

set_option maxHeartbeats 4000000 in
theorem specCommitOk2 (v u f : Int) (nm tx : ByteArray) (w : World) (g1 : nm.size ≤ 9223372036854775807) (g2 : tx.size ≤ 9223372036854775807) (r : Bool) (Hr : Hid (Tells r (CommitK 2 v u f nm tx))) :
    Calls Tryd.prog 105 #[.agg #[.int .i64 2, .int .i64 v, .int .i64 u, .int .i64 f, .string nm, .string tx]] w fun e w' => e = .returned (.bool r) ∧ Ext w w' := by
  have hG := eqCommitG
  have HK : Hid (Tells true ((1 : Int) ≤ 2 ∧ (2 : Int) ≤ 6)) := by (constructor <;> intro _ <;> decide)
  obtain ⟨dV, hV⟩ := boolOf (1 ≤ v ∧ v ≤ 999999999)
  have HV := Lib.hid hV
  clear hV
  obtain ⟨dE, hE⟩ : ∃ d, decide ((⟨2, v, u, f, nm, tx⟩ : DCommit) = ⟨2, v, 0, 0, ⟨#[]⟩, ⟨#[]⟩⟩) = d := ⟨_, rfl⟩
  have HE := Lib.hid hE
  have hq := fun w => eqCommitB (⟨2, v, u, f, nm, tx⟩ : DCommit) ⟨2, v, 0, 0, ⟨#[]⟩, ⟨#[]⟩⟩ dE hE w
  dsimp only at hq
  clear hE
  cases dV
  · skip
    go_enter Tryd.func105, Tryd.ntmps105
    go_wp2_with (first | (go_at_call 46; refine (sNumber_any _ _ false HV).mono ?_; rintro e w1 ⟨rfl, rfl⟩) | (go_at_call 43; refine (l1In_any _ _ _ _ true HK).mono ?_; rintro e w1 ⟨rfl, rfl⟩))
    all_goals go_ret
    all_goals refine ⟨ret_no Hr.out (fun hn0 => ?_), bxt⟩
    all_goals (have hn := (commitK2 v u f nm tx).1 hn0; clear hn0; exact no_of HV.out (by simp_all))
  cases dE
  · skip
    go_enter Tryd.func105, Tryd.ntmps105
    go_wp2_with (first | (go_at_call 46; refine (sNumber_any _ _ true HV).mono ?_; rintro e w1 ⟨rfl, rfl⟩) | (go_at_call 43; refine (l1In_any _ _ _ _ true HK).mono ?_; rintro e w1 ⟨rfl, rfl⟩))
    all_goals go_ret
    all_goals refine ⟨ret_no Hr.out (fun hn0 => ?_), bxt⟩
    all_goals (have hn := (commitK2 v u f nm tx).1 hn0; clear hn0; exact of_decide_eq_false HE.out (by simp_all))
  go_enter Tryd.func105, Tryd.ntmps105
  go_wp2_with (first | (go_at_call 46; refine (sNumber_any _ _ true HV).mono ?_; rintro e w1 ⟨rfl, rfl⟩) | (go_at_call 43; refine (l1In_any _ _ _ _ true HK).mono ?_; rintro e w1 ⟨rfl, rfl⟩))
  go_ret
  refine ⟨ret_yes Hr.out ((commitK2 v u f nm tx).2 ?_), bxt⟩
  have hV := yes_of HV.out; have hE := of_decide_eq_true HE.out; simp only [DCommit.mk.injEq] at hE; simp_all

set_option maxHeartbeats 4000000 in
theorem specCommitOk3 (v u f : Int) (nm tx : ByteArray) (w : World) (g1 : nm.size ≤ 9223372036854775807) (g2 : tx.size ≤ 9223372036854775807) (r : Bool) (Hr : Hid (Tells r (CommitK 3 v u f nm tx))) :
    Calls Tryd.prog 105 #[.agg #[.int .i64 3, .int .i64 v, .int .i64 u, .int .i64 f, .string nm, .string tx]] w fun e w' => e = .returned (.bool r) ∧ Ext w w' := by
  have hG := eqCommitG
  have HK : Hid (Tells true ((1 : Int) ≤ 3 ∧ (3 : Int) ≤ 6)) := by (constructor <;> intro _ <;> decide)
  obtain ⟨dV, hV⟩ := boolOf (1 ≤ v ∧ v ≤ 999999999)
  have HV := Lib.hid hV
  clear hV
  obtain ⟨dE, hE⟩ : ∃ d, decide ((⟨3, v, u, f, nm, tx⟩ : DCommit) = ⟨3, v, 0, 0, nm, ⟨#[]⟩⟩) = d := ⟨_, rfl⟩
  have HE := Lib.hid hE
  have hq := fun w => eqCommitB (⟨3, v, u, f, nm, tx⟩ : DCommit) ⟨3, v, 0, 0, nm, ⟨#[]⟩⟩ dE hE w
  dsimp only at hq
  clear hE
  obtain ⟨dN, hN⟩ := boolOf (NameP nm)
  have HN := Lib.hid hN
  clear hN
  cases dV
  · skip
    go_enter Tryd.func105, Tryd.ntmps105
    go_wp2_with (first | (go_at_call 46; refine (sNumber_any _ _ false HV).mono ?_; rintro e w1 ⟨rfl, rfl⟩) | (go_at_call 43; refine (l1In_any _ _ _ _ true HK).mono ?_; rintro e w1 ⟨rfl, rfl⟩) | (go_at_call 48; refine (specNameOk_any nm _ g1 dN HN).mono ?_; rintro e w1 ⟨rfl, rfl⟩))
    all_goals go_ret
    all_goals refine ⟨ret_no Hr.out (fun hn0 => ?_), bxt⟩
    all_goals (have hn := (commitK3 v u f nm tx).1 hn0; clear hn0; exact no_of HV.out (by simp_all))
  cases dE
  · skip
    go_enter Tryd.func105, Tryd.ntmps105
    go_wp2_with (first | (go_at_call 46; refine (sNumber_any _ _ true HV).mono ?_; rintro e w1 ⟨rfl, rfl⟩) | (go_at_call 43; refine (l1In_any _ _ _ _ true HK).mono ?_; rintro e w1 ⟨rfl, rfl⟩) | (go_at_call 48; refine (specNameOk_any nm _ g1 dN HN).mono ?_; rintro e w1 ⟨rfl, rfl⟩))
    all_goals go_ret
    all_goals refine ⟨ret_no Hr.out (fun hn0 => ?_), bxt⟩
    all_goals (have hn := (commitK3 v u f nm tx).1 hn0; clear hn0; exact of_decide_eq_false HE.out (by simp_all))
  cases dN
  · skip
    go_enter Tryd.func105, Tryd.ntmps105
    go_wp2_with (first | (go_at_call 46; refine (sNumber_any _ _ true HV).mono ?_; rintro e w1 ⟨rfl, rfl⟩) | (go_at_call 43; refine (l1In_any _ _ _ _ true HK).mono ?_; rintro e w1 ⟨rfl, rfl⟩) | (go_at_call 48; refine (specNameOk_any nm _ g1 false HN).mono ?_; rintro e w1 ⟨rfl, rfl⟩))
    all_goals go_ret
    all_goals refine ⟨ret_no Hr.out (fun hn0 => ?_), bxt⟩
    all_goals (have hn := (commitK3 v u f nm tx).1 hn0; clear hn0; have hE := of_decide_eq_true HE.out; simp only [DCommit.mk.injEq] at hE; exact no_of HN.out (by simp_all))
  go_enter Tryd.func105, Tryd.ntmps105
  go_wp2_with (first | (go_at_call 46; refine (sNumber_any _ _ true HV).mono ?_; rintro e w1 ⟨rfl, rfl⟩) | (go_at_call 43; refine (l1In_any _ _ _ _ true HK).mono ?_; rintro e w1 ⟨rfl, rfl⟩) | (go_at_call 48; refine (specNameOk_any nm _ g1 true HN).mono ?_; rintro e w1 ⟨rfl, rfl⟩))
  go_ret
  refine ⟨ret_yes Hr.out ((commitK3 v u f nm tx).2 ?_), bxt⟩
  have hV := yes_of HV.out; have hE := of_decide_eq_true HE.out; simp only [DCommit.mk.injEq] at hE; have hN := yes_of HN.out; simp_all

set_option maxHeartbeats 4000000 in
theorem specCommitOk4 (v u f : Int) (nm tx : ByteArray) (w : World) (g1 : nm.size ≤ 9223372036854775807) (g2 : tx.size ≤ 9223372036854775807) (r : Bool) (Hr : Hid (Tells r (CommitK 4 v u f nm tx))) :
    Calls Tryd.prog 105 #[.agg #[.int .i64 4, .int .i64 v, .int .i64 u, .int .i64 f, .string nm, .string tx]] w fun e w' => e = .returned (.bool r) ∧ Ext w w' := by
  have hG := eqCommitG
  have HK : Hid (Tells true ((1 : Int) ≤ 4 ∧ (4 : Int) ≤ 6)) := by (constructor <;> intro _ <;> decide)
  obtain ⟨dV, hV⟩ := boolOf (1 ≤ v ∧ v ≤ 999999999)
  have HV := Lib.hid hV
  clear hV
  obtain ⟨dE, hE⟩ : ∃ d, decide ((⟨4, v, u, f, nm, tx⟩ : DCommit) = ⟨4, v, u, f, ⟨#[]⟩, tx⟩) = d := ⟨_, rfl⟩
  have HE := Lib.hid hE
  have hq := fun w => eqCommitB (⟨4, v, u, f, nm, tx⟩ : DCommit) ⟨4, v, u, f, ⟨#[]⟩, tx⟩ dE hE w
  dsimp only at hq
  clear hE
  obtain ⟨dU, hU⟩ := boolOf (1 ≤ u ∧ u ≤ 999999998)
  have HU := Lib.hid hU
  clear hU
  obtain ⟨dF, hF⟩ := boolOf (0 ≤ f ∧ f ≤ 31)
  have HF := Lib.hid hF
  clear hF
  cases dV
  · skip
    go_enter Tryd.func105, Tryd.ntmps105
    go_wp2_with (first | (go_at_call_of 43 (u); refine (l1In_any _ _ _ _ dU HU).mono ?_; rintro e w1 ⟨rfl, rfl⟩) | (go_at_call 46; refine (sNumber_any _ _ false HV).mono ?_; rintro e w1 ⟨rfl, rfl⟩) | (go_at_call 43; refine (l1In_any _ _ _ _ true HK).mono ?_; rintro e w1 ⟨rfl, rfl⟩) | (go_at_call 47; refine (sFlagsOk_any _ _ dF HF).mono ?_; rintro e w1 ⟨rfl, rfl⟩))
    all_goals go_ret
    all_goals refine ⟨ret_no Hr.out (fun hn0 => ?_), bxt⟩
    all_goals (have hn := (commitK4 v u f nm tx).1 hn0; clear hn0; exact no_of HV.out (by simp_all))
  cases dE
  · skip
    go_enter Tryd.func105, Tryd.ntmps105
    go_wp2_with (first | (go_at_call_of 43 (u); refine (l1In_any _ _ _ _ dU HU).mono ?_; rintro e w1 ⟨rfl, rfl⟩) | (go_at_call 46; refine (sNumber_any _ _ true HV).mono ?_; rintro e w1 ⟨rfl, rfl⟩) | (go_at_call 43; refine (l1In_any _ _ _ _ true HK).mono ?_; rintro e w1 ⟨rfl, rfl⟩) | (go_at_call 47; refine (sFlagsOk_any _ _ dF HF).mono ?_; rintro e w1 ⟨rfl, rfl⟩))
    all_goals go_ret
    all_goals refine ⟨ret_no Hr.out (fun hn0 => ?_), bxt⟩
    all_goals (have hn := (commitK4 v u f nm tx).1 hn0; clear hn0; exact of_decide_eq_false HE.out (by simp_all))
  cases dU
  · skip
    go_enter Tryd.func105, Tryd.ntmps105
    go_wp2_with (first | (go_at_call_of 43 (u); refine (l1In_any _ _ _ _ false HU).mono ?_; rintro e w1 ⟨rfl, rfl⟩) | (go_at_call 46; refine (sNumber_any _ _ true HV).mono ?_; rintro e w1 ⟨rfl, rfl⟩) | (go_at_call 43; refine (l1In_any _ _ _ _ true HK).mono ?_; rintro e w1 ⟨rfl, rfl⟩) | (go_at_call 47; refine (sFlagsOk_any _ _ dF HF).mono ?_; rintro e w1 ⟨rfl, rfl⟩))
    all_goals go_ret
    all_goals refine ⟨ret_no Hr.out (fun hn0 => ?_), bxt⟩
    all_goals (have hn := (commitK4 v u f nm tx).1 hn0; clear hn0; have hE := of_decide_eq_true HE.out; simp only [DCommit.mk.injEq] at hE; exact no_of HU.out (by simp_all))
  cases dF
  · skip
    go_enter Tryd.func105, Tryd.ntmps105
    go_wp2_with (first | (go_at_call_of 43 (u); refine (l1In_any _ _ _ _ true HU).mono ?_; rintro e w1 ⟨rfl, rfl⟩) | (go_at_call 46; refine (sNumber_any _ _ true HV).mono ?_; rintro e w1 ⟨rfl, rfl⟩) | (go_at_call 43; refine (l1In_any _ _ _ _ true HK).mono ?_; rintro e w1 ⟨rfl, rfl⟩) | (go_at_call 47; refine (sFlagsOk_any _ _ false HF).mono ?_; rintro e w1 ⟨rfl, rfl⟩))
    all_goals go_ret
    all_goals refine ⟨ret_no Hr.out (fun hn0 => ?_), bxt⟩
    all_goals (have hn := (commitK4 v u f nm tx).1 hn0; clear hn0; have hE := of_decide_eq_true HE.out; simp only [DCommit.mk.injEq] at hE; exact no_of HF.out (by simp_all))
  by_cases hT : tx.size ≤ 40
  rotate_left
  · have hT1 : (40 : Int) < (tx.size : Int) := by omega
    have hT2 : decide ((tx.size : Int) ≤ 40) = false := by (simp; omega)
    have HT := Lib.hid hT
    clear hT
    go_enter Tryd.func105, Tryd.ntmps105
    go_wp2_with (first | (go_at_call_of 43 (u); refine (l1In_any _ _ _ _ true HU).mono ?_; rintro e w1 ⟨rfl, rfl⟩) | (go_at_call 46; refine (sNumber_any _ _ true HV).mono ?_; rintro e w1 ⟨rfl, rfl⟩) | (go_at_call 43; refine (l1In_any _ _ _ _ true HK).mono ?_; rintro e w1 ⟨rfl, rfl⟩) | (go_at_call 47; refine (sFlagsOk_any _ _ true HF).mono ?_; rintro e w1 ⟨rfl, rfl⟩))
    all_goals go_ret
    all_goals refine ⟨ret_no Hr.out (fun hn0 => ?_), bxt⟩
    all_goals (have hn := (commitK4 v u f nm tx).1 hn0; clear hn0; have hE := of_decide_eq_true HE.out; simp only [DCommit.mk.injEq] at hE; exact HT.out (by first | exact hn.2.1.2.2 | (have h0 : tx = ⟨#[]⟩ := (by simp_all); rw [h0]; exact Nat.zero_le _)))
  have hT1 : (tx.size : Int) ≤ 40 := by omega
  have HT := Lib.hid hT
  clear hT
  go_enter Tryd.func105, Tryd.ntmps105
  go_wp2_with (first | (go_at_call_of 43 (u); refine (l1In_any _ _ _ _ true HU).mono ?_; rintro e w1 ⟨rfl, rfl⟩) | (go_at_call 46; refine (sNumber_any _ _ true HV).mono ?_; rintro e w1 ⟨rfl, rfl⟩) | (go_at_call 43; refine (l1In_any _ _ _ _ true HK).mono ?_; rintro e w1 ⟨rfl, rfl⟩) | (go_at_call 47; refine (sFlagsOk_any _ _ true HF).mono ?_; rintro e w1 ⟨rfl, rfl⟩))
  go_ret
  refine ⟨ret_yes Hr.out ((commitK4 v u f nm tx).2 ?_), bxt⟩
  have hV := yes_of HV.out; have hE := of_decide_eq_true HE.out; simp only [DCommit.mk.injEq] at hE; have hU := yes_of HU.out; have hF := yes_of HF.out; have hT := HT.out; simp_all

set_option maxHeartbeats 4000000 in
theorem specCommitOk5 (v u f : Int) (nm tx : ByteArray) (w : World) (g1 : nm.size ≤ 9223372036854775807) (g2 : tx.size ≤ 9223372036854775807) (r : Bool) (Hr : Hid (Tells r (CommitK 5 v u f nm tx))) :
    Calls Tryd.prog 105 #[.agg #[.int .i64 5, .int .i64 v, .int .i64 u, .int .i64 f, .string nm, .string tx]] w fun e w' => e = .returned (.bool r) ∧ Ext w w' := by
  have hG := eqCommitG
  have HK : Hid (Tells true ((1 : Int) ≤ 5 ∧ (5 : Int) ≤ 6)) := by (constructor <;> intro _ <;> decide)
  obtain ⟨dV, hV⟩ := boolOf (1 ≤ v ∧ v ≤ 999999999)
  have HV := Lib.hid hV
  clear hV
  obtain ⟨dE, hE⟩ : ∃ d, decide ((⟨5, v, u, f, nm, tx⟩ : DCommit) = ⟨5, v, u, f, ⟨#[]⟩, ⟨#[]⟩⟩) = d := ⟨_, rfl⟩
  have HE := Lib.hid hE
  have hq := fun w => eqCommitB (⟨5, v, u, f, nm, tx⟩ : DCommit) ⟨5, v, u, f, ⟨#[]⟩, ⟨#[]⟩⟩ dE hE w
  dsimp only at hq
  clear hE
  obtain ⟨dU, hU⟩ := boolOf (1 ≤ u ∧ u ≤ 999999998)
  have HU := Lib.hid hU
  clear hU
  obtain ⟨dF, hF⟩ := boolOf (0 ≤ f ∧ f ≤ 31)
  have HF := Lib.hid hF
  clear hF
  cases dV
  · skip
    go_enter Tryd.func105, Tryd.ntmps105
    go_wp2_with (first | (go_at_call_of 43 (u); refine (l1In_any _ _ _ _ dU HU).mono ?_; rintro e w1 ⟨rfl, rfl⟩) | (go_at_call 46; refine (sNumber_any _ _ false HV).mono ?_; rintro e w1 ⟨rfl, rfl⟩) | (go_at_call 43; refine (l1In_any _ _ _ _ true HK).mono ?_; rintro e w1 ⟨rfl, rfl⟩) | (go_at_call 47; refine (sFlagsOk_any _ _ dF HF).mono ?_; rintro e w1 ⟨rfl, rfl⟩))
    all_goals go_ret
    all_goals refine ⟨ret_no Hr.out (fun hn0 => ?_), bxt⟩
    all_goals (have hn := (commitK5 v u f nm tx).1 hn0; clear hn0; exact no_of HV.out (by simp_all))
  cases dE
  · skip
    go_enter Tryd.func105, Tryd.ntmps105
    go_wp2_with (first | (go_at_call_of 43 (u); refine (l1In_any _ _ _ _ dU HU).mono ?_; rintro e w1 ⟨rfl, rfl⟩) | (go_at_call 46; refine (sNumber_any _ _ true HV).mono ?_; rintro e w1 ⟨rfl, rfl⟩) | (go_at_call 43; refine (l1In_any _ _ _ _ true HK).mono ?_; rintro e w1 ⟨rfl, rfl⟩) | (go_at_call 47; refine (sFlagsOk_any _ _ dF HF).mono ?_; rintro e w1 ⟨rfl, rfl⟩))
    all_goals go_ret
    all_goals refine ⟨ret_no Hr.out (fun hn0 => ?_), bxt⟩
    all_goals (have hn := (commitK5 v u f nm tx).1 hn0; clear hn0; exact of_decide_eq_false HE.out (by simp_all))
  cases dU
  · skip
    go_enter Tryd.func105, Tryd.ntmps105
    go_wp2_with (first | (go_at_call_of 43 (u); refine (l1In_any _ _ _ _ false HU).mono ?_; rintro e w1 ⟨rfl, rfl⟩) | (go_at_call 46; refine (sNumber_any _ _ true HV).mono ?_; rintro e w1 ⟨rfl, rfl⟩) | (go_at_call 43; refine (l1In_any _ _ _ _ true HK).mono ?_; rintro e w1 ⟨rfl, rfl⟩) | (go_at_call 47; refine (sFlagsOk_any _ _ dF HF).mono ?_; rintro e w1 ⟨rfl, rfl⟩))
    all_goals go_ret
    all_goals refine ⟨ret_no Hr.out (fun hn0 => ?_), bxt⟩
    all_goals (have hn := (commitK5 v u f nm tx).1 hn0; clear hn0; have hE := of_decide_eq_true HE.out; simp only [DCommit.mk.injEq] at hE; exact no_of HU.out (by simp_all))
  cases dF
  · skip
    go_enter Tryd.func105, Tryd.ntmps105
    go_wp2_with (first | (go_at_call_of 43 (u); refine (l1In_any _ _ _ _ true HU).mono ?_; rintro e w1 ⟨rfl, rfl⟩) | (go_at_call 46; refine (sNumber_any _ _ true HV).mono ?_; rintro e w1 ⟨rfl, rfl⟩) | (go_at_call 43; refine (l1In_any _ _ _ _ true HK).mono ?_; rintro e w1 ⟨rfl, rfl⟩) | (go_at_call 47; refine (sFlagsOk_any _ _ false HF).mono ?_; rintro e w1 ⟨rfl, rfl⟩))
    all_goals go_ret
    all_goals refine ⟨ret_no Hr.out (fun hn0 => ?_), bxt⟩
    all_goals (have hn := (commitK5 v u f nm tx).1 hn0; clear hn0; have hE := of_decide_eq_true HE.out; simp only [DCommit.mk.injEq] at hE; exact no_of HF.out (by simp_all))
  by_cases hT : tx.size ≤ 40
  rotate_left
  · have hT1 : (40 : Int) < (tx.size : Int) := by omega
    have hT2 : decide ((tx.size : Int) ≤ 40) = false := by (simp; omega)
    have HT := Lib.hid hT
    clear hT
    go_enter Tryd.func105, Tryd.ntmps105
    go_wp2_with (first | (go_at_call_of 43 (u); refine (l1In_any _ _ _ _ true HU).mono ?_; rintro e w1 ⟨rfl, rfl⟩) | (go_at_call 46; refine (sNumber_any _ _ true HV).mono ?_; rintro e w1 ⟨rfl, rfl⟩) | (go_at_call 43; refine (l1In_any _ _ _ _ true HK).mono ?_; rintro e w1 ⟨rfl, rfl⟩) | (go_at_call 47; refine (sFlagsOk_any _ _ true HF).mono ?_; rintro e w1 ⟨rfl, rfl⟩))
    all_goals go_ret
    all_goals refine ⟨ret_no Hr.out (fun hn0 => ?_), bxt⟩
    all_goals (have hn := (commitK5 v u f nm tx).1 hn0; clear hn0; have hE := of_decide_eq_true HE.out; simp only [DCommit.mk.injEq] at hE; exact HT.out (by first | exact hn.2.1.2.2 | (have h0 : tx = ⟨#[]⟩ := (by simp_all); rw [h0]; exact Nat.zero_le _)))
  have hT1 : (tx.size : Int) ≤ 40 := by omega
  have HT := Lib.hid hT
  clear hT
  go_enter Tryd.func105, Tryd.ntmps105
  go_wp2_with (first | (go_at_call_of 43 (u); refine (l1In_any _ _ _ _ true HU).mono ?_; rintro e w1 ⟨rfl, rfl⟩) | (go_at_call 46; refine (sNumber_any _ _ true HV).mono ?_; rintro e w1 ⟨rfl, rfl⟩) | (go_at_call 43; refine (l1In_any _ _ _ _ true HK).mono ?_; rintro e w1 ⟨rfl, rfl⟩) | (go_at_call 47; refine (sFlagsOk_any _ _ true HF).mono ?_; rintro e w1 ⟨rfl, rfl⟩))
  go_ret
  refine ⟨ret_yes Hr.out ((commitK5 v u f nm tx).2 ?_), bxt⟩
  have hV := yes_of HV.out; have hE := of_decide_eq_true HE.out; simp only [DCommit.mk.injEq] at hE; have hU := yes_of HU.out; have hF := yes_of HF.out; have hT := HT.out; simp_all

set_option maxHeartbeats 4000000 in
theorem specCommitOk6 (v u f : Int) (nm tx : ByteArray) (w : World) (g1 : nm.size ≤ 9223372036854775807) (g2 : tx.size ≤ 9223372036854775807) (r : Bool) (Hr : Hid (Tells r (CommitK 6 v u f nm tx))) :
    Calls Tryd.prog 105 #[.agg #[.int .i64 6, .int .i64 v, .int .i64 u, .int .i64 f, .string nm, .string tx]] w fun e w' => e = .returned (.bool r) ∧ Ext w w' := by
  have hG := eqCommitG
  have HK : Hid (Tells true ((1 : Int) ≤ 6 ∧ (6 : Int) ≤ 6)) := by (constructor <;> intro _ <;> decide)
  obtain ⟨dV, hV⟩ := boolOf (1 ≤ v ∧ v ≤ 999999999)
  have HV := Lib.hid hV
  clear hV
  obtain ⟨dE, hE⟩ : ∃ d, decide ((⟨6, v, u, f, nm, tx⟩ : DCommit) = ⟨6, v, u, 0, ⟨#[]⟩, ⟨#[]⟩⟩) = d := ⟨_, rfl⟩
  have HE := Lib.hid hE
  have hq := fun w => eqCommitB (⟨6, v, u, f, nm, tx⟩ : DCommit) ⟨6, v, u, 0, ⟨#[]⟩, ⟨#[]⟩⟩ dE hE w
  dsimp only at hq
  clear hE
  obtain ⟨dU, hU⟩ := boolOf (1 ≤ u ∧ u ≤ 999999998)
  have HU := Lib.hid hU
  clear hU
  obtain ⟨dF, hF⟩ := boolOf (0 ≤ f ∧ f ≤ 31)
  have HF := Lib.hid hF
  clear hF
  cases dV
  · skip
    go_enter Tryd.func105, Tryd.ntmps105
    go_wp2_with (first | (go_at_call_of 43 (u); refine (l1In_any _ _ _ _ dU HU).mono ?_; rintro e w1 ⟨rfl, rfl⟩) | (go_at_call 46; refine (sNumber_any _ _ false HV).mono ?_; rintro e w1 ⟨rfl, rfl⟩) | (go_at_call 43; refine (l1In_any _ _ _ _ true HK).mono ?_; rintro e w1 ⟨rfl, rfl⟩) | (go_at_call 47; refine (sFlagsOk_any _ _ dF HF).mono ?_; rintro e w1 ⟨rfl, rfl⟩))
    all_goals go_ret
    all_goals refine ⟨ret_no Hr.out (fun hn0 => ?_), bxt⟩
    all_goals (have hn := (commitK6 v u f nm tx).1 hn0; clear hn0; exact no_of HV.out (by simp_all))
  cases dE
  · skip
    go_enter Tryd.func105, Tryd.ntmps105
    go_wp2_with (first | (go_at_call_of 43 (u); refine (l1In_any _ _ _ _ dU HU).mono ?_; rintro e w1 ⟨rfl, rfl⟩) | (go_at_call 46; refine (sNumber_any _ _ true HV).mono ?_; rintro e w1 ⟨rfl, rfl⟩) | (go_at_call 43; refine (l1In_any _ _ _ _ true HK).mono ?_; rintro e w1 ⟨rfl, rfl⟩) | (go_at_call 47; refine (sFlagsOk_any _ _ dF HF).mono ?_; rintro e w1 ⟨rfl, rfl⟩))
    all_goals go_ret
    all_goals refine ⟨ret_no Hr.out (fun hn0 => ?_), bxt⟩
    all_goals (have hn := (commitK6 v u f nm tx).1 hn0; clear hn0; exact of_decide_eq_false HE.out (by simp_all))
  cases dU
  · skip
    go_enter Tryd.func105, Tryd.ntmps105
    go_wp2_with (first | (go_at_call_of 43 (u); refine (l1In_any _ _ _ _ false HU).mono ?_; rintro e w1 ⟨rfl, rfl⟩) | (go_at_call 46; refine (sNumber_any _ _ true HV).mono ?_; rintro e w1 ⟨rfl, rfl⟩) | (go_at_call 43; refine (l1In_any _ _ _ _ true HK).mono ?_; rintro e w1 ⟨rfl, rfl⟩) | (go_at_call 47; refine (sFlagsOk_any _ _ dF HF).mono ?_; rintro e w1 ⟨rfl, rfl⟩))
    all_goals go_ret
    all_goals refine ⟨ret_no Hr.out (fun hn0 => ?_), bxt⟩
    all_goals (have hn := (commitK6 v u f nm tx).1 hn0; clear hn0; have hE := of_decide_eq_true HE.out; simp only [DCommit.mk.injEq] at hE; exact no_of HU.out (by simp_all))
  cases dF
  · skip
    go_enter Tryd.func105, Tryd.ntmps105
    go_wp2_with (first | (go_at_call_of 43 (u); refine (l1In_any _ _ _ _ true HU).mono ?_; rintro e w1 ⟨rfl, rfl⟩) | (go_at_call 46; refine (sNumber_any _ _ true HV).mono ?_; rintro e w1 ⟨rfl, rfl⟩) | (go_at_call 43; refine (l1In_any _ _ _ _ true HK).mono ?_; rintro e w1 ⟨rfl, rfl⟩) | (go_at_call 47; refine (sFlagsOk_any _ _ false HF).mono ?_; rintro e w1 ⟨rfl, rfl⟩))
    all_goals go_ret
    all_goals refine ⟨ret_no Hr.out (fun hn0 => ?_), bxt⟩
    all_goals (have hn := (commitK6 v u f nm tx).1 hn0; clear hn0; have hE := of_decide_eq_true HE.out; simp only [DCommit.mk.injEq] at hE; exact no_of HF.out (by simp_all))
  by_cases hT : tx.size ≤ 40
  rotate_left
  · have hT1 : (40 : Int) < (tx.size : Int) := by omega
    have hT2 : decide ((tx.size : Int) ≤ 40) = false := by (simp; omega)
    have HT := Lib.hid hT
    clear hT
    go_enter Tryd.func105, Tryd.ntmps105
    go_wp2_with (first | (go_at_call_of 43 (u); refine (l1In_any _ _ _ _ true HU).mono ?_; rintro e w1 ⟨rfl, rfl⟩) | (go_at_call 46; refine (sNumber_any _ _ true HV).mono ?_; rintro e w1 ⟨rfl, rfl⟩) | (go_at_call 43; refine (l1In_any _ _ _ _ true HK).mono ?_; rintro e w1 ⟨rfl, rfl⟩) | (go_at_call 47; refine (sFlagsOk_any _ _ true HF).mono ?_; rintro e w1 ⟨rfl, rfl⟩))
    all_goals go_ret
    all_goals refine ⟨ret_no Hr.out (fun hn0 => ?_), bxt⟩
    all_goals (have hn := (commitK6 v u f nm tx).1 hn0; clear hn0; have hE := of_decide_eq_true HE.out; simp only [DCommit.mk.injEq] at hE; exact HT.out (by first | exact hn.2.1.2.2 | (have h0 : tx = ⟨#[]⟩ := (by simp_all); rw [h0]; exact Nat.zero_le _)))
  have hT1 : (tx.size : Int) ≤ 40 := by omega
  have HT := Lib.hid hT
  clear hT
  go_enter Tryd.func105, Tryd.ntmps105
  go_wp2_with (first | (go_at_call_of 43 (u); refine (l1In_any _ _ _ _ true HU).mono ?_; rintro e w1 ⟨rfl, rfl⟩) | (go_at_call 46; refine (sNumber_any _ _ true HV).mono ?_; rintro e w1 ⟨rfl, rfl⟩) | (go_at_call 43; refine (l1In_any _ _ _ _ true HK).mono ?_; rintro e w1 ⟨rfl, rfl⟩) | (go_at_call 47; refine (sFlagsOk_any _ _ true HF).mono ?_; rintro e w1 ⟨rfl, rfl⟩))
  go_ret
  refine ⟨ret_yes Hr.out ((commitK6 v u f nm tx).2 ?_), bxt⟩
  have hV := yes_of HV.out; have hE := of_decide_eq_true HE.out; simp only [DCommit.mk.injEq] at hE; have hU := yes_of HU.out; have hF := yes_of HF.out; have hT := HT.out; simp_all

set_option maxHeartbeats 4000000 in
theorem specCommitOk0 (k v u f : Int) (nm tx : ByteArray) (w : World) (hk : ¬ (1 ≤ k ∧ k ≤ 6)) :
    Calls Tryd.prog 105 #[.agg #[.int .i64 k, .int .i64 v, .int .i64 u, .int .i64 f, .string nm, .string tx]] w fun e w' => e = .returned (.bool false) ∧ Ext w w' := by
  have HK : Hid (Tells false (1 ≤ k ∧ k ≤ 6)) := by (constructor; intro h; cases h; intro h; exact (hk h).elim)
  clear hk
  go_enter Tryd.func105, Tryd.ntmps105
  go_wp2_with ((go_at_call 43; refine (l1In_any _ _ _ _ false HK).mono ?_; rintro e w1 ⟨rfl, rfl⟩))
  go_ret
  exact ⟨rfl, bxt⟩

theorem specCommitOk_any (a : DCommit) (w : World) (g1 : a.name.size ≤ 9223372036854775807) (g2 : a.text.size ≤ 9223372036854775807) (r : Bool) (Hr : Hid (Tells r (CommitP a))) :
    Calls Tryd.prog 105 #[.agg #[.int .i64 a.kind, .int .i64 a.validity, .int .i64 a.uid, .int .i64 a.flags, .string a.name, .string a.text]] w fun e w' => e = .returned (.bool r) ∧ Ext w w' := by
  obtain ⟨k, v, u, f, nm, tx⟩ := a
  by_cases hk : 1 ≤ k ∧ k ≤ 6
  · have : k = 1 ∨ k = 2 ∨ k = 3 ∨ k = 4 ∨ k = 5 ∨ k = 6 := by omega
    rcases this with rfl | rfl | rfl | rfl | rfl | rfl
    · exact specCommitOk1 v u f nm tx w g1 g2 r Hr
    · exact specCommitOk2 v u f nm tx w g1 g2 r Hr
    · exact specCommitOk3 v u f nm tx w g1 g2 r Hr
    · exact specCommitOk4 v u f nm tx w g1 g2 r Hr
    · exact specCommitOk5 v u f nm tx w g1 g2 r Hr
    · exact specCommitOk6 v u f nm tx w g1 g2 r Hr
  · have : r = false := Hr.out.eq_false (commitK_no k v u f nm tx hk)
    subst this
    exact specCommitOk0 k v u f nm tx w hk

end Go.Proofs.YtadjlfcdjkikgaaDoor
