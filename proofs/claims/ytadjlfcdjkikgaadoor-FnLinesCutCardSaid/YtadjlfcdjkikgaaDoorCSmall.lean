/-
  The small tests of the program and of the reference: a number between two others; flags.
-/
import Derived.Test.YtadjlfcdjkikgaaDoorMem
namespace Go.Proofs.YtadjlfcdjkikgaaDoor
open Go.RowKit
set_option linter.unusedVariables false

set_option maxHeartbeats 1000000 in
theorem within_any (n lo hi : Int) (w : World) (r : Bool) (Hr : Hid (Tells r (lo ≤ n ∧ n ≤ hi))) :
    Calls Tryd.prog 53 #[.int .i64 n, .int .i64 lo, .int .i64 hi] w fun e w' => e = .returned (.bool r) ∧ w' = w := by
  by_cases h1 : lo ≤ n
  · have h1' : decide (lo ≤ n) = true := by simpa using h1
    by_cases h2 : n ≤ hi
    · go_enter Tryd.func53, Tryd.ntmps53
      go_wp2
      all_goals go_ret
      all_goals exact ⟨ret_yes Hr.out ⟨h1, h2⟩, rfl⟩
    · have h2' : decide (n ≤ hi) = false := by simpa using h2
      go_enter Tryd.func53, Tryd.ntmps53
      go_wp2
      all_goals go_ret
      all_goals exact ⟨ret_no Hr.out (fun h => by omega), rfl⟩
  · have h1' : decide (lo ≤ n) = false := by simpa using h1
    go_enter Tryd.func53, Tryd.ntmps53
    go_wp2
    all_goals go_ret
    all_goals exact ⟨ret_no Hr.out (fun h => by omega), rfl⟩
theorem within_dec (n lo hi : Int) (w : World) :
    Calls Tryd.prog 53 #[.int .i64 n, .int .i64 lo, .int .i64 hi] w fun e w' => e = .returned (.bool (decide (lo ≤ n) && decide (n ≤ hi))) ∧ w' = w :=
  within_any n lo hi w _ (Lib.hid ⟨fun h => by simpa using h, fun h => by simpa using h⟩)
set_option maxHeartbeats 1000000 in
theorem l1In_any (n lo hi : Int) (w : World) (r : Bool) (Hr : Hid (Tells r (lo ≤ n ∧ n ≤ hi))) :
    Calls Tryd.prog 43 #[.int .i64 n, .int .i64 lo, .int .i64 hi] w fun e w' => e = .returned (.bool r) ∧ w' = w := by
  by_cases h1 : lo ≤ n
  · have h1' : decide (lo ≤ n) = true := by simpa using h1
    by_cases h2 : n ≤ hi
    · go_enter Tryd.func43, Tryd.ntmps43
      go_wp2
      all_goals go_ret
      all_goals exact ⟨ret_yes Hr.out ⟨h1, h2⟩, rfl⟩
    · have h2' : decide (n ≤ hi) = false := by simpa using h2
      go_enter Tryd.func43, Tryd.ntmps43
      go_wp2
      all_goals go_ret
      all_goals exact ⟨ret_no Hr.out (fun h => by omega), rfl⟩
  · have h1' : decide (lo ≤ n) = false := by simpa using h1
    go_enter Tryd.func43, Tryd.ntmps43
    go_wp2
    all_goals go_ret
    all_goals exact ⟨ret_no Hr.out (fun h => by omega), rfl⟩
theorem l1In_dec (n lo hi : Int) (w : World) :
    Calls Tryd.prog 43 #[.int .i64 n, .int .i64 lo, .int .i64 hi] w fun e w' => e = .returned (.bool (decide (lo ≤ n) && decide (n ≤ hi))) ∧ w' = w :=
  l1In_any n lo hi w _ (Lib.hid ⟨fun h => by simpa using h, fun h => by simpa using h⟩)
set_option maxHeartbeats 1000000 in
theorem flagsOk_any (n : Int) (w : World) (r : Bool) (Hr : Hid (Tells r (0 ≤ n ∧ n ≤ 31))) :
    Calls Tryd.prog 55 #[.int .i64 n] w fun e w' => e = .returned (.bool r) ∧ w' = w := by
  go_enter Tryd.func55, Tryd.ntmps55
  go_wp2_with ((go_at_call 53; refine (within_any n 0 31 _ r Hr).mono ?_; rintro e w1 ⟨rfl, rfl⟩))
  go_ret
  exact ⟨rfl, rfl⟩
theorem flagsOk_dec (n : Int) (w : World) :
    Calls Tryd.prog 55 #[.int .i64 n] w fun e w' => e = .returned (.bool (decide (0 ≤ n) && decide (n ≤ 31))) ∧ w' = w :=
  flagsOk_any n w _ (Lib.hid ⟨fun h => by simpa using h, fun h => by simpa using h⟩)
set_option maxHeartbeats 1000000 in
theorem sFlagsOk_any (n : Int) (w : World) (r : Bool) (Hr : Hid (Tells r (0 ≤ n ∧ n ≤ 31))) :
    Calls Tryd.prog 47 #[.int .i64 n] w fun e w' => e = .returned (.bool r) ∧ w' = w := by
  go_enter Tryd.func47, Tryd.ntmps47
  go_wp2_with ((go_at_call 43; refine (l1In_any n 0 31 _ r Hr).mono ?_; rintro e w1 ⟨rfl, rfl⟩))
  go_ret
  exact ⟨rfl, rfl⟩
theorem sFlagsOk_dec (n : Int) (w : World) :
    Calls Tryd.prog 47 #[.int .i64 n] w fun e w' => e = .returned (.bool (decide (0 ≤ n) && decide (n ≤ 31))) ∧ w' = w :=
  sFlagsOk_any n w _ (Lib.hid ⟨fun h => by simpa using h, fun h => by simpa using h⟩)
theorem sNumber_any (n : Int) (w : World) (r : Bool) (Hr : Hid (Tells r (1 ≤ n ∧ n ≤ 999999999))) :
    Calls Tryd.prog 46 #[.int .i64 n] w fun e w' => e = .returned (.bool r) ∧ w' = w := by
  go_enter Tryd.func46, Tryd.ntmps46
  go_wp2_with ((go_at_call 43; refine (l1In_any _ _ _ _ r Hr).mono ?_; rintro e w1 ⟨rfl, rfl⟩))
  go_ret
  exact ⟨rfl, rfl⟩
theorem sNumber_dec (n : Int) (w : World) :
    Calls Tryd.prog 46 #[.int .i64 n] w fun e w' => e = .returned (.bool (decide (1 ≤ n) && decide (n ≤ 999999999))) ∧ w' = w :=
  sNumber_any n w _ (Lib.hid ⟨fun h => by simpa using h, fun h => by simpa using h⟩)
theorem isId_any (n : Int) (w : World) (r : Bool) (Hr : Hid (Tells r (1 ≤ n ∧ n ≤ 999999999))) :
    Calls Tryd.prog 54 #[.int .i64 n] w fun e w' => e = .returned (.bool r) ∧ w' = w := by
  go_enter Tryd.func54, Tryd.ntmps54
  go_wp2_with ((go_at_call 53; refine (within_any _ _ _ _ r Hr).mono ?_; rintro e w1 ⟨rfl, rfl⟩))
  go_ret
  exact ⟨rfl, rfl⟩
theorem isId_dec (n : Int) (w : World) :
    Calls Tryd.prog 54 #[.int .i64 n] w fun e w' => e = .returned (.bool (decide (1 ≤ n) && decide (n ≤ 999999999))) ∧ w' = w :=
  isId_any n w _ (Lib.hid ⟨fun h => by simpa using h, fun h => by simpa using h⟩)
end Go.Proofs.YtadjlfcdjkikgaaDoor
