/-
  The laws' own small functions: whether the bytes are too many; one of them.
-/
import Derived.Test.YtgobkfnmagcgcaaDraw4
namespace Go.Proofs.Ytgobkfnmagcgcaa
open Go.RowKit
set_option linter.unusedVariables false
set_option linter.unusedSimpArgs false

set_option maxHeartbeats 1000000 in
theorem big_any (n : Nat) (a : Option Addr) (c : Nat) (w : World) (hn : n ≤ 9223372036854775807) (r : Bool) (Hr : Hid (Tells r (1048576 < n))) :
    Calls Try.prog 8 #[.slice a n c] w fun e w' => e = .returned (.bool r) ∧ w = w' := by
  by_cases h : 1048576 < n
  · have h1 : decide ((1048576 : Int) < (n : Int)) = true := decide_eq_true (by omega)
    have h2 : (1048576 : Int) < (n : Int) := by omega
    go_enter Try.func8, Try.ntmps8
    go_wp2_with fail
    go_ret
    exact ⟨ret_yes Hr.out h, rfl⟩
  · have h1 : decide ((1048576 : Int) < (n : Int)) = false := decide_eq_false (by omega)
    have h3 : decide (1048576 < n) = false := decide_eq_false h
    go_enter Try.func8, Try.ntmps8
    go_wp2_with fail
    go_ret
    exact ⟨ret_no Hr.out h, rfl⟩
set_option maxHeartbeats 1000000 in
theorem at0_any (l : List Int) (a : Option Addr) (c : Nat) (i : Nat) (w : World) (R : Rd w a c 1 l.length (l.flatMap byteCells)) (hb : ∀ y ∈ l, 0 ≤ y ∧ y ≤ 255) (hl : l.length ≤ 1048576) (hi : i ≤ 100) :
    Calls Try.prog 27 #[.slice a l.length c, .int .i64 i] w fun e w' => ∃ v : Int, (0 ≤ v ∧ v ≤ 255) ∧ e = .returned (.int .i64 v) ∧ w = w' := by
  by_cases h : i < l.length
  · obtain ⟨b, o, rfl, hbb, hat⟩ := R.ptr (by omega)
    have hx := byteCells_at hat i h
    have hy := hb _ (List.getElem_mem h)
    have h1 : decide ((i : Int) < (l.length : Int)) = true := decide_eq_true (by omega)
    have h2 : (i : Int) < (l.length : Int) := by omega
    have h3 : (0 : Int) ≤ (i : Int) := by omega
    have HAT := Lib.hid hat
    have HB := Lib.hid hb
    have HR := Lib.hid R
    clear hat hb R
    go_enter Try.func27, Try.ntmps27
    go_wp2_with fail
    go_ret
    exact ⟨_, hy, rfl, rfl⟩
  · have h1 : decide ((i : Int) < (l.length : Int)) = false := decide_eq_false (by omega)
    have h3 : decide (i < l.length) = false := decide_eq_false h
    have HB := Lib.hid hb
    have HR := Lib.hid R
    clear hb R
    go_enter Try.func27, Try.ntmps27
    go_wp2_with fail
    go_ret
    exact ⟨_, ⟨Int.emod_nonneg _ (by omega), by have := Int.emod_lt_of_pos ((i : Int) * 7 + (l.length : Int)) (show (0 : Int) < 256 by omega); omega⟩, rfl, rfl⟩
end Go.Proofs.Ytgobkfnmagcgcaa
