/-
  The byte that the laws take of their input: its value.
-/
import Derived.Test.YtjcnhkmhcfmoeaaGreatXDr
namespace Go.Proofs.YtjcnhkmhcfmoeaaGreat
open Go.RowKit
set_option linter.unusedVariables false
set_option linter.unusedSimpArgs false

/-- the byte that at0 answers -/
def at0V (l : List Int) (i : Nat) : Int := if h : i < l.length then l[i] else ((i : Int) * 7 + (l.length : Int)) % 256
theorem at0V_range (l : List Int) (i : Nat) (hb : ∀ y ∈ l, 0 ≤ y ∧ y ≤ 255) : 0 ≤ at0V l i ∧ at0V l i ≤ 255 := by
  unfold at0V
  split
  · rename_i h; exact hb _ (List.getElem_mem h)
  · exact ⟨Int.emod_nonneg _ (by omega), by have := Int.emod_lt_of_pos ((i : Int) * 7 + (l.length : Int)) (show (0 : Int) < 256 by omega); omega⟩
set_option maxHeartbeats 1000000 in
theorem at0_eq (l : List Int) (a : Option Addr) (c : Nat) (i : Nat) (w : World) (R : Rd w a c 1 l.length (l.flatMap byteCells)) (hb : ∀ y ∈ l, 0 ≤ y ∧ y ≤ 255) (hl : l.length ≤ 1048576) (hi : i ≤ 100) (r : Int) (Hr : Hid (at0V l i = r)) :
    Calls Tryz.prog 27 #[.slice a l.length c, .int .i64 i] w fun e w' => e = .returned (.int .i64 r) ∧ w = w' := by
  by_cases h : i < l.length
  · obtain rfl : l[i] = r := by rw [← Hr.out]; unfold at0V; rw [dif_pos h]
    obtain ⟨b, o, rfl, hbb, hat⟩ := R.ptr (by omega)
    have hx := byteCells_at hat i h
    have hy := hb _ (List.getElem_mem h)
    have h1 : decide ((i : Int) < (l.length : Int)) = true := decide_eq_true (by omega)
    have h2 : (i : Int) < (l.length : Int) := by omega
    have h3 : (0 : Int) ≤ (i : Int) := by omega
    have HAT := Lib.hid hat
    have HB := Lib.hid hb
    have HR := Lib.hid R
    clear hat hb R
    go_enter Tryz.func27, Tryz.ntmps27
    go_wp2_with fail
    go_ret
    exact ⟨rfl, rfl⟩
  · obtain rfl : ((i : Int) * 7 + (l.length : Int)) % 256 = r := by rw [← Hr.out]; unfold at0V; rw [dif_neg h]
    have h1 : decide ((i : Int) < (l.length : Int)) = false := decide_eq_false (by omega)
    have h3 : decide (i < l.length) = false := decide_eq_false h
    have HB := Lib.hid hb
    have HR := Lib.hid R
    clear hb R
    go_enter Tryz.func27, Tryz.ntmps27
    go_wp2_with fail
    go_ret
    exact ⟨rfl, rfl⟩
end Go.Proofs.YtjcnhkmhcfmoeaaGreat
