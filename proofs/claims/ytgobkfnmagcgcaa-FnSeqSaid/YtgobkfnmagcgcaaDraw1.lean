/-
  The draws of a byte, of a number below another, of a truth.
-/
import Derived.Test.YtgobkfnmagcgcaaDraw
import Derived.RegionTactic
import Derived.ChangeAlike
namespace Go.Proofs.Ytgobkfnmagcgcaa
open Go.RowKit
set_option linter.unusedVariables false
set_option linter.unusedSimpArgs false

set_option maxRecDepth 100000 in
set_option maxHeartbeats 1000000 in
theorem l1Byte_any (cb : Nat) (w : World) (hc : Cur w cb) :
    Calls Try.prog 100 #[.pointer (some ⟨cb, 0, none⟩)] w (DrI (fun v => 0 ≤ v ∧ v ≤ 255) cb w) := by
  obtain ⟨a, c, l, i, h, c0, c1, c2, hi, hl, hb, hr, hlt⟩ := hc.row
  obtain ⟨f0, f1, f2⟩ := hc.frz
  have hcl := hc.lt
  have HC := Lib.hid hc
  have HB := Lib.hid hb
  have HR := Lib.hid hr
  have HLT := Lib.hid hlt
  clear hc hb hr hlt
  by_cases hil : i < l.length
  · obtain ⟨b, o, rfl, hbb, hat⟩ := HR.out.ptr (by omega)
    have hx := byteCells_at hat i hil
    have hbc : b < cb := HLT.out (by omega) b o rfl
    have hy := HB.out _ (List.getElem_mem hil)
    have k1 : (0 : Int) ≤ (i : Int) := by omega
    have k2 : (i : Int) < (l.length : Int) := by omega
    have hne : cb ≠ b := by omega
    have hne2 : b ≠ cb := by omega
    have HAT := Lib.hid hat
    clear hat
    go_enter Try.func100, Try.ntmps100
    go_wp2_with fail
    go_quiet (fail)
    go_wp2_with fail
    go_quiet (fail)
    go_wp2_with fail
    go_quiet (fail)
    go_wp2_with fail
    go_ret
    exact ⟨_, and255 _, rfl, Dr.setI ((Dr.refl HC.out).setH _).drewN _ _ _ (i + 1) (cell_set_ne c0 (by omega)) (by omega) ((i : Int) + 1) (by simp)⟩
  · have k2 : decide ((i : Int) < (l.length : Int)) = false := by simp; omega
    go_enter Try.func100, Try.ntmps100
    go_wp2_with fail
    go_quiet (fail)
    go_wp2_with fail
    go_quiet (fail)
    go_wp2_with fail
    go_ret
    exact ⟨_, and255 _, rfl, ((Dr.refl HC.out).setH _).drewN.drewN⟩

set_option maxHeartbeats 1000000 in
theorem l1Below_any (cb : Nat) (n : Int) (w : World) (hc : Cur w cb) (h1 : n ≤ 9223372036854775807) :
    Calls Try.prog 65 #[.pointer (some ⟨cb, 0, none⟩), .int .i64 n] w (DrI (fun v => 0 ≤ v ∧ (0 < n → v < n) ∧ (n ≤ 0 → v = 0)) cb w) := by
  have HC := Lib.hid hc
  clear hc
  by_cases hn : n ≤ 0
  · go_enter Try.func65, Try.ntmps65
    go_wp2_with fail
    go_ret
    exact ⟨0, ⟨by omega, by omega, fun _ => rfl⟩, rfl, Dr.refl HC.out⟩
  · have hn0 : 0 < n := by omega
    have hn' : (n ≤ 0) = False := by simp; omega
    by_cases h2 : n ≤ 256
    · go_enter Try.func65, Try.ntmps65
      go_wp2_with ((refine (l1Byte_any cb _ HC.out).mono ?_; rintro e w1 ⟨v, ⟨hv0, hv1⟩, rfl, hd⟩))
      go_ret
      exact ⟨_, ⟨Int.emod_nonneg _ (by omega), fun _ => Int.emod_lt_of_pos _ hn0, fun h => by omega⟩, rfl, hd⟩
    · go_enter Try.func65, Try.ntmps65
      go_wp2_with fail
      refine (l1Byte_any cb _ HC.out).mono ?_
      rintro e w1 ⟨v1, ⟨hv1, hv1'⟩, rfl, hd1⟩
      go_wp2_with fail
      refine (l1Byte_any cb _ hd1.cur).mono ?_
      rintro e w2 ⟨v2, ⟨hv2, hv2'⟩, rfl, hd2⟩
      go_wp2_with fail
      refine (l1Byte_any cb _ hd2.cur).mono ?_
      rintro e w3 ⟨v3, ⟨hv3, hv3'⟩, rfl, hd3⟩
      go_wp2_with fail
      refine (l1Byte_any cb _ hd3.cur).mono ?_
      rintro e w4 ⟨v4, ⟨hv4, hv4'⟩, rfl, hd4⟩
      go_wp2_with fail
      go_ret
      exact ⟨_, ⟨Int.emod_nonneg _ (by omega), fun _ => Int.emod_lt_of_pos _ hn0, fun h => by omega⟩, rfl, ((hd1.trans hd2).trans hd3).trans hd4⟩
set_option maxHeartbeats 1000000 in
theorem l1Once_any (cb : Nat) (n : Int) (w : World) (hc : Cur w cb) (h1 : n ≤ 9223372036854775807) :
    Calls Try.prog 52 #[.pointer (some ⟨cb, 0, none⟩), .int .i64 n] w (DrB cb w) := by
  have HC := Lib.hid hc
  clear hc
  go_enter Try.func52, Try.ntmps52
  go_wp2_with ((refine (l1Below_any cb n _ HC.out h1).mono ?_; rintro e w1 ⟨v, hv, rfl, hd⟩; have HV := Lib.hid hv; clear hv))
  go_ret
  exact ⟨_, rfl, hd⟩
end Go.Proofs.Ytgobkfnmagcgcaa
