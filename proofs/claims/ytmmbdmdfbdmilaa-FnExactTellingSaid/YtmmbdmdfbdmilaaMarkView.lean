/-
  The laws' functions over View: marks laid and looked at.
-/
import Derived.Test.YtmmbdmdfbdmilaaFamView
import Derived.Test.YtmmbdmdfbdmilaaMarkSeen
namespace Go.Proofs.Ytmmbdmdfbdmilaa
open Go.RowKit
set_option linter.unusedVariables false
set_option linter.unusedSimpArgs false

set_option maxHeartbeats 1000000 in
theorem markView_any (xknown : List DSeen) (xknownA : Option Addr) (xknownC : Nat) (B : Nat) (k : Int) (w : World) (hw : Own w B 95 2 (.slice xknownA xknown.length xknownC) xknown.length (xknown.flatMap DSeen.cells)) (h0 : 1 ≤ k) (h1 : k ≤ 100000000) (hl : xknown.length ≤ 2097152) :
    Calls Try.prog 34 #[.agg #[.slice xknownA xknown.length xknownC], .int .i64 k] w fun e w' => e = .returned (.int .i64 (k + 2 * xknown.length)) ∧ Own w' B 95 2 (.slice xknownA xknown.length xknownC) xknown.length ((markN DSeen.mark 2 xknown.length k).flatMap DSeen.cells) ∧ w.grownBy w' (foot (.slice xknownA xknown.length xknownC)) := by
  have HW := Lib.hid hw
  clear hw
  have hk1 : k + 2 * xknown.length ≤ 9223372036854775807 := by omega
  go_enter Try.func34, Try.ntmps34
  go_wp2_with fail
  refine (markSeenS_any xknown _ _ B k _ (HW.out.ext (by repeat' (first | with_reducible exact Below.refl _ _ | with_reducible assumption | with_reducible refine Below.alloc ?_ ?_ _ | with_reducible refine Below.setCell ?_ ?_ _ | with_reducible refine Below.drew ?_ | with_reducible refine Below.drewN ?_ _ | with_reducible refine Below.ext ?_ (by assumption) | (simp <;> omega) | omega))) h0 h1 hl).mono ?_
  rintro e w1 ⟨rfl, hown, hg⟩
  have HO := Lib.hid hown
  have HG := Lib.hid hg
  clear hown hg
  go_wp2_with fail
  go_ret
  exact ⟨rfl, HO.out, grown_trans (grown_ext (by repeat' (first | with_reducible exact Below.refl _ _ | with_reducible assumption | with_reducible refine Below.alloc ?_ ?_ _ | with_reducible refine Below.setCell ?_ ?_ _ | with_reducible refine Below.drew ?_ | with_reducible refine Below.drewN ?_ _ | with_reducible refine Below.ext ?_ (by assumption) | (simp <;> omega) | omega))) HG.out⟩

set_option maxHeartbeats 1000000 in
theorem heldView_any (n : Nat)  (xknownA : Option Addr) (xknownC : Nat) (k : Int) (w : World) (R : Rd w xknownA xknownC 2 n ((markN DSeen.mark 2 n k).flatMap DSeen.cells)) (h0 : 1 ≤ k) (h1 : k ≤ 100000000) (hl : n ≤ 2097152) :
    Calls Try.prog 35 #[.agg #[.slice xknownA n xknownC], .int .i64 k] w fun e w' => e = .returned (.int .i64 (k + 2 * n)) ∧ Ext w w' := by
  have HR := Lib.hid R
  clear R
  have hk1 : k + 2 * n ≤ 9223372036854775807 := by omega
  have hk2 : 0 ≤ k + 2 * n := by omega
  go_enter Try.func35, Try.ntmps35
  go_wp2_with fail
  refine (heldSeenS_any n _ _ k _ (HR.out.ext (by repeat' (first | with_reducible exact Below.refl _ _ | with_reducible assumption | with_reducible refine Below.alloc ?_ ?_ _ | with_reducible refine Below.setCell ?_ ?_ _ | with_reducible refine Below.drew ?_ | with_reducible refine Below.drewN ?_ _ | with_reducible refine Below.ext ?_ (by assumption) | (simp <;> omega) | omega))) h0 h1 hl).mono ?_
  rintro e w1 ⟨rfl, hb1⟩
  go_wp2_with fail
  go_ret
  exact ⟨rfl, by repeat' (first | with_reducible exact Below.refl _ _ | with_reducible assumption | with_reducible refine Below.alloc ?_ ?_ _ | with_reducible refine Below.setCell ?_ ?_ _ | with_reducible refine Below.drew ?_ | with_reducible refine Below.drewN ?_ _ | with_reducible refine Below.ext ?_ (by assumption) | (simp <;> omega) | omega)⟩

end Go.Proofs.Ytmmbdmdfbdmilaa
