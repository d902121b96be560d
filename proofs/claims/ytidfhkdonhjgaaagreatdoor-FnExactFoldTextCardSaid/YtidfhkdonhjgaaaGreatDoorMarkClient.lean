/-
  The laws' functions over Client: marks laid and looked at.
-/
import Derived.Test.YtidfhkdonhjgaaaGreatDoorFamClient
import Derived.Test.YtidfhkdonhjgaaaGreatDoorMarkSeen
namespace Go.Proofs.YtidfhkdonhjgaaaGreatDoor
open Go.RowKit
set_option linter.unusedVariables false
set_option linter.unusedSimpArgs false

set_option maxHeartbeats 1000000 in
theorem markClient_any (xactive : Bool) (xname : ByteArray) (xvalidity : Int) (xsize : Int) (xknown : List DSeen) (xknownA : Option Addr) (xknownC : Nat) (xbad : Bool) (B : Nat) (k : Int) (w : World) (hw : Own w B 89 2 (.slice xknownA xknown.length xknownC) xknown.length (xknown.flatMap DSeen.cells)) (h0 : 1 ≤ k) (h1 : k ≤ 100000000) (hl : xknown.length ≤ 2097152) :
    Calls Tryz.prog 24 #[.agg #[.bool xactive, .string xname, .int .i64 xvalidity, .int .i64 xsize, .slice xknownA xknown.length xknownC, .bool xbad], .int .i64 k] w fun e w' => e = .returned (.int .i64 (k + 2 * xknown.length)) ∧ Own w' B 89 2 (.slice xknownA xknown.length xknownC) xknown.length ((markN DSeen.mark 2 xknown.length k).flatMap DSeen.cells) ∧ w.grownBy w' (foot (.slice xknownA xknown.length xknownC)) := by
  have HW := Lib.hid hw
  clear hw
  have hk1 : k + 2 * xknown.length ≤ 9223372036854775807 := by omega
  go_enter Tryz.func24, Tryz.ntmps24
  go_wp2_with fail
  refine (markSeenS_any xknown _ _ B k _ (HW.out.ext bxt) h0 h1 hl).mono ?_
  rintro e w1 ⟨rfl, hown, hg⟩
  have HO := Lib.hid hown
  have HG := Lib.hid hg
  clear hown hg
  go_wp2_with fail
  go_ret
  exact ⟨rfl, HO.out, grown_trans (grown_ext bxt) HG.out⟩

set_option maxHeartbeats 1000000 in
theorem heldClient_any (n : Nat) (xactive : Bool) (xname : ByteArray) (xvalidity : Int) (xsize : Int) (xbad : Bool) (xknownA : Option Addr) (xknownC : Nat) (k : Int) (w : World) (R : Rd w xknownA xknownC 2 n ((markN DSeen.mark 2 n k).flatMap DSeen.cells)) (h0 : 1 ≤ k) (h1 : k ≤ 100000000) (hl : n ≤ 2097152) :
    Calls Tryz.prog 25 #[.agg #[.bool xactive, .string xname, .int .i64 xvalidity, .int .i64 xsize, .slice xknownA n xknownC, .bool xbad], .int .i64 k] w fun e w' => e = .returned (.int .i64 (k + 2 * n)) ∧ Ext w w' := by
  have HR := Lib.hid R
  clear R
  have hk1 : k + 2 * n ≤ 9223372036854775807 := by omega
  have hk2 : 0 ≤ k + 2 * n := by omega
  go_enter Tryz.func25, Tryz.ntmps25
  go_wp2_with fail
  refine (heldSeenS_any n _ _ k _ (HR.out.ext bxt) h0 h1 hl).mono ?_
  rintro e w1 ⟨rfl, hb1⟩
  go_wp2_with fail
  go_ret
  exact ⟨rfl, bxt⟩

end Go.Proofs.YtidfhkdonhjgaaaGreatDoor
