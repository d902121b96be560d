/-
  The laws' functions over Box: marks laid and looked at.
-/
import Derived.Test.YtdigkaddmpdeoaaGreatFamBox
import Derived.Test.YtdigkaddmpdeoaaGreatXMark
namespace Go.Proofs.YtdigkaddmpdeoaaGreat
open Go.RowKit
set_option linter.unusedVariables false
set_option linter.unusedSimpArgs false

set_option maxHeartbeats 1000000 in
theorem markBox_any (xname : ByteArray) (xvalidity : Int) (xnext : Int) (xmsgs : List DMsg) (xmsgsA : Option Addr) (xmsgsC : Nat) (B : Nat) (k : Int) (w : World) (hw : Own w B 88 3 (.slice xmsgsA xmsgs.length xmsgsC) xmsgs.length (xmsgs.flatMap DMsg.cells)) (h0 : 1 ≤ k) (h1 : k ≤ 100000000) (hl : xmsgs.length ≤ 2097152) :
    Calls Tryz.prog 22 #[.agg #[.string xname, .int .i64 xvalidity, .int .i64 xnext, .slice xmsgsA xmsgs.length xmsgsC], .int .i64 k] w fun e w' => e = .returned (.int .i64 (k + 3 * xmsgs.length)) ∧ Own w' B 88 3 (.slice xmsgsA xmsgs.length xmsgsC) xmsgs.length ((markN DMsg.mark 3 xmsgs.length k).flatMap DMsg.cells) ∧ w.grownBy w' (foot (.slice xmsgsA xmsgs.length xmsgsC)) := by
  have HW := Lib.hid hw
  clear hw
  have hk1 : k + 3 * xmsgs.length ≤ 9223372036854775807 := by omega
  go_enter Tryz.func22, Tryz.ntmps22
  go_wp2_with fail
  refine (markMsgS_any xmsgs _ _ B k _ (HW.out.ext bxt) h0 h1 hl).mono ?_
  rintro e w1 ⟨rfl, hown, hg⟩
  have HO := Lib.hid hown
  have HG := Lib.hid hg
  clear hown hg
  go_wp2_with fail
  go_ret
  exact ⟨rfl, HO.out, grown_trans (grown_ext bxt) HG.out⟩

set_option maxHeartbeats 1000000 in
theorem heldBox_any (n : Nat) (xname : ByteArray) (xvalidity : Int) (xnext : Int) (xmsgsA : Option Addr) (xmsgsC : Nat) (k : Int) (w : World) (R : Rd w xmsgsA xmsgsC 3 n ((markN DMsg.mark 3 n k).flatMap DMsg.cells)) (h0 : 1 ≤ k) (h1 : k ≤ 100000000) (hl : n ≤ 2097152) :
    Calls Tryz.prog 23 #[.agg #[.string xname, .int .i64 xvalidity, .int .i64 xnext, .slice xmsgsA n xmsgsC], .int .i64 k] w fun e w' => e = .returned (.int .i64 (k + 3 * n)) ∧ Ext w w' := by
  have HR := Lib.hid R
  clear R
  have hk1 : k + 3 * n ≤ 9223372036854775807 := by omega
  have hk2 : 0 ≤ k + 3 * n := by omega
  go_enter Tryz.func23, Tryz.ntmps23
  go_wp2_with fail
  refine (heldMsgS_any n _ _ k _ (HR.out.ext bxt) h0 h1 hl).mono ?_
  rintro e w1 ⟨rfl, hb1⟩
  go_wp2_with fail
  go_ret
  exact ⟨rfl, bxt⟩

end Go.Proofs.YtdigkaddmpdeoaaGreat
