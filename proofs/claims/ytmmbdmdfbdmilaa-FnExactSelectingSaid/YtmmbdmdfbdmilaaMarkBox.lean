/-
  The laws' functions over Box: marks laid and looked at.
-/
import Derived.Test.YtmmbdmdfbdmilaaFamBox
import Derived.Test.YtmmbdmdfbdmilaaMarkMsg
namespace Go.Proofs.Ytmmbdmdfbdmilaa
open Go.RowKit
set_option linter.unusedVariables false
set_option linter.unusedSimpArgs false

set_option maxHeartbeats 1000000 in
theorem markBox_any (xname : ByteArray) (xvalidity : Int) (xnext : Int) (xmsgs : List DMsg) (xmsgsA : Option Addr) (xmsgsC : Nat) (B : Nat) (k : Int) (w : World) (hw : Own w B 103 3 (.slice xmsgsA xmsgs.length xmsgsC) xmsgs.length (xmsgs.flatMap DMsg.cells)) (h0 : 1 ≤ k) (h1 : k ≤ 100000000) (hl : xmsgs.length ≤ 2097152) :
    Calls Try.prog 25 #[.agg #[.string xname, .int .i64 xvalidity, .int .i64 xnext, .slice xmsgsA xmsgs.length xmsgsC], .int .i64 k] w fun e w' => e = .returned (.int .i64 (k + 3 * xmsgs.length)) ∧ Own w' B 103 3 (.slice xmsgsA xmsgs.length xmsgsC) xmsgs.length ((markN DMsg.mark 3 xmsgs.length k).flatMap DMsg.cells) ∧ w.grownBy w' (foot (.slice xmsgsA xmsgs.length xmsgsC)) := by
  have HW := Lib.hid hw
  clear hw
  have hk1 : k + 3 * xmsgs.length ≤ 9223372036854775807 := by omega
  go_enter Try.func25, Try.ntmps25
  go_wp2_with fail
  refine (markMsgS_any xmsgs _ _ B k _ (HW.out.ext (by repeat' (first | with_reducible exact Below.refl _ _ | with_reducible assumption | with_reducible refine Below.alloc ?_ ?_ _ | with_reducible refine Below.setCell ?_ ?_ _ | with_reducible refine Below.drew ?_ | with_reducible refine Below.drewN ?_ _ | with_reducible refine Below.ext ?_ (by assumption) | (simp <;> omega) | omega))) h0 h1 hl).mono ?_
  rintro e w1 ⟨rfl, hown, hg⟩
  have HO := Lib.hid hown
  have HG := Lib.hid hg
  clear hown hg
  go_wp2_with fail
  go_ret
  exact ⟨rfl, HO.out, grown_trans (grown_ext (by repeat' (first | with_reducible exact Below.refl _ _ | with_reducible assumption | with_reducible refine Below.alloc ?_ ?_ _ | with_reducible refine Below.setCell ?_ ?_ _ | with_reducible refine Below.drew ?_ | with_reducible refine Below.drewN ?_ _ | with_reducible refine Below.ext ?_ (by assumption) | (simp <;> omega) | omega))) HG.out⟩

end Go.Proofs.Ytmmbdmdfbdmilaa
