/-
  The laws' functions over Client: equality, size, copy.
-/
import Derived.Test.YtidfhkdonhjgaaaGreatDoorFamSeen
namespace Go.Proofs.YtidfhkdonhjgaaaGreatDoor
open Go.RowKit
set_option linter.unusedVariables false
set_option linter.unusedSimpArgs false

set_option maxHeartbeats 1000000 in
theorem eqClient_any (xactive : Bool) (xname : ByteArray) (xvalidity : Int) (xsize : Int) (xknown : List DSeen) (xknownA : Option Addr) (xknownC : Nat) (xbad : Bool) (yactive : Bool) (yname : ByteArray) (yvalidity : Int) (ysize : Int) (yknown : List DSeen) (yknownA : Option Addr) (yknownC : Nat) (ybad : Bool) (w : World) (xknownR : Rd w xknownA xknownC 2 xknown.length (xknown.flatMap DSeen.cells)) (yknownR : Rd w yknownA yknownC 2 yknown.length (yknown.flatMap DSeen.cells)) (r : Bool) (Hr : Hid (decide (xactive = yactive ∧ xname = yname ∧ xvalidity = yvalidity ∧ xsize = ysize ∧ xknown = yknown ∧ xbad = ybad) = r)) :
    Calls Tryz.prog 23 #[.agg #[.bool xactive, .string xname, .int .i64 xvalidity, .int .i64 xsize, .slice xknownA xknown.length xknownC, .bool xbad], .agg #[.bool yactive, .string yname, .int .i64 yvalidity, .int .i64 ysize, .slice yknownA yknown.length yknownC, .bool ybad]] w fun e w' => e = .returned (.bool r) ∧ Ext w w' := by
  obtain ⟨d0, hd0⟩ : ∃ d, decide (xknown = yknown) = d := ⟨_, rfl⟩
  have HD0 := Lib.hid hd0
  clear hd0
  have Hxknown := Lib.hid xknownR
  clear xknownR
  have Hyknown := Lib.hid yknownR
  clear yknownR
  go_enter Tryz.func23, Tryz.ntmps23
  go_wp2_with (first | (go_at_call 51; refine (eqSeenS_any _ _ _ _ _ _ _ (Hxknown.out.ext bxt) (Hyknown.out.ext bxt) d0 HD0).mono ?_; rintro e w1 ⟨rfl, hb1⟩; obtain ⟨hc1, hf1⟩ := bcell hb1))
  all_goals go_ret
  all_goals go_tidy
  all_goals refine ⟨ret_bool ?_, bxt⟩
  all_goals rw [← Hr.out]
  all_goals (have hdd := HD0.out)
  all_goals clear HD0
  all_goals simp_all [str_beq]

end Go.Proofs.YtidfhkdonhjgaaaGreatDoor
