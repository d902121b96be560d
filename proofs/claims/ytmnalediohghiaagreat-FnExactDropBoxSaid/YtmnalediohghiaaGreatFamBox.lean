/-
  The laws' functions over Box: equality, size, copy.
-/
import Derived.Test.YtmnalediohghiaaGreatFamMsg
namespace Go.Proofs.YtmnalediohghiaaGreat
open Go.RowKit
set_option linter.unusedVariables false
set_option linter.unusedSimpArgs false

set_option maxHeartbeats 1000000 in
theorem eqBox_any (xname : ByteArray) (xvalidity : Int) (xnext : Int) (xmsgs : List DMsg) (xmsgsA : Option Addr) (xmsgsC : Nat) (yname : ByteArray) (yvalidity : Int) (ynext : Int) (ymsgs : List DMsg) (ymsgsA : Option Addr) (ymsgsC : Nat) (w : World) (xmsgsR : Rd w xmsgsA xmsgsC 3 xmsgs.length (xmsgs.flatMap DMsg.cells)) (ymsgsR : Rd w ymsgsA ymsgsC 3 ymsgs.length (ymsgs.flatMap DMsg.cells)) (r : Bool) (Hr : Hid (decide (xname = yname ∧ xvalidity = yvalidity ∧ xnext = ynext ∧ xmsgs = ymsgs) = r)) :
    Calls Tryz.prog 92 #[.agg #[.string xname, .int .i64 xvalidity, .int .i64 xnext, .slice xmsgsA xmsgs.length xmsgsC], .agg #[.string yname, .int .i64 yvalidity, .int .i64 ynext, .slice ymsgsA ymsgs.length ymsgsC]] w fun e w' => e = .returned (.bool r) ∧ Ext w w' := by
  obtain ⟨d0, hd0⟩ : ∃ d, decide (xmsgs = ymsgs) = d := ⟨_, rfl⟩
  have HD0 := Lib.hid hd0
  clear hd0
  have Hxmsgs := Lib.hid xmsgsR
  clear xmsgsR
  have Hymsgs := Lib.hid ymsgsR
  clear ymsgsR
  go_enter Tryz.func92, Tryz.ntmps92
  go_wp2_with (first | (go_at_call 119; refine (eqMsgS_any _ _ _ _ _ _ _ (Hxmsgs.out.ext bxt) (Hymsgs.out.ext bxt) d0 HD0).mono ?_; rintro e w1 ⟨rfl, hb1⟩; obtain ⟨hc1, hf1⟩ := bcell hb1))
  all_goals go_ret
  all_goals go_tidy
  all_goals refine ⟨ret_bool ?_, bxt⟩
  all_goals rw [← Hr.out]
  all_goals (have hdd := HD0.out)
  all_goals clear HD0
  all_goals simp_all [str_beq]

set_option maxHeartbeats 1000000 in
theorem szBox_any (xname : ByteArray) (xvalidity : Int) (xnext : Int) (xmsgs : List DMsg) (xmsgsA : Option Addr) (xmsgsC : Nat) (left : Int) (w : World) (xmsgsR : Rd w xmsgsA xmsgsC 3 xmsgs.length (xmsgs.flatMap DMsg.cells)) (h0 : 0 ≤ left) (h1 : left ≤ 1048576) (hname : xname.size ≤ 9223372036854775807) (hsmsgstext : ∀ y ∈ xmsgs, y.text.size ≤ 9223372036854775807) :
    Calls Tryz.prog 75 #[.agg #[.string xname, .int .i64 xvalidity, .int .i64 xnext, .slice xmsgsA xmsgs.length xmsgsC], .int .i64 left] w (SzPost left (xname.size + DMsg.szS xmsgs) w) := by
  have Hxmsgs := Lib.hid xmsgsR
  clear xmsgsR
  have HStext := Lib.hid hsmsgstext
  clear hsmsgstext
  go_enter Tryz.func75, Tryz.ntmps75
  go_wp2_with ((go_at_call 102; refine (szMsgS_any xmsgs _ _ _ _ (Hxmsgs.out.ext bxt) (by omega) (by omega) HStext.out).mono ?_; rintro e w1 ⟨r, rfl, hr, hb1⟩))
  all_goals go_ret
  all_goals go_tidy
  all_goals refine ⟨_, rfl, ?_, bxt⟩
  all_goals unfold szR at *
  all_goals first | (exact Or.inl (by omega)) | (exact Or.inr (by omega))

set_option maxHeartbeats 1000000 in
theorem toBox_any (xname : ByteArray) (xvalidity : Int) (xnext : Int) (xmsgs : List DMsg) (xmsgsA : Option Addr) (xmsgsC : Nat) (w : World) (xmsgsR : Rd w xmsgsA xmsgsC 3 xmsgs.length (xmsgs.flatMap DMsg.cells)) (hl : xmsgs.length ≤ 1048576) :
    Calls Tryz.prog 82 #[.agg #[.string xname, .int .i64 xvalidity, .int .i64 xnext, .slice xmsgsA xmsgs.length xmsgsC]] w fun e w' => ∃ g, e = .returned (.agg #[.string xname, .int .i64 xvalidity, .int .i64 xnext, .slice (some ⟨g, 0, none⟩) xmsgs.length xmsgs.length]) ∧ w'.ownsRow w.heap.size 78 3 (.slice (some ⟨g, 0, none⟩) xmsgs.length xmsgs.length) xmsgs.length (xmsgs.flatMap DMsg.cells) ∧ Ext w w' := by
  have Hxmsgs := Lib.hid xmsgsR
  clear xmsgsR
  go_enter Tryz.func82, Tryz.ntmps82
  go_wp2_with ((go_at_call 105; refine (toMsgS_any xmsgs _ _ _ (Hxmsgs.out.ext bxt) hl).mono ?_; rintro e w1 ⟨g, rfl, hown, hb1⟩; have HO := Lib.hid (own_le hown (by simp <;> omega : w.heap.size + 3 ≤ _)); clear hown; obtain ⟨hc1, hf1⟩ := bcell hb1; have hsz := hb1.size; simp at hsz))
  refine bodyPost_ret (v := .agg #[.string xname, .int .i64 xvalidity, .int .i64 xnext, .slice (some ⟨g, 0, none⟩) xmsgs.length xmsgs.length]) (by simp [results, Tryz.results82, go_sem, hc1, hf1]) rfl ⟨g, rfl, ?_, ?_⟩
  · refine own_le ?_ (by omega : w.heap.size ≤ w.heap.size + 3)
    repeat (with_reducible refine ownsRow_setCell_below ?_ (by simp <;> omega) _)
    with_reducible exact HO.out
  · repeat' (first | with_reducible exact Below.refl _ _ | with_reducible assumption | with_reducible refine Below.alloc ?_ ?_ _ | with_reducible refine Below.setCell ?_ ?_ _ | with_reducible refine Below.drew ?_ | with_reducible refine Below.drewN ?_ _ | with_reducible refine Below.ext ?_ (by assumption) | (simp <;> omega) | omega)

end Go.Proofs.YtmnalediohghiaaGreat
