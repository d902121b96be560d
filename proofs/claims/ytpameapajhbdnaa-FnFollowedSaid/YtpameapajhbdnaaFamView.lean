/-
  The laws' functions over View: equality, size, copy.
-/
import Derived.Test.YtpameapajhbdnaaFamSeen
namespace Go.Proofs.Ytpameapajhbdnaa
open Go.RowKit
set_option linter.unusedVariables false
set_option linter.unusedSimpArgs false

set_option maxHeartbeats 1000000 in
theorem eqView_any (xknown : List DSeen) (xknownA : Option Addr) (xknownC : Nat) (yknown : List DSeen) (yknownA : Option Addr) (yknownC : Nat) (w : World) (xknownR : Rd w xknownA xknownC 2 xknown.length (xknown.flatMap DSeen.cells)) (yknownR : Rd w yknownA yknownC 2 yknown.length (yknown.flatMap DSeen.cells)) (r : Bool) (Hr : Hid (decide (xknown = yknown) = r)) :
    Calls Try.prog 60 #[.agg #[.slice xknownA xknown.length xknownC], .agg #[.slice yknownA yknown.length yknownC]] w fun e w' => e = .returned (.bool r) ∧ Ext w w' := by
  obtain ⟨d0, hd0⟩ : ∃ d, decide (xknown = yknown) = d := ⟨_, rfl⟩
  have HD0 := Lib.hid hd0
  clear hd0
  have Hxknown := Lib.hid xknownR
  clear xknownR
  have Hyknown := Lib.hid yknownR
  clear yknownR
  go_enter Try.func60, Try.ntmps60
  go_wp2_with (first | (go_at_call 126; refine (eqSeenS_any _ _ _ _ _ _ _ (Hxknown.out.ext bxt) (Hyknown.out.ext bxt) d0 HD0).mono ?_; rintro e w1 ⟨rfl, hb1⟩; obtain ⟨hc1, hf1⟩ := bcell hb1))
  all_goals go_ret
  all_goals go_tidy
  all_goals refine ⟨ret_bool ?_, bxt⟩
  all_goals rw [← Hr.out]
  all_goals (have hdd := HD0.out)
  all_goals clear HD0
  all_goals simp_all [str_beq]

set_option maxHeartbeats 1000000 in
theorem szView_any (xknown : List DSeen) (xknownA : Option Addr) (xknownC : Nat) (left : Int) (w : World) (xknownR : Rd w xknownA xknownC 2 xknown.length (xknown.flatMap DSeen.cells)) (h0 : 0 ≤ left) (h1 : left ≤ 1048576)  :
    Calls Try.prog 55 #[.agg #[.slice xknownA xknown.length xknownC], .int .i64 left] w (SzPost left (DSeen.szS xknown) w) := by
  have Hxknown := Lib.hid xknownR
  clear xknownR
  go_enter Try.func55, Try.ntmps55
  go_wp2_with ((go_at_call 123; refine (szSeenS_any xknown _ _ _ _ (by omega) (by omega) (Nat.le_trans Hxknown.out.nc Hxknown.out.cm)).mono ?_; rintro e w1 ⟨r, rfl, hr, hb1⟩))
  all_goals go_ret
  all_goals go_tidy
  all_goals refine ⟨_, rfl, ?_, bxt⟩
  all_goals unfold szR at *
  all_goals first | (exact Or.inl (by omega)) | (exact Or.inr (by omega))

set_option maxHeartbeats 1000000 in
theorem toView_any (xknown : List DSeen) (xknownA : Option Addr) (xknownC : Nat) (w : World) (xknownR : Rd w xknownA xknownC 2 xknown.length (xknown.flatMap DSeen.cells)) (hl : xknown.length ≤ 1048576) :
    Calls Try.prog 57 #[.agg #[.slice xknownA xknown.length xknownC]] w fun e w' => ∃ g, e = .returned (.agg #[.slice (some ⟨g, 0, none⟩) xknown.length xknown.length]) ∧ w'.ownsRow w.heap.size 129 2 (.slice (some ⟨g, 0, none⟩) xknown.length xknown.length) xknown.length (xknown.flatMap DSeen.cells) ∧ Ext w w' := by
  have Hxknown := Lib.hid xknownR
  clear xknownR
  go_enter Try.func57, Try.ntmps57
  go_wp2_with ((go_at_call 124; refine (toSeenS_any xknown _ _ _ (Hxknown.out.ext bxt) hl).mono ?_; rintro e w1 ⟨g, rfl, hown, hb1⟩; have HO := Lib.hid (own_le hown (by simp <;> omega : w.heap.size + 3 ≤ _)); clear hown; obtain ⟨hc1, hf1⟩ := bcell hb1; have hsz := hb1.size; simp at hsz))
  refine bodyPost_ret (v := .agg #[.slice (some ⟨g, 0, none⟩) xknown.length xknown.length]) (by simp [results, Try.results57, go_sem, hc1, hf1]) rfl ⟨g, rfl, ?_, ?_⟩
  · refine own_le ?_ (by omega : w.heap.size ≤ w.heap.size + 3)
    repeat (with_reducible refine ownsRow_setCell_below ?_ (by simp <;> omega) _)
    with_reducible exact HO.out
  · repeat' (first | with_reducible exact Below.refl _ _ | with_reducible assumption | with_reducible refine Below.alloc ?_ ?_ _ | with_reducible refine Below.setCell ?_ ?_ _ | with_reducible refine Below.drew ?_ | with_reducible refine Below.drewN ?_ _ | with_reducible refine Below.ext ?_ (by assumption) | (simp <;> omega) | omega)

end Go.Proofs.Ytpameapajhbdnaa
