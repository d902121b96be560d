/-
  Whether two values of View are equal: the program's function and the reference's.
-/
import Derived.Test.YtpameapajhbdnaaFamView
namespace Go.Proofs.Ytpameapajhbdnaa
open Go.RowKit
set_option linter.unusedVariables false
set_option linter.unusedSimpArgs false

set_option maxHeartbeats 4000000 in
theorem implSameView_any (xknown : List DSeen) (xknownA : Option Addr) (xknownC : Nat) (yknown : List DSeen) (yknownA : Option Addr) (yknownC : Nat) (w : World) (xknownR : Rd w xknownA xknownC 2 xknown.length (xknown.flatMap DSeen.cells)) (yknownR : Rd w yknownA yknownC 2 yknown.length (yknown.flatMap DSeen.cells)) (r : Bool) (Hr : Hid (decide (xknown = yknown) = r)) :
    Calls Try.prog 54 #[.agg #[.slice xknownA xknown.length xknownC], .agg #[.slice yknownA yknown.length yknownC]] w fun e w' => e = .returned (.bool r) ∧ Ext w w' := by
  have Hxknown := Lib.hid xknownR
  clear xknownR
  have Hyknown := Lib.hid yknownR
  clear yknownR
  obtain ⟨d, hd⟩ : ∃ d, decide (xknown = yknown) = d := ⟨_, rfl⟩
  have HD := Lib.hid hd
  clear hd
  cases d with
  | false =>
    have HPknown := Lib.hid (of_decide_eq_false HD.out)
    go_enter Try.func54, Try.ntmps54
    go_wp2_with ((go_at_call 112; refine (equalSeenS_any _ _ _ _ _ _ _ (Hxknown.out.ext bxt) (Hyknown.out.ext bxt) false HD).mono ?_; rintro e w1 ⟨rfl, nq, rfl⟩))
    go_ret
    refine ⟨ret_bool ?_, bxt⟩
    rw [← Hr.out]
    simp [HPknown.out]
  | true =>
    have HPknown := Lib.hid (of_decide_eq_true HD.out)
    go_enter Try.func54, Try.ntmps54
    go_wp2_with ((go_at_call 112; refine (equalSeenS_any _ _ _ _ _ _ _ (Hxknown.out.ext bxt) (Hyknown.out.ext bxt) true HD).mono ?_; rintro e w1 ⟨rfl, nq, rfl⟩))
    go_ret
    refine ⟨ret_bool ?_, bxt⟩
    rw [← Hr.out]
    simp [HPknown.out]

set_option maxRecDepth 100000 in
set_option maxHeartbeats 4000000 in
theorem specSameView_any (xknown : List DSeen) (xknownA : Option Addr) (xknownC : Nat) (yknown : List DSeen) (yknownA : Option Addr) (yknownC : Nat) (w : World) (xknownR : Rd w xknownA xknownC 2 xknown.length (xknown.flatMap DSeen.cells)) (yknownR : Rd w yknownA yknownC 2 yknown.length (yknown.flatMap DSeen.cells)) (r : Bool) (Hr : Hid (decide (xknown = yknown) = r)) :
    Calls Try.prog 51 #[.agg #[.slice xknownA xknown.length xknownC], .agg #[.slice yknownA yknown.length yknownC]] w fun e w' => e = .returned (.bool r) ∧ Ext w w' := by
  have hlx : xknown.length ≤ 9223372036854775807 := Nat.le_trans xknownR.nc xknownR.cm
  have h3 := eqSeenG
  have Hxknown := Lib.hid xknownR
  clear xknownR
  have Hyknown := Lib.hid yknownR
  clear yknownR
  by_cases hne : xknown.length = yknown.length
  rotate_left
  · have hn1 : ((xknown.length : Int) != (yknown.length : Int)) = true := by simp; omega
    have HN : Hid (xknown ≠ yknown) := fun h => hne (by rw [h])
    clear hne
    go_enter Try.func51, Try.ntmps51
    go_wp2_with fail
    go_ret
    refine ⟨ret_bool ?_, bxt⟩
    rw [← Hr.out]
    simp [HN.out]
  have hn1 : ((xknown.length : Int) != (yknown.length : Int)) = false := by simp; omega
  have HN := Lib.hid hne
  clear hne
  go_enter Try.func51, Try.ntmps51
  go_wp2_with fail
  go_loopw [5] (fun i wr => ∃ k : Nat, k ≤ xknown.length ∧ i = .int .i64 k ∧ Hid (∀ j, j < k → xknown[j]? = yknown[j]?) ∧ Hid (∃ n, wr = ((w.alloc (.cells #[.slice xknownA xknown.length xknownC] 67)).alloc (.cells #[.slice yknownA yknown.length yknownC] 67)).drewN n)) (fun i _ => xknown.length - (intOf i).toNat)
  case atStart => exact ⟨0, Nat.zero_le _, rfl, by simp [Hid], ⟨0, rfl⟩⟩
  case round =>
    obtain ⟨k, hk, rfl, HP, HB⟩ := hrel
    obtain ⟨nq0, hw0⟩ := HB.out
    subst hw0
    by_cases hlt : k < xknown.length
    · have hlty : k < yknown.length := by have := HN.out; omega
      have hlty2 : (k : Int) < (yknown.length : Int) := by omega
      obtain ⟨b1, o1, rfl, hb1, hat1⟩ := Hxknown.out.ptr (by omega)
      obtain ⟨b2, o2, rfl, hb2, hat2⟩ := Hyknown.out.ptr (by omega)
      obtain ⟨hx0, hx1⟩ := DSeen.at hat1 k hlt
      obtain ⟨hy0, hy1⟩ := DSeen.at hat2 k hlty
      have HA1 := Lib.hid hat1
      have HA2 := Lib.hid hat2
      clear hat1 hat2
      have hb1' : b1 < w.heap.size + 1 := by omega
      have hb2' : b2 < w.heap.size + 1 := by omega
      obtain ⟨d, hd⟩ : ∃ d, decide (xknown[k] = yknown[k]) = d := ⟨_, rfl⟩
      have hq := eqSeenB xknown[k] yknown[k] d hd
      have HD := Lib.hid hd
      clear hd
      go_wp2_with fail
      go_quiet (fail)
      cases d
      · go_wp2_with fail
        go_ret
        refine ⟨ret_bool ?_, bxt⟩
        rw [← Hr.out]
        simp [ne_at hlt hlty (of_decide_eq_false HD.out)]
      · go_wp2_with fail
        go_roundw
        case rel => exact ⟨k + 1, by omega, by go_num, pre_succ HP.out hlt hlty (of_decide_eq_true HD.out), ⟨_, rfl⟩⟩
        case measure => simp [intOf]; omega
    · go_wp2_with fail
      go_ret
      refine ⟨ret_bool ?_, bxt⟩
      rw [← Hr.out]
      have hkk : k = xknown.length := by omega
      subst hkk
      simp [all_pre HP.out HN.out]

end Go.Proofs.Ytpameapajhbdnaa
