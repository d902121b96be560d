/-
  Whether a mailbox is valid: the program's function and the reference's say the same.
-/
import Derived.Test.YtadjlfcdjkikgaaDoorXFam
import Derived.Test.YtadjlfcdjkikgaaDoorWNameOk
import Derived.IntWalk
import Derived.BigQuiet
namespace Go.Proofs.YtadjlfcdjkikgaaDoor
open Go.RowKit
set_option linter.unusedVariables false
set_option linter.unusedSimpArgs false

def MsgAt (nx : Int) (l : List DMsg) (k : Nat) : Prop := ∃ h : k < l.length, (1 ≤ l[k].uid ∧ l[k].uid ≤ wrap64 (nx - 1)) ∧ (0 ≤ l[k].flags ∧ l[k].flags ≤ 31) ∧ l[k].text.size ≤ 40 ∧ (0 < k → l[k - 1].uid < l[k].uid)
def BoxP (nm : ByteArray) (v nx : Int) (l : List DMsg) : Prop := NameP nm ∧ (1 ≤ v ∧ v ≤ 999999999) ∧ (1 ≤ nx ∧ nx ≤ 999999999) ∧ l.length ≤ 6 ∧ ∀ k, k < l.length → MsgAt nx l k
instance (nx : Int) (l : List DMsg) (k : Nat) : Decidable (MsgAt nx l k) := by unfold MsgAt; infer_instance

set_option maxRecDepth 100000 in
set_option maxHeartbeats 8000000 in
theorem specBoxOk_any (nm : ByteArray) (v nx : Int) (l : List DMsg) (a : Option Addr) (c : Nat) (w : World) (R : Rd w a c 3 l.length (l.flatMap DMsg.cells)) (g1 : nm.size ≤ 9223372036854775807) (gs : ∀ y ∈ l, y.text.size ≤ 9223372036854775807) (r : Bool) (Hr : Hid (Tells r (BoxP nm v nx l))) :
    Calls Tryd.prog 94 #[.agg #[.string nm, .int .i64 v, .int .i64 nx, .slice a l.length c]] w fun e w' => e = .returned (.bool r) ∧ Ext w w' := by
  have hl : l.length ≤ 9223372036854775807 := Nat.le_trans R.nc R.cm
  have msgTo : ∀ {k}, (∀ j, j < k → MsgAt nx l j) → MsgAt nx l k → ∀ j, j < k + 1 → MsgAt nx l j := fun {k} h hk j hj => by
    by_cases e : j = k
    · subst e; exact hk
    · exact h j (by omega)
  have HR := Lib.hid R
  have HGS := Lib.hid gs
  clear R gs
  obtain ⟨dN, hN⟩ := boolOf (NameP nm)
  have HN := Lib.hid hN
  clear hN
  obtain ⟨dV, hV⟩ := boolOf (1 ≤ v ∧ v ≤ 999999999)
  have HV := Lib.hid hV
  clear hV
  obtain ⟨dX, hX⟩ := boolOf (1 ≤ nx ∧ nx ≤ 999999999)
  have HX := Lib.hid hX
  clear hX
  obtain ⟨d6, h6⟩ : ∃ d, decide (l.length ≤ 6) = d := ⟨_, rfl⟩
  have H6 : Hid (Tells d6 (l.length ≤ 6)) := by (subst h6; simp [Hid, Tells])
  have n6 : decide ((l.length : Int) ≤ 6) = d6 := by (rw [← h6]; exact decide_eq_decide.2 (by omega))
  have n6b : decide ((6 : Int) < (l.length : Int)) = !d6 := by (rw [← h6, ← decide_not]; exact decide_eq_decide.2 (by omega))
  have n6c : decide (6 < l.length) = !d6 := by (rw [← h6, ← decide_not]; exact decide_eq_decide.2 (by omega))
  cases dN with
  | false =>
    go_enter Tryd.func94, Tryd.ntmps94
    go_wp2_with (first | (go_at_call 48; refine (specNameOk_any nm _ g1 false HN).mono ?_; rintro e w1 ⟨rfl, rfl⟩) | (go_at_call_of 46 (v); refine (sNumber_any v _ dV HV).mono ?_; rintro e w1 ⟨rfl, rfl⟩) | (go_at_call_of 46 (nx); refine (sNumber_any nx _ dX HX).mono ?_; rintro e w1 ⟨rfl, rfl⟩))
    go_ret
    exact ⟨ret_no Hr.out (fun h => no_of HN.out h.1), bxt⟩
  | true =>
    cases dV with
    | false =>
      go_enter Tryd.func94, Tryd.ntmps94
      go_wp2_with (first | (go_at_call 48; refine (specNameOk_any nm _ g1 true HN).mono ?_; rintro e w1 ⟨rfl, rfl⟩) | (go_at_call_of 46 (v); refine (sNumber_any v _ false HV).mono ?_; rintro e w1 ⟨rfl, rfl⟩) | (go_at_call_of 46 (nx); refine (sNumber_any nx _ dX HX).mono ?_; rintro e w1 ⟨rfl, rfl⟩))
      go_ret
      exact ⟨ret_no Hr.out (fun h => no_of HV.out h.2.1), bxt⟩
    | true =>
      cases dX with
      | false =>
        go_enter Tryd.func94, Tryd.ntmps94
        go_wp2_with (first | (go_at_call 48; refine (specNameOk_any nm _ g1 true HN).mono ?_; rintro e w1 ⟨rfl, rfl⟩) | (go_at_call_of 46 (v); refine (sNumber_any v _ true HV).mono ?_; rintro e w1 ⟨rfl, rfl⟩) | (go_at_call_of 46 (nx); refine (sNumber_any nx _ false HX).mono ?_; rintro e w1 ⟨rfl, rfl⟩))
        go_ret
        exact ⟨ret_no Hr.out (fun h => no_of HX.out h.2.2.1), bxt⟩
      | true =>
        cases d6 with
        | false =>
          go_enter Tryd.func94, Tryd.ntmps94
          go_wp2_with (first | (go_at_call 48; refine (specNameOk_any nm _ g1 true HN).mono ?_; rintro e w1 ⟨rfl, rfl⟩) | (go_at_call_of 46 (v); refine (sNumber_any v _ true HV).mono ?_; rintro e w1 ⟨rfl, rfl⟩) | (go_at_call_of 46 (nx); refine (sNumber_any nx _ true HX).mono ?_; rintro e w1 ⟨rfl, rfl⟩))
          go_ret
          exact ⟨ret_no Hr.out (fun h => no_of H6.out h.2.2.2.1), bxt⟩
        | true =>
          go_enter Tryd.func94, Tryd.ntmps94
          go_wp2_with (first | (go_at_call 48; refine (specNameOk_any nm _ g1 true HN).mono ?_; rintro e w1 ⟨rfl, rfl⟩) | (go_at_call_of 46 (v); refine (sNumber_any v _ true HV).mono ?_; rintro e w1 ⟨rfl, rfl⟩) | (go_at_call_of 46 (nx); refine (sNumber_any nx _ true HX).mono ?_; rintro e w1 ⟨rfl, rfl⟩))
          go_loopw [3] (fun i wr => ∃ k : Nat, k ≤ l.length ∧ i = .int .i64 k ∧ Hid (∀ j, j < k → MsgAt nx l j) ∧ Below (w.alloc (.cells #[.string nm, .int .i64 v, .int .i64 nx, .slice a l.length c] 85)).heap.size (w.alloc (.cells #[.string nm, .int .i64 v, .int .i64 nx, .slice a l.length c] 85)) wr) (fun i _ => l.length - (intOf i).toNat)
          case atStart => exact ⟨0, Nat.zero_le _, rfl, fun _ h => by omega, Below.refl _ _⟩
          case round =>
            obtain ⟨k, hk, rfl, HP, hbe⟩ := hrel
            obtain ⟨hc1, hf1⟩ := bcell hbe
            have hs1 : w.heap.size < wr.heap.size := by (have hss := hbe.size; simp at hss; omega)
            by_cases hlt : k < l.length
            rotate_left
            · have hkk : k = l.length := by omega
              have HKK := Lib.hid hkk
              clear hkk
              go_wp2_with fail
              go_ret
              exact ⟨ret_bool (Tells.eq_true Hr.out ⟨yes_of HN.out, yes_of HV.out, yes_of HX.out, yes_of H6.out, fun j hj => HP.out j (by rw [HKK.out]; exact hj)⟩).symm, bxt⟩
            · obtain ⟨b1, o, rfl, hb1, hat1⟩ := HR.out.ptr (by omega)
              obtain ⟨hx0, hx1, hx2⟩ := DMsg.at hat1 k hlt
              have HA := Lib.hid hat1
              clear hat1
              obtain ⟨d1, hd1⟩ := boolOf (1 ≤ l[k].uid ∧ l[k].uid ≤ wrap64 (nx - 1))
              obtain ⟨d2, hd2⟩ := boolOf (0 ≤ l[k].flags ∧ l[k].flags ≤ 31)
              have HD1 := Lib.hid hd1
              have HD2 := Lib.hid hd2
              clear hd1 hd2
              obtain ⟨d3, hd3⟩ : ∃ d, decide (l[k].text.size ≤ 40) = d := ⟨_, rfl⟩
              have HD3 : Hid (Tells d3 (l[k].text.size ≤ 40)) := by (subst hd3; simp [Hid, Tells])
              have t3a : decide ((40 : Int) < (l[k].text.size : Int)) = !d3 := by (rw [← hd3, ← decide_not]; exact decide_eq_decide.2 (by omega))
              have t3b : decide (40 < l[k].text.size) = !d3 := by (rw [← hd3, ← decide_not]; exact decide_eq_decide.2 (by omega))
              have hb1w : b1 < wr.heap.size := by (have := hbe.size; simp at this; omega)
              have hgt := HGS.out _ (List.getElem_mem hlt)
              have HNO : Hid (BoxP nm v nx l → MsgAt nx l k) := fun hv => hv.2.2.2.2 k hlt
              clear hd3
              by_cases hk0 : 0 < k
              · have hk0' : decide ((0 : Int) < (k : Int)) = true := by simpa using hk0
                have hk0n : decide (0 < k) = true := by simpa using hk0
                obtain ⟨hy0, hy1, hy2⟩ := DMsg.at HA.out (k - 1) (by omega)
                have hi3 : (1 : Int) ≤ (k : Int) := by omega
                have hi4 : (k : Int) - 1 < l.length := by omega
                have hi5 : (0 : Int) ≤ (k : Int) - 1 := by omega
                have hi6 : ¬ ((k : Int) - 1 < 0) := by omega
                have hi7 : ¬ ((l.length : Int) ≤ (k : Int) - 1) := by omega
                have hi1 : IntKind.i64.wrap ((k : Int) - 1) = (k : Int) - 1 := IntWalk.i64_in _ (by omega)
                have hi2 : ((k : Int) - 1).toNat = k - 1 := by omega
                obtain ⟨d4, hd4⟩ : ∃ d, decide (l[k - 1].uid < l[k].uid) = d := ⟨_, rfl⟩
                have HD4 : Hid (Tells d4 (0 < k → l[k - 1].uid < l[k].uid)) := by (subst hd4; simp [Hid, Tells, hk0])
                have t4a : decide (l[k].uid ≤ l[k - 1].uid) = !d4 := by (rw [← hd4, ← decide_not]; exact decide_eq_decide.2 (by omega))
                clear hd4
                cases d1 with
                | false =>
                  go_wp2_with fail
                  go_quiet ((first | (go_at_call 43; exact Calls.quiet_of_same (l1In_any _ _ _ _ false HD1)) | (go_at_call 47; exact Calls.quiet_of_same (sFlagsOk_any _ _ d2 HD2))))
                  go_wp2_with fail
                  go_ret
                  exact ⟨ret_no Hr.out (not_of HNO.out (fun ⟨_, h1, h2, h3, h4⟩ => no_of HD1.out h1)), bxt⟩
                | true =>
                  cases d4 with
                  | false =>
                    go_wp2_with fail
                    go_quiet ((first | (go_at_call 43; exact Calls.quiet_of_same (l1In_any _ _ _ _ true HD1)) | (go_at_call 47; exact Calls.quiet_of_same (sFlagsOk_any _ _ d2 HD2))))
                    go_wp2_with fail
                    go_ret
                    exact ⟨ret_no Hr.out (not_of HNO.out (fun ⟨_, h1, h2, h3, h4⟩ => no_of HD4.out h4)), bxt⟩
                  | true =>
                    cases d2 with
                    | false =>
                      go_wp2_with fail
                      go_quiet ((first | (go_at_call 43; exact Calls.quiet_of_same (l1In_any _ _ _ _ true HD1)) | (go_at_call 47; exact Calls.quiet_of_same (sFlagsOk_any _ _ false HD2))))
                      go_wp2_with fail
                      go_ret
                      exact ⟨ret_no Hr.out (not_of HNO.out (fun ⟨_, h1, h2, h3, h4⟩ => no_of HD2.out h2)), bxt⟩
                    | true =>
                      cases d3 with
                      | false =>
                        go_wp2_with fail
                        go_quiet ((first | (go_at_call 43; exact Calls.quiet_of_same (l1In_any _ _ _ _ true HD1)) | (go_at_call 47; exact Calls.quiet_of_same (sFlagsOk_any _ _ true HD2))))
                        go_wp2_with fail
                        go_ret
                        exact ⟨ret_no Hr.out (not_of HNO.out (fun ⟨_, h1, h2, h3, h4⟩ => no_of HD3.out h3)), bxt⟩
                      | true =>
                        go_wp2_with fail
                        go_quiet ((first | (go_at_call 43; exact Calls.quiet_of_same (l1In_any _ _ _ _ true HD1)) | (go_at_call 47; exact Calls.quiet_of_same (sFlagsOk_any _ _ true HD2))))
                        go_wp2_with fail
                        go_roundw
                        case rel => exact ⟨k + 1, by omega, by go_num, msgTo HP.out ⟨hlt, yes_of HD1.out, yes_of HD2.out, yes_of HD3.out, yes_of HD4.out⟩, bxt⟩
                        case measure => simp [intOf]; omega
              · have hk0' : decide ((0 : Int) < (k : Int)) = false := by simp; omega
                have hk0n : decide (0 < k) = false := by simp; omega
                have HD4 : Hid (Tells true (0 < k → l[k - 1].uid < l[k].uid)) := ⟨fun _ h => (hk0 h).elim, fun _ => rfl⟩
                cases d1 with
                | false =>
                  go_wp2_with fail
                  go_quiet ((first | (go_at_call 43; exact Calls.quiet_of_same (l1In_any _ _ _ _ false HD1)) | (go_at_call 47; exact Calls.quiet_of_same (sFlagsOk_any _ _ d2 HD2))))
                  go_wp2_with fail
                  go_ret
                  exact ⟨ret_no Hr.out (not_of HNO.out (fun ⟨_, h1, h2, h3, h4⟩ => no_of HD1.out h1)), bxt⟩
                | true =>
                  cases d2 with
                  | false =>
                    go_wp2_with fail
                    go_quiet ((first | (go_at_call 43; exact Calls.quiet_of_same (l1In_any _ _ _ _ true HD1)) | (go_at_call 47; exact Calls.quiet_of_same (sFlagsOk_any _ _ false HD2))))
                    go_wp2_with fail
                    go_ret
                    exact ⟨ret_no Hr.out (not_of HNO.out (fun ⟨_, h1, h2, h3, h4⟩ => no_of HD2.out h2)), bxt⟩
                  | true =>
                    cases d3 with
                    | false =>
                      go_wp2_with fail
                      go_quiet ((first | (go_at_call 43; exact Calls.quiet_of_same (l1In_any _ _ _ _ true HD1)) | (go_at_call 47; exact Calls.quiet_of_same (sFlagsOk_any _ _ true HD2))))
                      go_wp2_with fail
                      go_ret
                      exact ⟨ret_no Hr.out (not_of HNO.out (fun ⟨_, h1, h2, h3, h4⟩ => no_of HD3.out h3)), bxt⟩
                    | true =>
                      go_wp2_with fail
                      go_quiet ((first | (go_at_call 43; exact Calls.quiet_of_same (l1In_any _ _ _ _ true HD1)) | (go_at_call 47; exact Calls.quiet_of_same (sFlagsOk_any _ _ true HD2))))
                      go_wp2_with fail
                      go_roundw
                      case rel => exact ⟨k + 1, by omega, by go_num, msgTo HP.out ⟨hlt, yes_of HD1.out, yes_of HD2.out, yes_of HD3.out, yes_of HD4.out⟩, bxt⟩
                      case measure => simp [intOf]; omega

end Go.Proofs.YtadjlfcdjkikgaaDoor
