/-
  Whether a view is valid: the program's function and the reference's say the same.
-/
import Derived.Test.YtadjlfcdjkikgaaDoorFamSeen
import Derived.Test.YtadjlfcdjkikgaaDoorCSmall
namespace Go.Proofs.YtadjlfcdjkikgaaDoor
open Go.RowKit
set_option linter.unusedVariables false
set_option linter.unusedSimpArgs false

def SeenAt (l : List DSeen) (k : Nat) : Prop := ∃ h : k < l.length, (1 ≤ l[k].uid ∧ l[k].uid ≤ 999999998) ∧ (0 ≤ l[k].flags ∧ l[k].flags ≤ 31) ∧ (0 < k → l[k - 1].uid < l[k].uid)
def ViewOkP (l : List DSeen) : Prop := (∀ k, k < l.length → SeenAt l k) ∧ l.length ≤ 6

set_option maxHeartbeats 4000000 in
theorem specViewOk_any (l : List DSeen) (a : Option Addr) (c : Nat) (w : World) (R : Rd w a c 2 l.length (l.flatMap DSeen.cells)) (r : Bool) (Hr : Hid (Tells r (ViewOkP l))) :
    Calls Tryd.prog 104 #[.agg #[.slice a l.length c]] w fun e w' => e = .returned (.bool r) ∧ Ext w w' := by
  have hl : l.length ≤ 9223372036854775807 := Nat.le_trans R.nc R.cm
  have seenTo : ∀ {k}, (∀ j, j < k → SeenAt l j) → SeenAt l k → ∀ j, j < k + 1 → SeenAt l j := fun {k} h hk j hj => by
    by_cases e : j = k
    · subst e; exact hk
    · exact h j (by omega)
  have HR := Lib.hid R
  clear R
  go_enter Tryd.func104, Tryd.ntmps104
  go_wp2_with fail
  go_loopw [3] (fun i wr => ∃ k : Nat, k ≤ l.length ∧ i = .int .i64 k ∧ Hid (∀ j, j < k → SeenAt l j) ∧ Below (w.alloc (.cells #[.slice a l.length c] 90)).heap.size (w.alloc (.cells #[.slice a l.length c] 90)) wr) (fun i _ => l.length - (intOf i).toNat)
  case atStart => exact ⟨0, Nat.zero_le _, rfl, fun _ h => by omega, Below.refl _ _⟩
  case round =>
    obtain ⟨k, hk, rfl, HP, hbe⟩ := hrel
    obtain ⟨hc1, hf1⟩ := bcell hbe
    have hs1 : w.heap.size < wr.heap.size := by (have hss := hbe.size; simp at hss; omega)
    by_cases hlt : k < l.length
    · obtain ⟨b1, o, rfl, hb1, hat⟩ := HR.out.ptr (by omega)
      obtain ⟨hx0, hx1⟩ := DSeen.at hat k hlt
      have HA := Lib.hid hat
      clear hat
      obtain ⟨d1, hd1⟩ := boolOf (1 ≤ l[k].uid ∧ l[k].uid ≤ 999999998)
      obtain ⟨d2, hd2⟩ := boolOf (0 ≤ l[k].flags ∧ l[k].flags ≤ 31)
      have HD1 := Lib.hid hd1
      have HD2 := Lib.hid hd2
      clear hd1 hd2
      have hb1w : b1 < wr.heap.size := by (have := hbe.size; simp at this; omega)
      have HNO : Hid (ViewOkP l → SeenAt l k) := fun hv => hv.1 k hlt
      cases d1 with
      | false =>
        go_wp2_with fail
        go_quiet ((first | (go_at_call 43; exact Calls.quiet_of_same (l1In_any _ _ _ _ false HD1)) | (go_at_call 47; exact Calls.quiet_of_same (sFlagsOk_any _ _ d2 HD2))))
        go_wp2_with fail
        go_ret
        exact ⟨ret_no Hr.out (not_of HNO.out fun ⟨_, h, _⟩ => no_of HD1.out h), bxt⟩
      | true =>
        by_cases hk0 : 0 < k
        · have hk0' : decide ((0 : Int) < (k : Int)) = true := by simpa using hk0
          obtain ⟨hy0, hy1⟩ := DSeen.at HA.out (k - 1) (by omega)
          have hi3 : (1 : Int) ≤ (k : Int) := by omega
          have hi4 : (k : Int) - 1 < l.length := by omega
          have hi5 : (0 : Int) ≤ (k : Int) - 1 := by omega
          have hi6 : ¬ ((k : Int) - 1 < 0) := by omega
          have hi7 : ¬ ((l.length : Int) ≤ (k : Int) - 1) := by omega
          have hi1 : IntKind.i64.wrap ((k : Int) - 1) = (k : Int) - 1 := IntWalk.i64_in _ (by omega)
          have hi2 : ((k : Int) - 1).toNat = k - 1 := by omega
          by_cases hlt2 : l[k - 1].uid < l[k].uid
          · have hlt2' : decide (l[k].uid ≤ l[k - 1].uid) = false := by simp; omega
            have HL := Lib.hid hlt2
            clear hlt2
            cases d2 with
            | false =>
              go_wp2_with fail
              go_quiet ((first | (go_at_call 43; exact Calls.quiet_of_same (l1In_any _ _ _ _ true HD1)) | (go_at_call 47; exact Calls.quiet_of_same (sFlagsOk_any _ _ false HD2))))
              go_wp2_with fail
              go_ret
              exact ⟨ret_no Hr.out (not_of HNO.out fun ⟨_, _, h, _⟩ => no_of HD2.out h), bxt⟩
            | true =>
              go_wp2_with fail
              go_quiet ((first | (go_at_call 43; exact Calls.quiet_of_same (l1In_any _ _ _ _ true HD1)) | (go_at_call 47; exact Calls.quiet_of_same (sFlagsOk_any _ _ true HD2))))
              go_wp2_with fail
              go_roundw
              case rel => exact ⟨k + 1, by omega, by go_num, seenTo HP.out ⟨hlt, yes_of HD1.out, yes_of HD2.out, fun _ => HL.out⟩, bxt⟩
              case measure => simp [intOf]; omega
          · have hlt2' : decide (l[k].uid ≤ l[k - 1].uid) = true := by simp; omega
            have HL := Lib.hid hlt2
            clear hlt2
            cases d2 with
            | false =>
              go_wp2_with fail
              go_quiet ((first | (go_at_call 43; exact Calls.quiet_of_same (l1In_any _ _ _ _ true HD1)) | (go_at_call 47; exact Calls.quiet_of_same (sFlagsOk_any _ _ false HD2))))
              go_wp2_with fail
              go_ret
              exact ⟨ret_no Hr.out (not_of HNO.out fun ⟨_, _, h, _⟩ => no_of HD2.out h), bxt⟩
            | true =>
              go_wp2_with fail
              go_quiet ((first | (go_at_call 43; exact Calls.quiet_of_same (l1In_any _ _ _ _ true HD1)) | (go_at_call 47; exact Calls.quiet_of_same (sFlagsOk_any _ _ true HD2))))
              go_wp2_with fail
              go_ret
              exact ⟨ret_no Hr.out (not_of HNO.out fun ⟨_, _, _, h⟩ => by (have h1 := HL.out; have h2 := h hk0; omega)), bxt⟩
        · have hk0' : decide ((0 : Int) < (k : Int)) = false := by simp; omega
          cases d2 with
          | false =>
            go_wp2_with fail
            go_quiet ((first | (go_at_call 43; exact Calls.quiet_of_same (l1In_any _ _ _ _ true HD1)) | (go_at_call 47; exact Calls.quiet_of_same (sFlagsOk_any _ _ false HD2))))
            go_wp2_with fail
            go_ret
            exact ⟨ret_no Hr.out (not_of HNO.out fun ⟨_, _, h, _⟩ => no_of HD2.out h), bxt⟩
          | true =>
            go_wp2_with fail
            go_quiet ((first | (go_at_call 43; exact Calls.quiet_of_same (l1In_any _ _ _ _ true HD1)) | (go_at_call 47; exact Calls.quiet_of_same (sFlagsOk_any _ _ true HD2))))
            go_wp2_with fail
            go_roundw
            case rel => exact ⟨k + 1, by omega, by go_num, seenTo HP.out ⟨hlt, yes_of HD1.out, yes_of HD2.out, fun h => (hk0 h).elim⟩, bxt⟩
            case measure => simp [intOf]; omega
    · have hkk : k = l.length := by omega
      have HKK := Lib.hid hkk
      clear hkk
      go_wp2_with fail
      go_ret
      refine ⟨ret_bool ?_, bxt⟩
      have hp : ViewOkP l ↔ l.length ≤ 6 := ⟨fun h => h.2, fun h => ⟨fun j hj => HP.out j (by have := HKK.out; omega), h⟩⟩
      by_cases h6 : l.length ≤ 6
      · rw [Tells.eq_true Hr.out (hp.2 h6)]; simp; omega
      · rw [Tells.eq_false Hr.out (fun h => h6 (hp.1 h))]; simp; omega

end Go.Proofs.YtadjlfcdjkikgaaDoor
