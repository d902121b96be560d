/-
  Flags by their names: the program's ReadFlags.
-/
import Derived.Test.YtidfhkdonhjgaaaGreatDoorWUpp
import Derived.Test.YtidfhkdonhjgaaaGreatDoorWFlg
import Derived.Test.YtidfhkdonhjgaaaGreatDoorWNum
namespace Go.Proofs.YtidfhkdonhjgaaaGreatDoor
open Go.RowKit
set_option linter.unusedVariables false
set_option linter.unusedSimpArgs false

theorem upN_at (k : Nat) (hk : k < 5) : upNames[k]? = some (upW (fnm k)) := by
  have : k = 0 ∨ k = 1 ∨ k = 2 ∨ k = 3 ∨ k = 4 := by omega
  rcases this with rfl | rfl | rfl | rfl | rfl <;> decide +kernel
theorem fIdx_hit (y : List UInt8) (k : Nat) (hk : k < 5) (h0 : ∀ j, j < k → upW (fnm j) ≠ upW y) (h1 : upW (fnm k) = upW y) : fIdx y upNames 0 = some k := by
  have e : upNames = [upW (fnm 0), upW (fnm 1), upW (fnm 2), upW (fnm 3), upW (fnm 4)] := by decide +kernel
  rw [e]
  have : k = 0 ∨ k = 1 ∨ k = 2 ∨ k = 3 ∨ k = 4 := by omega
  rcases this with rfl | rfl | rfl | rfl | rfl
  · simp [fIdx, h1]
  · simp [fIdx, h1, h0 0 (by omega)]
  · simp [fIdx, h1, h0 0 (by omega), h0 1 (by omega)]
  · simp [fIdx, h1, h0 0 (by omega), h0 1 (by omega), h0 2 (by omega)]
  · simp [fIdx, h1, h0 0 (by omega), h0 1 (by omega), h0 2 (by omega), h0 3 (by omega)]
theorem fIdx_none (y : List UInt8) (h0 : ∀ j, j < 5 → upW (fnm j) ≠ upW y) : fIdx y upNames 0 = none := by
  have e : upNames = [upW (fnm 0), upW (fnm 1), upW (fnm 2), upW (fnm 3), upW (fnm 4)] := by decide +kernel
  rw [e]
  simp [fIdx, h0 0 (by omega), h0 1 (by omega), h0 2 (by omega), h0 3 (by omega), h0 4 (by omega)]
theorem fnms_at (k : Nat) (hk : k < 5) : fnms[k]'(by simpa [fnms] using hk) = bs (fnm k) := by
  have : k = 0 ∨ k = 1 ∨ k = 2 ∨ k = 3 ∨ k = 4 := by omega
  rcases this with rfl | rfl | rfl | rfl | rfl <;> rfl
theorem fnm_size (k : Nat) : (bs (fnm k)).size ≤ 1048576 := by
  rw [bs_size]
  unfold fnm
  split <;> decide
theorem str_eqB (a b : List UInt8) : ((bs a).toList == (bs b).toList) = decide (a = b) := by
  rw [ByteArray.toList_eq, ByteArray.toList_eq, bs_data, bs_data]
  by_cases h : a = b
  · subst h; simp
  · rw [decide_eq_false h]; exact beq_false_of_ne h
set_option maxRecDepth 100000 in
set_option maxHeartbeats 4000000 in
theorem bitsOf1_any (x y : ByteArray) (b : Nat) (w : World) (hc : w.cell? ⟨b, 0, none⟩ = some (.string y)) (hx : x.size ≤ 1048576) (hy : y.size ≤ 1048576) :
    Calls Tryz.prog 121 #[.string x, .pointer (some ⟨b, 0, none⟩)] w fun e w' => e = .returned (.bool (decide (upW x.data.toList = upW y.data.toList))) ∧ Ext w w' := by
  have hb := cell_lt hc
  have qc := fun z : ExtW w => (z.h.cell (p := ⟨b, 0, none⟩) hb).trans hc
  have HE := Lib.hid (str_eqB (upW x.data.toList) (upW y.data.toList))
  clear hc
  go_enter Tryz.func121, Tryz.ntmps121
  go_wp2_with fail
  refine wp_region_ext (by kernel_rfl) (by kernel_rfl) ?_
  repeat (go_big_quiet_step (first | (go_at_call_of 86 (Value.string x); refine (implUpper_any x _ hx).mono ?_; rintro e w7 ⟨rfl, hb7⟩; exact ⟨rfl, ExtW.on _ hb7⟩) | (go_at_call 86; refine (implUpper_any y _ hy).mono ?_; rintro e w7 ⟨rfl, hb7⟩; exact ⟨rfl, ExtW.on _ hb7⟩)))
  refine wpQuiet_nil ?_
  rintro wq ⟨⟨wqx, hwq⟩, hxwq⟩
  have hywq : wq = wqx := hxwq
  subst hywq
  clear hxwq qc
  go_wp2_with fail
  go_ret
  exact ⟨by rw [← HE.out]; rfl, hwq⟩
def IxRel (y : ByteArray) (W : World) (v5 v8 : Value) (wr : World) : Prop :=
  ∃ k : Nat, k ≤ 5 ∧ v8 = .int .i64 k ∧ Hid (∀ j, j < k → upW (fnm j) ≠ upW y.data.toList) ∧ Ext W wr
def idxV (o : Option Nat) : Int := match o with | some i => (i : Int) | none => -1
set_option maxRecDepth 100000 in
set_option maxHeartbeats 4000000 in
theorem indexFunc_any (y : ByteArray) (b : Nat) (a : Option Addr) (c : Nat) (w : World) (R : Rd w a c 1 5 (fnms.flatMap strCells)) (hc : w.cell? ⟨b, 0, none⟩ = some (.string y)) (hy : y.size ≤ 1048576) :
    Calls Tryz.prog 120 #[.slice a 5 c, .func (.func 121) #[] #[.pointer (some ⟨b, 0, none⟩)]] w fun e w' => e = .returned (.int .i64 (idxV (fIdx y.data.toList upNames 0))) ∧ Ext w w' := by
  obtain ⟨b1, o, rfl, hb0, hat⟩ := R.ptr (by simp)
  have HAT := Lib.hid hat
  have HC := Lib.hid hc
  have hbl := cell_lt hc
  clear hat hc
  go_enter Tryz.func120, Tryz.ntmps120
  go_wp2_with fail
  go_loopw [5, 8] (IxRel y w) (fun _ i _ => 5 - (intOf i).toNat)
  case atStart => exact ⟨0, Nat.zero_le _, rfl, Lib.hid (fun j hj => absurd hj (Nat.not_lt_zero _)), bxt⟩
  case round =>
    obtain ⟨k, hk, rfl, HS, hb⟩ := hrel
    by_cases hlt : k < 5
    · have k1 : (k : Int) < 5 := by omega
      have k3 : (0 : Int) ≤ (k : Int) := by omega
      have k5 : decide ((k : Int) < 5) = true := decide_eq_true k1
      have hc1 : wr.cell? ⟨b1, o + k, none⟩ = some (.string (bs (fnm k))) := by
        have h := strCells_at HAT.out k (by simpa [fnms] using hlt)
        rw [hb.cell (p := ⟨b1, o + k, none⟩) hb0, h, fnms_at k hlt]
      have hc2 : wr.cell? ⟨b, 0, none⟩ = some (.string y) := (hb.cell (p := ⟨b, 0, none⟩) hbl).trans HC.out
      go_wp2_with fail
      refine (bitsOf1_any (bs (fnm k)) y b _ hc2 (fnm_size k) hy).mono ?_
      rintro e w1 ⟨rfl, hb1⟩
      rw [bs_data]
      by_cases hm : upW (fnm k) = upW y.data.toList
      · have HF := Lib.hid (fIdx_hit y.data.toList k hlt HS.out hm)
        have hd : decide (upW (fnm k) = upW y.data.toList) = true := decide_eq_true hm
        clear hm
        go_wp2_with fail
        go_ret
        exact ⟨by rw [HF.out]; rfl, bxt⟩
      · have hd : decide (upW (fnm k) = upW y.data.toList) = false := decide_eq_false hm
        have HN : Hid (∀ j, j < k + 1 → upW (fnm j) ≠ upW y.data.toList) := fun j hj => by
          rcases Nat.lt_or_ge j k with h | h
          · exact HS.out j h
          · obtain rfl : j = k := by omega
            exact hm
        clear hm
        go_wp2_with fail
        go_roundw
        case rel => exact ⟨k + 1, by omega, by go_num, HN, bxt⟩
        case measure => simp [intOf]; omega
    · have k5 : decide ((k : Int) < 5) = false := decide_eq_false (by omega)
      obtain rfl : k = 5 := by omega
      have HF := Lib.hid (fIdx_none y.data.toList HS.out)
      go_wp2_with fail
      go_ret
      exact ⟨by rw [HF.out]; rfl, hb⟩
end Go.Proofs.YtidfhkdonhjgaaaGreatDoor
