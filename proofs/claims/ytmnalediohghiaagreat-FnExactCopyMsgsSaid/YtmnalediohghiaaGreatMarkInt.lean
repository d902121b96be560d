/-
  The laws' functions over slices of Int: marks laid and looked at.
-/
import Derived.Test.YtmnalediohghiaaGreatXMark
import Derived.Test.YtmnalediohghiaaGreatXOwn
namespace Go.Proofs.YtmnalediohghiaaGreat
open Go.RowKit
set_option linter.unusedVariables false
set_option linter.unusedSimpArgs false

set_option maxHeartbeats 1000000 in
theorem eqIntS_any (x y : List Int) (a1 a2 : Option Addr) (c1 c2 : Nat) (w : World) (R1 : Rd w a1 c1 1 x.length (x.flatMap intCells)) (R2 : Rd w a2 c2 1 y.length (y.flatMap intCells)) (r : Bool) (Hr : Hid (decide (x = y) = r)) :
    Calls Tryz.prog 26 #[.slice a1 x.length c1, .slice a2 y.length c2] w fun e w' => e = .returned (.bool r) ∧ Ext w w' := by
  have hlx : x.length ≤ 9223372036854775807 := Nat.le_trans R1.nc R1.cm
  have H1 := Lib.hid R1
  have H2 := Lib.hid R2
  clear R1 R2
  by_cases hne : x.length = y.length
  · rw [← hne]
    have HN := Lib.hid hne
    clear hne
    go_enter Tryz.func26, Tryz.ntmps26
    go_wp2_with fail
    go_loopw [5] (fun i wr => ∃ k : Nat, k ≤ x.length ∧ i = .int .i64 k ∧ Hid (∀ j, j < k → x[j]? = y[j]?) ∧ Hid (∃ n, wr = w.drewN n)) (fun i _ => x.length - (intOf i).toNat)
    case atStart => exact ⟨0, Nat.zero_le _, rfl, by simp [Hid], ⟨0, rfl⟩⟩
    case round =>
      obtain ⟨k, hk, rfl, HP, HB⟩ := hrel
      obtain ⟨nq0, hw0⟩ := HB.out
      subst hw0
      by_cases hlt : k < x.length
      · have hlty : k < y.length := by have := HN.out; omega
        obtain ⟨b1, o1, rfl, hb1, hat1⟩ := H1.out.ptr (by omega)
        obtain ⟨b2, o2, rfl, hb2, hat2⟩ := H2.out.ptr (by omega)
        have hx0 := intCells_at hat1 k hlt
        have hy0 := intCells_at hat2 k hlty
        have HA1 := Lib.hid hat1
        have HA2 := Lib.hid hat2
        clear hat1 hat2
        obtain ⟨d, hd⟩ : ∃ d, (x[k] != y[k]) = d := ⟨_, rfl⟩
        have HD : Hid (decide (x[k] = y[k]) = !d) := by (rw [← hd]; unfold Hid; by_cases h : x[k] = y[k] <;> simp [h])
        cases d
        · go_wp2_with fail
          go_quiet (fail)
          go_wp2_with fail
          go_roundw
          case rel => exact ⟨k + 1, by omega, by go_num, pre_succ HP.out hlt hlty (of_decide_eq_true HD.out), ⟨_, rfl⟩⟩
          case measure => simp [intOf]; omega
        · go_wp2_with fail
          go_quiet (fail)
          go_wp2_with fail
          go_ret
          refine ⟨ret_bool ?_, bxt⟩
          rw [← Hr.out]
          simp only [ne_at hlt hlty (of_decide_eq_false HD.out), decide_false]
      · go_wp2_with fail
        go_ret
        refine ⟨ret_bool ?_, bxt⟩
        rw [← Hr.out]
        have hkk : k = x.length := by omega
        subst hkk
        simp only [all_pre HP.out HN.out, decide_true]
  · have hn1 : ((x.length : Int) != (y.length : Int)) = true := by simp; omega
    have HN := Lib.hid hne
    clear hne
    go_enter Tryz.func26, Tryz.ntmps26
    go_wp2_with fail
    go_ret
    refine ⟨ret_bool ?_, Below.refl _ _⟩
    rw [← Hr.out]
    have : x ≠ y := fun h => HN.out (by rw [h])
    simp only [this, decide_false]

set_option maxHeartbeats 1000000 in
theorem markIntS_any (l : List Int) (a : Option Addr) (c B : Nat) (k : Int) (w : World) (hw : Own w B 3 1 (.slice a l.length c) l.length (l.flatMap intCells)) (h0 : 1 ≤ k) (h1 : k ≤ 100000000) (hl : l.length ≤ 2097152) :
    Calls Tryz.prog 27 #[.slice a l.length c, .int .i64 k] w fun e w' => e = .returned (.int .i64 (k + 1 * l.length)) ∧ Own w' B 3 1 (.slice a l.length c) l.length ((markN id 1 l.length k).flatMap intCells) ∧ w.grownBy w' (foot (.slice a l.length c)) := by
  by_cases hc0 : c = 0
  · obtain rfl : l = [] := List.eq_nil_of_length_eq_zero (by have := hw.cap; omega)
    subst hc0
    go_enter Tryz.func27, Tryz.ntmps27
    go_wp2_with fail
    go_loop [1, 5] (fun kv i => kv = .int .i64 k ∧ i = .int .i64 0) (fun _ _ => 0)
    case atStart => exact ⟨rfl, rfl⟩
    case round =>
      obtain ⟨rfl, rfl⟩ := hrel
      go_wp2_with fail
      go_ret
      exact ⟨ret_int (by simp), Own.none0 _, World.grownBy.refl _ _⟩
  · obtain ⟨g, rfl, hrow⟩ := hw.row hc0
    clear hw
    have hw := hrow
    clear hrow
    have hft : foot (.slice (some ⟨g, 0, none⟩) l.length c) = some g := by simp [foot, hc0]
    have HFT := Lib.hid hft
    clear hft hc0
    have HS : Hid (MarkRel intCells 1 id l k w B g c 3 (.int .i64 k) (.int .i64 0) w) := ⟨0, k, Nat.zero_le _, rfl, rfl, by simp, by simpa [markN] using hw, World.grownBy.refl _ _⟩
    clear hw
    go_enter Tryz.func27, Tryz.ntmps27
    go_wp2_with fail
    go_loopw [1, 5] (fun kv i wr => MarkRel intCells 1 id l k w B g c 3 kv i wr) (fun _ i _ => l.length - (intOf i).toNat)
    case atStart => exact HS.out
    case round =>
      obtain ⟨j, K, hj, rfl, rfl, hK, hw, hg⟩ := hrel
      have hK1 : 1 ≤ K := by omega
      have hK2 : K ≤ 200000000 := by omega
      have HW := Lib.hid hw
      have HK := Lib.hid hK
      clear hw hK
      by_cases hlt : j < l.length
      ·
        obtain ⟨⟨v0, hc0⟩, hf0⟩ := own_slot HW.out j (by omega)
        go_wp2_with fail
        go_roundw
        case rel => have := MarkRel.next (mk := id) intCells_len [.int .i64 K] [] hlt HK.out HW.out hg rfl (Below.refl _ _) (K + 1) (by omega); simpa [putW] using this
        case measure => simp [intOf]; omega
      · go_wp2_with fail
        go_ret
        refine ⟨ret_int ?_, Own.of_row (MarkRel.done hj hlt HW.out), by rw [HFT.out]; exact hg⟩
        have := HK.out
        have hjl : j = l.length := by omega
        subst hjl
        exact this

end Go.Proofs.YtmnalediohghiaaGreat
