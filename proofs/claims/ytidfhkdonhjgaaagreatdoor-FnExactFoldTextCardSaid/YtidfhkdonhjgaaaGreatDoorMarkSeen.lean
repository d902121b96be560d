/-
  The laws' functions over slices of Seen: marks laid and looked at.
-/
import Derived.Test.YtidfhkdonhjgaaaGreatDoorXMark
import Derived.Test.YtidfhkdonhjgaaaGreatDoorXOwn
namespace Go.Proofs.YtidfhkdonhjgaaaGreatDoor
open Go.RowKit
set_option linter.unusedVariables false
set_option linter.unusedSimpArgs false
def DSeen.mark (K : Int) : DSeen := ⟨K, K + 1⟩

set_option maxHeartbeats 1000000 in
theorem markSeenS_any (l : List DSeen) (a : Option Addr) (c B : Nat) (k : Int) (w : World) (hw : Own w B 89 2 (.slice a l.length c) l.length (l.flatMap DSeen.cells)) (h0 : 1 ≤ k) (h1 : k ≤ 100000000) (hl : l.length ≤ 2097152) :
    Calls Tryz.prog 52 #[.slice a l.length c, .int .i64 k] w fun e w' => e = .returned (.int .i64 (k + 2 * l.length)) ∧ Own w' B 89 2 (.slice a l.length c) l.length ((markN DSeen.mark 2 l.length k).flatMap DSeen.cells) ∧ w.grownBy w' (foot (.slice a l.length c)) := by
  by_cases hc0 : c = 0
  · obtain rfl : l = [] := List.eq_nil_of_length_eq_zero (by have := hw.cap; omega)
    subst hc0
    go_enter Tryz.func52, Tryz.ntmps52
    go_wp2_with fail
    go_loop [1, 5] (fun kv i => kv = .int .i64 k ∧ i = .int .i64 0) (fun _ _ => 0)
    case atStart => exact ⟨rfl, rfl⟩
    case round =>
      obtain ⟨rfl, rfl⟩ := hrel
      go_wp2_with fail
      go_ret
      exact ⟨ret_int (by simp), Own.none0 _, World.grownBy.refl _ _⟩
  · obtain ⟨g, rfl, hrow⟩ := hw.row hc0
    clear hw
    have hw := hrow
    clear hrow
    have hft : foot (.slice (some ⟨g, 0, none⟩) l.length c) = some g := by simp [foot, hc0]
    have HFT := Lib.hid hft
    clear hft hc0
    have HS : Hid (MarkRel DSeen.cells 2 DSeen.mark l k w B g c 89 (.int .i64 k) (.int .i64 0) w) := ⟨0, k, Nat.zero_le _, rfl, rfl, by simp, by simpa [markN] using hw, World.grownBy.refl _ _⟩
    clear hw
    go_enter Tryz.func52, Tryz.ntmps52
    go_wp2_with fail
    go_loopw [1, 5] (fun kv i wr => MarkRel DSeen.cells 2 DSeen.mark l k w B g c 89 kv i wr) (fun _ i _ => l.length - (intOf i).toNat)
    case atStart => exact HS.out
    case round =>
      obtain ⟨j, K, hj, rfl, rfl, hK, hw, hg⟩ := hrel
      have hK1 : 1 ≤ K := by omega
      have hK2 : K ≤ 200000000 := by omega
      have HW := Lib.hid hw
      have HK := Lib.hid hK
      clear hw hK
      by_cases hlt : j < l.length
      ·
        obtain ⟨⟨v0, hc0⟩, hf0⟩ := own_slot HW.out (j * 2) (by omega)
        obtain ⟨⟨v1, hc1⟩, hf1⟩ := own_slot HW.out (j * 2 + 1) (by omega)
        go_wp2_with fail
        go_roundw
        case rel => exact MarkRel.next DSeen.cells_len [Value.int .i64 (K), Value.int .i64 (K + 1)] [] hlt HK.out HW.out hg rfl (Below.refl _ _) _ (by omega)
        case measure => simp [intOf]; omega
      · go_wp2_with fail
        go_ret
        refine ⟨ret_int ?_, Own.of_row (MarkRel.done hj hlt HW.out), by rw [HFT.out]; exact hg⟩
        have := HK.out
        have hjl : j = l.length := by omega
        subst hjl
        exact this

set_option maxHeartbeats 1000000 in
theorem heldSeenS_any (n : Nat) (a : Option Addr) (c : Nat) (k : Int) (w : World) (R : Rd w a c 2 n ((markN DSeen.mark 2 n k).flatMap DSeen.cells)) (h0 : 1 ≤ k) (h1 : k ≤ 100000000) (hl : n ≤ 2097152) :
    Calls Tryz.prog 53 #[.slice a n c, .int .i64 k] w fun e w' => e = .returned (.int .i64 (k + 2 * n)) ∧ Ext w w' := by
  have HR := Lib.hid R
  clear R
  go_enter Tryz.func53, Tryz.ntmps53
  go_wp2_with fail
  go_loopw [1, 5] (fun kv i wr => ∃ (j : Nat) (K : Int), j ≤ n ∧ i = .int .i64 j ∧ kv = .int .i64 K ∧ Hid (K = k + 2 * j) ∧ 1 ≤ K ∧ K ≤ 200000000 ∧ Below w.heap.size w wr) (fun _ i _ => n - (intOf i).toNat)
  case atStart => exact ⟨0, k, Nat.zero_le _, rfl, rfl, by simp [Hid], h0, by omega, Below.refl _ _⟩
  case round =>
    obtain ⟨j, K, hj, rfl, rfl, HK, hK1, hK2, hbe⟩ := hrel
    by_cases hlt : j < n
    · obtain ⟨b, o, rfl, hb, hat⟩ := HR.out.ptr (by omega)
      have hat2 := At.el DSeen.cells_len (hat.ext hb hbe) j (by rw [markN_len]; exact hlt)
      rw [markN_get] at hat2
      have hk2 : k + ((2 : Nat) : Int) * (j : Int) = K := by have := HK.out; omega
      rw [hk2] at hat2
      clear hat hk2
      have hx0 : wr.cell? ⟨b, o + j * 2, none⟩ = some (.int .i64 (K)) := hat2 0 _ rfl
      have hx1 : wr.cell? ⟨b, o + j * 2 + 1, none⟩ = some (.int .i64 (K + 1)) := hat2 1 _ rfl
      clear hat2
      have hn0 : ((K : Int) != K) = false := by simp
      have hn1 : ((K + 1 : Int) != K + 1) = false := by simp
      have hb3 := hbe
      go_wp2_with fail
      go_roundw
      case rel => exact ⟨j + 1, _, by omega, by go_num, rfl, by (have := HK.out; unfold Hid; omega), by omega, by (have := HK.out; omega), hb3⟩
      case measure => simp [intOf]; omega
    · go_wp2_with fail
      go_ret
      refine ⟨ret_int ?_, hbe⟩
      have := HK.out
      have hjl : j = n := by omega
      subst hjl
      exact this

end Go.Proofs.YtidfhkdonhjgaaaGreatDoor
