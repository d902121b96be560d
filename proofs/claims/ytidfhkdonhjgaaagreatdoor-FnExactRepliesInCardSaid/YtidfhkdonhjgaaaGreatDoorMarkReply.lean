/-
  The laws' functions over slices of Reply: marks laid and looked at.
-/
import Derived.Test.YtidfhkdonhjgaaaGreatDoorXMark
import Derived.Test.YtidfhkdonhjgaaaGreatDoorXOwn
namespace Go.Proofs.YtidfhkdonhjgaaaGreatDoor
open Go.RowKit
set_option linter.unusedVariables false
set_option linter.unusedSimpArgs false
def DReply.mark (K : Int) : DReply := ⟨K, K + 1, K + 1 + 1, K + 1 + 1 + 1, mtext (K + 1 + 1 + 1 + 1), mtext (K + 1 + 1 + 1 + 1 + 1)⟩

set_option maxHeartbeats 1000000 in
theorem markReplyS_any (l : List DReply) (a : Option Addr) (c B : Nat) (k : Int) (w : World) (hw : Own w B 23 6 (.slice a l.length c) l.length (l.flatMap DReply.cells)) (h0 : 1 ≤ k) (h1 : k ≤ 100000000) (hl : l.length ≤ 2097152) :
    Calls Tryz.prog 19 #[.slice a l.length c, .int .i64 k] w fun e w' => e = .returned (.int .i64 (k + 6 * l.length)) ∧ Own w' B 23 6 (.slice a l.length c) l.length ((markN DReply.mark 6 l.length k).flatMap DReply.cells) ∧ w.grownBy w' (foot (.slice a l.length c)) := by
  by_cases hc0 : c = 0
  · obtain rfl : l = [] := List.eq_nil_of_length_eq_zero (by have := hw.cap; omega)
    subst hc0
    go_enter Tryz.func19, Tryz.ntmps19
    go_wp2_with fail
    go_loop [1, 5] (fun kv i => kv = .int .i64 k ∧ i = .int .i64 0) (fun _ _ => 0)
    case atStart => exact ⟨rfl, rfl⟩
    case round =>
      obtain ⟨rfl, rfl⟩ := hrel
      go_wp2_with fail
      go_ret
      exact ⟨ret_int (by simp), Own.none0 _, World.grownBy.refl _ _⟩
  · obtain ⟨g, rfl, hrow⟩ := hw.row hc0
    clear hw
    have hw := hrow
    clear hrow
    have hft : foot (.slice (some ⟨g, 0, none⟩) l.length c) = some g := by simp [foot, hc0]
    have HFT := Lib.hid hft
    clear hft hc0
    have HS : Hid (MarkRel DReply.cells 6 DReply.mark l k w B g c 23 (.int .i64 k) (.int .i64 0) w) := ⟨0, k, Nat.zero_le _, rfl, rfl, by simp, by simpa [markN] using hw, World.grownBy.refl _ _⟩
    clear hw
    go_enter Tryz.func19, Tryz.ntmps19
    go_wp2_with fail
    go_loopw [1, 5] (fun kv i wr => MarkRel DReply.cells 6 DReply.mark l k w B g c 23 kv i wr) (fun _ i _ => l.length - (intOf i).toNat)
    case atStart => exact HS.out
    case round =>
      obtain ⟨j, K, hj, rfl, rfl, hK, hw, hg⟩ := hrel
      have hK1 : 1 ≤ K := by omega
      have hK2 : K ≤ 200000000 := by omega
      have HW := Lib.hid hw
      have HK := Lib.hid hK
      clear hw hK
      by_cases hlt : j < l.length
      ·
        obtain ⟨⟨v0, hc0⟩, hf0⟩ := own_slot HW.out (j * 6) (by omega)
        obtain ⟨⟨v1, hc1⟩, hf1⟩ := own_slot HW.out (j * 6 + 1) (by omega)
        obtain ⟨⟨v2, hc2⟩, hf2⟩ := own_slot HW.out (j * 6 + 2) (by omega)
        obtain ⟨⟨v3, hc3⟩, hf3⟩ := own_slot HW.out (j * 6 + 3) (by omega)
        obtain ⟨⟨v4, hc4⟩, hf4⟩ := own_slot HW.out (j * 6 + 4) (by omega)
        obtain ⟨⟨v5, hc5⟩, hf5⟩ := own_slot HW.out (j * 6 + 5) (by omega)
        go_wp2_with fail
        refine (markText_any (K + 1 + 1 + 1 + 1) _ (by omega) (by omega)).mono ?_
        rintro e w1 ⟨rfl, hb1⟩
        obtain ⟨⟨z, hz⟩, hfz⟩ := own_slot (own_ext (own_put [Value.int .i64 (K), Value.int .i64 (K + 1), Value.int .i64 (K + 1 + 1), Value.int .i64 (K + 1 + 1 + 1)] wr (j * 6) _ HW.out).1 hb1) (j * 6 + 4) (by omega)
        go_wp2_with fail
        refine (markText_any (K + 1 + 1 + 1 + 1 + 1) _ (by omega) (by omega)).mono ?_
        rintro e w2 ⟨rfl, hb2⟩
        obtain ⟨⟨z2, hz2⟩, hfz2⟩ := own_slot (own_ext (own_put [Value.string (mtext (K + 1 + 1 + 1 + 1))] w1 (j * 6 + 4) _ (own_ext (own_put [Value.int .i64 (K), Value.int .i64 (K + 1), Value.int .i64 (K + 1 + 1), Value.int .i64 (K + 1 + 1 + 1)] wr (j * 6) _ HW.out).1 hb1)).1 hb2) (j * 6 + 5) (by omega)
        go_wp2_with fail
        go_roundw
        case rel => exact MarkRel.next2 DReply.cells_len [Value.int .i64 (K), Value.int .i64 (K + 1), Value.int .i64 (K + 1 + 1), Value.int .i64 (K + 1 + 1 + 1)] [Value.string (mtext (K + 1 + 1 + 1 + 1))] [Value.string (mtext (K + 1 + 1 + 1 + 1 + 1))] hlt HK.out HW.out hg rfl hb1 hb2 _ (by omega)
        case measure => simp [intOf]; omega
      · go_wp2_with fail
        go_ret
        refine ⟨ret_int ?_, Own.of_row (MarkRel.done hj hlt HW.out), by rw [HFT.out]; exact hg⟩
        have := HK.out
        have hjl : j = l.length := by omega
        subst hjl
        exact this

set_option maxHeartbeats 1000000 in
theorem heldReplyS_any (n : Nat) (a : Option Addr) (c : Nat) (k : Int) (w : World) (R : Rd w a c 6 n ((markN DReply.mark 6 n k).flatMap DReply.cells)) (h0 : 1 ≤ k) (h1 : k ≤ 100000000) (hl : n ≤ 2097152) :
    Calls Tryz.prog 20 #[.slice a n c, .int .i64 k] w fun e w' => e = .returned (.int .i64 (k + 6 * n)) ∧ Ext w w' := by
  have HR := Lib.hid R
  clear R
  go_enter Tryz.func20, Tryz.ntmps20
  go_wp2_with fail
  go_loopw [1, 5] (fun kv i wr => ∃ (j : Nat) (K : Int), j ≤ n ∧ i = .int .i64 j ∧ kv = .int .i64 K ∧ Hid (K = k + 6 * j) ∧ 1 ≤ K ∧ K ≤ 200000000 ∧ Below w.heap.size w wr) (fun _ i _ => n - (intOf i).toNat)
  case atStart => exact ⟨0, k, Nat.zero_le _, rfl, rfl, by simp [Hid], h0, by omega, Below.refl _ _⟩
  case round =>
    obtain ⟨j, K, hj, rfl, rfl, HK, hK1, hK2, hbe⟩ := hrel
    by_cases hlt : j < n
    · obtain ⟨b, o, rfl, hb, hat⟩ := HR.out.ptr (by omega)
      have hat2 := At.el DReply.cells_len (hat.ext hb hbe) j (by rw [markN_len]; exact hlt)
      rw [markN_get] at hat2
      have hk2 : k + ((6 : Nat) : Int) * (j : Int) = K := by have := HK.out; omega
      rw [hk2] at hat2
      clear hat hk2
      have hx0 : wr.cell? ⟨b, o + j * 6, none⟩ = some (.int .i64 (K)) := hat2 0 _ rfl
      have hx1 : wr.cell? ⟨b, o + j * 6 + 1, none⟩ = some (.int .i64 (K + 1)) := hat2 1 _ rfl
      have hx2 : wr.cell? ⟨b, o + j * 6 + 2, none⟩ = some (.int .i64 (K + 1 + 1)) := hat2 2 _ rfl
      have hx3 : wr.cell? ⟨b, o + j * 6 + 3, none⟩ = some (.int .i64 (K + 1 + 1 + 1)) := hat2 3 _ rfl
      have hx4 : wr.cell? ⟨b, o + j * 6 + 4, none⟩ = some (.string (mtext (K + 1 + 1 + 1 + 1))) := hat2 4 _ rfl
      have hx5 : wr.cell? ⟨b, o + j * 6 + 5, none⟩ = some (.string (mtext (K + 1 + 1 + 1 + 1 + 1))) := hat2 5 _ rfl
      clear hat2
      have hn0 : ((K : Int) != K) = false := by simp
      have hn1 : ((K + 1 : Int) != K + 1) = false := by simp
      have hn2 : ((K + 1 + 1 : Int) != K + 1 + 1) = false := by simp
      have hn3 : ((K + 1 + 1 + 1 : Int) != K + 1 + 1 + 1) = false := by simp
      have hn4 : ((K + 1 + 1 + 1 + 1 : Int) != K + 1 + 1 + 1 + 1) = false := by simp
      have hn5 : ((K + 1 + 1 + 1 + 1 + 1 : Int) != K + 1 + 1 + 1 + 1 + 1) = false := by simp
      have hbw : b < wr.heap.size := Nat.lt_of_lt_of_le hb hbe.size
      have hns4 : (!((mtext (K + 1 + 1 + 1 + 1)).toList == (mtext (K + 1 + 1 + 1 + 1)).toList)) = false := by simp
      go_wp2_with fail
      go_region_held3 (fun w' => Below wr.heap.size wr w' ∧ (∀ b o, b < wr.heap.size → w'.cell? ⟨b, o, none⟩ = wr.cell? ⟨b, o, none⟩)) (first | exact sBeg _ | exact sExt (by assumption) (by assumption)) ((go_at_call 48; refine (markText_any (K + 1 + 1 + 1 + 1) _ (by omega) (by omega)).mono ?_; rintro e w1 ⟨rfl, hq1⟩))
      have hb2 : Ext wr w1 := Below.ext (Below.refl _ _).drew hq1
      have hy5 : w1.cell? ⟨b, o + j * 6 + 5, none⟩ = some (Value.string (mtext (K + 1 + 1 + 1 + 1 + 1))) := ((bcell hb2).1 _ _ hbw).trans hx5
      have hbw1 : b < w1.heap.size := Nat.lt_of_lt_of_le hbw hb2.size
      have hns5 : (!((mtext (K + 1 + 1 + 1 + 1 + 1)).toList == (mtext (K + 1 + 1 + 1 + 1 + 1)).toList)) = false := by simp
      go_wp2_with fail
      go_region_held3 (fun w' => Below w1.heap.size w1 w' ∧ (∀ b o, b < w1.heap.size → w'.cell? ⟨b, o, none⟩ = w1.cell? ⟨b, o, none⟩)) (first | exact sBeg _ | exact sExt (by assumption) (by assumption)) ((go_at_call 48; refine (markText_any (K + 1 + 1 + 1 + 1 + 1) _ (by omega) (by omega)).mono ?_; rintro e w2 ⟨rfl, hq2⟩))
      have hb3 : Below w.heap.size w w2 := Below.ext (Below.ext hbe hb2) (Below.ext (Below.refl _ _).drew hq2)
      go_wp2_with fail
      go_roundw
      case rel => exact ⟨j + 1, _, by omega, by go_num, rfl, by (have := HK.out; unfold Hid; omega), by omega, by (have := HK.out; omega), hb3⟩
      case measure => simp [intOf]; omega
    · go_wp2_with fail
      go_ret
      refine ⟨ret_int ?_, hbe⟩
      have := HK.out
      have hjl : j = n := by omega
      subst hjl
      exact this

end Go.Proofs.YtidfhkdonhjgaaaGreatDoor
