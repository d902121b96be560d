/-
  The laws' functions over slices of String: marks laid and looked at.
-/
import Derived.Test.YtadjlfcdjkikgaaDoorXMark
import Derived.Test.YtadjlfcdjkikgaaDoorXOwn
namespace Go.Proofs.YtadjlfcdjkikgaaDoor
open Go.RowKit
set_option linter.unusedVariables false
set_option linter.unusedSimpArgs false

set_option maxHeartbeats 1000000 in
theorem eqStringS_any (x y : List ByteArray) (a1 a2 : Option Addr) (c1 c2 : Nat) (w : World) (R1 : Rd w a1 c1 1 x.length (x.flatMap strCells)) (R2 : Rd w a2 c2 1 y.length (y.flatMap strCells)) (r : Bool) (Hr : Hid (decide (x = y) = r)) :
    Calls Tryd.prog 9 #[.slice a1 x.length c1, .slice a2 y.length c2] w fun e w' => e = .returned (.bool r) ∧ Ext w w' := by
  have hlx : x.length ≤ 9223372036854775807 := Nat.le_trans R1.nc R1.cm
  have H1 := Lib.hid R1
  have H2 := Lib.hid R2
  clear R1 R2
  by_cases hne : x.length = y.length
  · rw [← hne]
    have HN := Lib.hid hne
    clear hne
    go_enter Tryd.func9, Tryd.ntmps9
    go_wp2_with fail
    go_loopw [5] (fun i wr => ∃ k : Nat, k ≤ x.length ∧ i = .int .i64 k ∧ Hid (∀ j, j < k → x[j]? = y[j]?) ∧ Hid (∃ n, wr = w.drewN n)) (fun i _ => x.length - (intOf i).toNat)
    case atStart => exact ⟨0, Nat.zero_le _, rfl, by simp [Hid], ⟨0, rfl⟩⟩
    case round =>
      obtain ⟨k, hk, rfl, HP, HB⟩ := hrel
      obtain ⟨nq0, hw0⟩ := HB.out
      subst hw0
      by_cases hlt : k < x.length
      · have hlty : k < y.length := by have := HN.out; omega
        obtain ⟨b1, o1, rfl, hb1, hat1⟩ := H1.out.ptr (by omega)
        obtain ⟨b2, o2, rfl, hb2, hat2⟩ := H2.out.ptr (by omega)
        have hx0 := strCells_at hat1 k hlt
        have hy0 := strCells_at hat2 k hlty
        have HA1 := Lib.hid hat1
        have HA2 := Lib.hid hat2
        clear hat1 hat2
        obtain ⟨d, hd⟩ : ∃ d, (!(x[k].toList == y[k].toList)) = d := ⟨_, rfl⟩
        have HD : Hid (decide (x[k] = y[k]) = !d) := by (rw [← hd, str_beq]; unfold Hid; by_cases h : x[k] = y[k] <;> simp [h])
        cases d
        · go_wp2_with fail
          go_quiet (fail)
          go_wp2_with fail
          go_roundw
          case rel => exact ⟨k + 1, by omega, by go_num, pre_succ HP.out hlt hlty (of_decide_eq_true HD.out), ⟨_, rfl⟩⟩
          case measure => simp [intOf]; omega
        · go_wp2_with fail
          go_quiet (fail)
          go_wp2_with fail
          go_ret
          refine ⟨ret_bool ?_, bxt⟩
          rw [← Hr.out]
          simp only [ne_at hlt hlty (of_decide_eq_false HD.out), decide_false]
      · go_wp2_with fail
        go_ret
        refine ⟨ret_bool ?_, bxt⟩
        rw [← Hr.out]
        have hkk : k = x.length := by omega
        subst hkk
        simp only [all_pre HP.out HN.out, decide_true]
  · have hn1 : ((x.length : Int) != (y.length : Int)) = true := by simp; omega
    have HN := Lib.hid hne
    clear hne
    go_enter Tryd.func9, Tryd.ntmps9
    go_wp2_with fail
    go_ret
    refine ⟨ret_bool ?_, Below.refl _ _⟩
    rw [← Hr.out]
    have : x ≠ y := fun h => HN.out (by rw [h])
    simp only [this, decide_false]

set_option maxHeartbeats 1000000 in
theorem markStringS_any (l : List ByteArray) (a : Option Addr) (c B : Nat) (k : Int) (w : World) (hw : Own w B 9 1 (.slice a l.length c) l.length (l.flatMap strCells)) (h0 : 1 ≤ k) (h1 : k ≤ 100000000) (hl : l.length ≤ 2097152) :
    Calls Tryd.prog 10 #[.slice a l.length c, .int .i64 k] w fun e w' => e = .returned (.int .i64 (k + 1 * l.length)) ∧ Own w' B 9 1 (.slice a l.length c) l.length ((markN mtext 1 l.length k).flatMap strCells) ∧ w.grownBy w' (foot (.slice a l.length c)) := by
  by_cases hc0 : c = 0
  · obtain rfl : l = [] := List.eq_nil_of_length_eq_zero (by have := hw.cap; omega)
    subst hc0
    go_enter Tryd.func10, Tryd.ntmps10
    go_wp2_with fail
    go_loop [1, 5] (fun kv i => kv = .int .i64 k ∧ i = .int .i64 0) (fun _ _ => 0)
    case atStart => exact ⟨rfl, rfl⟩
    case round =>
      obtain ⟨rfl, rfl⟩ := hrel
      go_wp2_with fail
      go_ret
      exact ⟨ret_int (by simp), Own.none0 _, World.grownBy.refl _ _⟩
  · obtain ⟨g, rfl, hrow⟩ := hw.row hc0
    clear hw
    have hw := hrow
    clear hrow
    have hft : foot (.slice (some ⟨g, 0, none⟩) l.length c) = some g := by simp [foot, hc0]
    have HFT := Lib.hid hft
    clear hft hc0
    have HS : Hid (MarkRel strCells 1 mtext l k w B g c 9 (.int .i64 k) (.int .i64 0) w) := ⟨0, k, Nat.zero_le _, rfl, rfl, by simp, by simpa [markN] using hw, World.grownBy.refl _ _⟩
    clear hw
    go_enter Tryd.func10, Tryd.ntmps10
    go_wp2_with fail
    go_loopw [1, 5] (fun kv i wr => MarkRel strCells 1 mtext l k w B g c 9 kv i wr) (fun _ i _ => l.length - (intOf i).toNat)
    case atStart => exact HS.out
    case round =>
      obtain ⟨j, K, hj, rfl, rfl, hK, hw, hg⟩ := hrel
      have hK1 : 1 ≤ K := by omega
      have hK2 : K ≤ 200000000 := by omega
      have HW := Lib.hid hw
      have HK := Lib.hid hK
      clear hw hK
      by_cases hlt : j < l.length
      ·

        go_wp2_with ((go_at_call 25; refine (markText_any (K) _ (by omega) (by omega)).mono ?_; rintro e w1 ⟨rfl, hb1⟩; obtain ⟨⟨z, hz⟩, hfz⟩ := own_slot (own_ext HW.out hb1) j (by omega)))
        go_roundw
        case rel => have := MarkRel.next (mk := mtext) strCells_len [] [.string (mtext K)] hlt HK.out HW.out hg rfl hb1 (K + 1) (by omega); simpa [putW] using this
        case measure => simp [intOf]; omega
      · go_wp2_with fail
        go_ret
        refine ⟨ret_int ?_, Own.of_row (MarkRel.done hj hlt HW.out), by rw [HFT.out]; exact hg⟩
        have := HK.out
        have hjl : j = l.length := by omega
        subst hjl
        exact this

set_option maxHeartbeats 1000000 in
theorem heldStringS_any (n : Nat) (a : Option Addr) (c : Nat) (k : Int) (w : World) (R : Rd w a c 1 n ((markN mtext 1 n k).flatMap strCells)) (h0 : 1 ≤ k) (h1 : k ≤ 100000000) (hl : n ≤ 2097152) :
    Calls Tryd.prog 11 #[.slice a n c, .int .i64 k] w fun e w' => e = .returned (.int .i64 (k + 1 * n)) ∧ Ext w w' := by
  have HR := Lib.hid R
  clear R
  go_enter Tryd.func11, Tryd.ntmps11
  go_wp2_with fail
  go_loopw [1, 5] (fun kv i wr => ∃ (j : Nat) (K : Int), j ≤ n ∧ i = .int .i64 j ∧ kv = .int .i64 K ∧ Hid (K = k + 1 * j) ∧ 1 ≤ K ∧ K ≤ 200000000 ∧ Below w.heap.size w wr) (fun _ i _ => n - (intOf i).toNat)
  case atStart => exact ⟨0, k, Nat.zero_le _, rfl, rfl, by simp [Hid], h0, by omega, Below.refl _ _⟩
  case round =>
    obtain ⟨j, K, hj, rfl, rfl, HK, hK1, hK2, hbe⟩ := hrel
    by_cases hlt : j < n
    · obtain ⟨b, o, rfl, hb, hat⟩ := HR.out.ptr (by omega)
      have hat2 := At.el strCells_len (hat.ext hb hbe) j (by rw [markN_len]; exact hlt)
      rw [markN_get] at hat2
      have hk2 : k + ((1 : Nat) : Int) * (j : Int) = K := by have := HK.out; omega
      rw [hk2] at hat2
      clear hat hk2
      have hx0 : wr.cell? ⟨b, o + j, none⟩ = some (.string (mtext K)) := by (have := hat2 0 _ rfl; simpa using this)
      clear hat2
      have hn0 : ((K : Int) != K) = false := by simp
      have hns : (!((mtext (K)).toList == (mtext (K)).toList)) = false := by simp
      have hbw : b < wr.heap.size := Nat.lt_of_lt_of_le hb hbe.size
      go_wp2_with fail
      go_region_held3 (fun w' => Below wr.heap.size wr w' ∧ (∀ b o, b < wr.heap.size → w'.cell? ⟨b, o, none⟩ = wr.cell? ⟨b, o, none⟩)) (first | exact sBeg _ | exact sExt (by assumption) (by assumption)) ((go_at_call 25; refine (markText_any (K) _ (by omega) (by omega)).mono ?_; rintro e w1 ⟨rfl, hq1⟩))
      have hb3 : Below w.heap.size w w1 := Below.ext hbe (Below.ext (Below.refl _ _).drew hq1)
      go_wp2_with fail
      go_roundw
      case rel => exact ⟨j + 1, _, by omega, by go_num, rfl, by (have := HK.out; unfold Hid; omega), by omega, by (have := HK.out; omega), hb3⟩
      case measure => simp [intOf]; omega
    · go_wp2_with fail
      go_ret
      refine ⟨ret_int ?_, hbe⟩
      have := HK.out
      have hjl : j = n := by omega
      subst hjl
      exact this

end Go.Proofs.YtadjlfcdjkikgaaDoor
