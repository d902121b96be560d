/-
  The marks of the laws: the letter m and a number's digits, a function of the number alone.
  The laws' functions over slices of Msg: marks laid and looked at.
  The laws' functions over slices of Commit: marks laid and looked at.
-/
import Derived.Test.YtpameapajhbdnaaTy
import Derived.Test.YtpameapajhbdnaaXOwn
namespace Go.Proofs.Ytpameapajhbdnaa
open Go.RowKit
set_option linter.unusedVariables false

theorem conv1 {P : Program} (w : World) (S E ST : TypeId) (hs : P.underlying S = some (.slice E)) (he : P.underlying E = some (.int .u8)) (hd : P.underlying ST = some .string) (x : Int) :
    (convert S ST (.slice (some ⟨w.heap.size, 0, none⟩) 1 1)).run P (w.alloc (.cells #[.int .u8 x] E)) = .ok (.string (strOfNums [x])) (w.alloc (.cells #[.int .u8 x] E)) :=
  run_convert_bytes_arg _ S E hs he w.heap.size 0 1 1 [x] rfl (fun i hi => by
    have h : i = 0 := by omega
    subst h
    simp [go_sem]) ST hd

def mtGo : Nat → Nat → List UInt8 → List UInt8
  | 0, _, acc => acc
  | f + 1, q, acc => if q = 0 then acc else mtGo f (q / 10) (UInt8.ofNat (48 + q % 10) :: acc)
/-- the mark of a number above 0 -/
def mtext (k : Int) : ByteArray := ⟨(109 :: mtGo k.toNat k.toNat []).toArray⟩

set_option maxRecDepth 10000 in
set_option maxHeartbeats 1000000 in
theorem markText_any (k : Int) (w : World) (h0 : 1 ≤ k) (h1 : k ≤ 1000000000) :
    Calls Try.prog 89 #[.int .i64 k] w fun e w' => e = .returned (.string (mtext k)) ∧ Ext w w' := by
  go_enter Try.func89, Try.ntmps89
  go_wp2_with fail
  go_loopw [0, 3] (fun kk o wr => ∃ (f q : Nat) (acc : List UInt8), acc.length ≤ 1000000000 ∧ Hid (f + acc.length = k.toNat) ∧ q ≤ f ∧ q ≤ 1000000000 ∧ kk = .int .i64 q ∧ o = .string ⟨acc.toArray⟩ ∧ Hid (mtGo f q acc = mtGo k.toNat k.toNat []) ∧ Below w.heap.size w wr) (fun kk _ _ => (intOf kk).toNat)
  case atStart => exact ⟨k.toNat, k.toNat, [], by simp, by simp [Hid], Nat.le_refl _, by omega, by simp; omega, rfl, rfl, Below.refl _ _⟩
  case round =>
    obtain ⟨f, q, acc, hal, HL, hqf, hq, rfl, rfl, HG, hb⟩ := hrel
    by_cases hq0 : 0 < q
    · have hcv := conv1 wr 43 5 9 Try.underlying43 Try.underlying5 Try.underlying9 (48 + (q : Int) % 10)
      have hst : strOfNums [48 + (q : Int) % 10] ++ (⟨acc.toArray⟩ : ByteArray) = ⟨(UInt8.ofNat (48 + q % 10) :: acc).toArray⟩ := by
        have h2 : (48 + (q : Int) % 10).toNat = 48 + q % 10 := by omega
        apply WideShapes.bytes_inj
        simp [strOfNums, h2]
      have hsz : (strOfNums [48 + (q : Int) % 10]).size = 1 := rfl
      have HS := Lib.hid hst
      clear hst
      go_wp2_with fail
      go_roundw
      case rel =>
        have hf : f = (f - 1) + 1 := by omega
        refine ⟨f - 1, q / 10, UInt8.ofNat (48 + q % 10) :: acc, ?_, ?_, by omega, by omega, by simp, by rw [HS.out], ?_, ?_⟩
        · have := HL.out; simp; omega
        · have := HL.out; unfold Hid; simp; omega
        · unfold Hid
          rw [← HG.out]
          conv => rhs; rw [hf]
          simp only [mtGo]
          rw [if_neg (by omega)]
        · exact hb.alloc hb.size _
      case measure => simp [intOf]; omega
    · go_wp2_with fail
      go_ret
      have hq1 : q = 0 := by omega
      subst hq1
      have hm : mtGo f 0 acc = acc := by cases f <;> simp [mtGo]
      have hg := HG.out
      rw [hm] at hg
      refine ⟨?_, hb⟩
      unfold mtext
      rw [← hg]
      rfl
end Go.Proofs.Ytpameapajhbdnaa

namespace Go.Proofs.Ytpameapajhbdnaa
open Go.RowKit
set_option linter.unusedVariables false
set_option linter.unusedSimpArgs false
def DMsg.mark (K : Int) : DMsg := ⟨K, K + 1, mtext (K + 1 + 1)⟩

set_option maxHeartbeats 1000000 in
theorem markMsgS_any (l : List DMsg) (a : Option Addr) (c B : Nat) (k : Int) (w : World) (hw : Own w B 111 3 (.slice a l.length c) l.length (l.flatMap DMsg.cells)) (h0 : 1 ≤ k) (h1 : k ≤ 100000000) (hl : l.length ≤ 2097152) :
    Calls Try.prog 90 #[.slice a l.length c, .int .i64 k] w fun e w' => e = .returned (.int .i64 (k + 3 * l.length)) ∧ Own w' B 111 3 (.slice a l.length c) l.length ((markN DMsg.mark 3 l.length k).flatMap DMsg.cells) ∧ w.grownBy w' (foot (.slice a l.length c)) := by
  by_cases hc0 : c = 0
  · obtain rfl : l = [] := List.eq_nil_of_length_eq_zero (by have := hw.cap; omega)
    subst hc0
    go_enter Try.func90, Try.ntmps90
    go_wp2_with fail
    go_loop [1, 5] (fun kv i => kv = .int .i64 k ∧ i = .int .i64 0) (fun _ _ => 0)
    case atStart => exact ⟨rfl, rfl⟩
    case round =>
      obtain ⟨rfl, rfl⟩ := hrel
      go_wp2_with fail
      go_ret
      exact ⟨ret_int (by simp), Own.none0 _, World.grownBy.refl _ _⟩
  · obtain ⟨g, rfl, hrow⟩ := hw.row hc0
    clear hw
    have hw := hrow
    clear hrow
    have hft : foot (.slice (some ⟨g, 0, none⟩) l.length c) = some g := by simp [foot, hc0]
    have HFT := Lib.hid hft
    clear hft hc0
    have HS : Hid (MarkRel DMsg.cells 3 DMsg.mark l k w B g c 111 (.int .i64 k) (.int .i64 0) w) := ⟨0, k, Nat.zero_le _, rfl, rfl, by simp, by simpa [markN] using hw, World.grownBy.refl _ _⟩
    clear hw
    go_enter Try.func90, Try.ntmps90
    go_wp2_with fail
    go_loopw [1, 5] (fun kv i wr => MarkRel DMsg.cells 3 DMsg.mark l k w B g c 111 kv i wr) (fun _ i _ => l.length - (intOf i).toNat)
    case atStart => exact HS.out
    case round =>
      obtain ⟨j, K, hj, rfl, rfl, hK, hw, hg⟩ := hrel
      have hK1 : 1 ≤ K := by omega
      have hK2 : K ≤ 200000000 := by omega
      have HW := Lib.hid hw
      have HK := Lib.hid hK
      clear hw hK
      by_cases hlt : j < l.length
      ·
        obtain ⟨⟨v0, hc0⟩, hf0⟩ := own_slot HW.out (j * 3) (by omega)
        obtain ⟨⟨v1, hc1⟩, hf1⟩ := own_slot HW.out (j * 3 + 1) (by omega)
        obtain ⟨⟨v2, hc2⟩, hf2⟩ := own_slot HW.out (j * 3 + 2) (by omega)
        go_wp2_with ((go_at_call 89; refine (markText_any (K + 1 + 1) _ (by omega) (by omega)).mono ?_; rintro e w1 ⟨rfl, hb1⟩; obtain ⟨⟨z, hz⟩, hfz⟩ := own_slot (own_ext (own_put [Value.int .i64 (K), Value.int .i64 (K + 1)] wr (j * 3) _ HW.out).1 hb1) (j * 3 + 2) (by omega)))
        go_roundw
        case rel => exact MarkRel.next DMsg.cells_len [Value.int .i64 (K), Value.int .i64 (K + 1)] [Value.string (mtext (K + 1 + 1))] hlt HK.out HW.out hg rfl hb1 _ (by omega)
        case measure => simp [intOf]; omega
      · go_wp2_with fail
        go_ret
        refine ⟨ret_int ?_, Own.of_row (MarkRel.done hj hlt HW.out), by rw [HFT.out]; exact hg⟩
        have := HK.out
        have hjl : j = l.length := by omega
        subst hjl
        exact this

set_option maxHeartbeats 1000000 in
theorem heldMsgS_any (n : Nat) (a : Option Addr) (c : Nat) (k : Int) (w : World) (R : Rd w a c 3 n ((markN DMsg.mark 3 n k).flatMap DMsg.cells)) (h0 : 1 ≤ k) (h1 : k ≤ 100000000) (hl : n ≤ 2097152) :
    Calls Try.prog 91 #[.slice a n c, .int .i64 k] w fun e w' => e = .returned (.int .i64 (k + 3 * n)) ∧ Ext w w' := by
  have HR := Lib.hid R
  clear R
  go_enter Try.func91, Try.ntmps91
  go_wp2_with fail
  go_loopw [1, 5] (fun kv i wr => ∃ (j : Nat) (K : Int), j ≤ n ∧ i = .int .i64 j ∧ kv = .int .i64 K ∧ Hid (K = k + 3 * j) ∧ 1 ≤ K ∧ K ≤ 200000000 ∧ Below w.heap.size w wr) (fun _ i _ => n - (intOf i).toNat)
  case atStart => exact ⟨0, k, Nat.zero_le _, rfl, rfl, by simp [Hid], h0, by omega, Below.refl _ _⟩
  case round =>
    obtain ⟨j, K, hj, rfl, rfl, HK, hK1, hK2, hbe⟩ := hrel
    by_cases hlt : j < n
    · obtain ⟨b, o, rfl, hb, hat⟩ := HR.out.ptr (by omega)
      have hat2 := At.el DMsg.cells_len (hat.ext hb hbe) j (by rw [markN_len]; exact hlt)
      rw [markN_get] at hat2
      have hk2 : k + ((3 : Nat) : Int) * (j : Int) = K := by have := HK.out; omega
      rw [hk2] at hat2
      clear hat hk2
      have hx0 : wr.cell? ⟨b, o + j * 3, none⟩ = some (.int .i64 (K)) := hat2 0 _ rfl
      have hx1 : wr.cell? ⟨b, o + j * 3 + 1, none⟩ = some (.int .i64 (K + 1)) := hat2 1 _ rfl
      have hx2 : wr.cell? ⟨b, o + j * 3 + 2, none⟩ = some (.string (mtext (K + 1 + 1))) := hat2 2 _ rfl
      clear hat2
      have hn0 : ((K : Int) != K) = false := by simp
      have hn1 : ((K + 1 : Int) != K + 1) = false := by simp
      have hn2 : ((K + 1 + 1 : Int) != K + 1 + 1) = false := by simp
      have hns : (!((mtext (K + 1 + 1)).toList == (mtext (K + 1 + 1)).toList)) = false := by simp
      have hbw : b < wr.heap.size := Nat.lt_of_lt_of_le hb hbe.size
      go_wp2_with fail
      go_region_held3 (fun w' => Below wr.heap.size wr w' ∧ (∀ b o, b < wr.heap.size → w'.cell? ⟨b, o, none⟩ = wr.cell? ⟨b, o, none⟩)) (first | exact sBeg _ | exact sExt (by assumption) (by assumption)) ((go_at_call 89; refine (markText_any (K + 1 + 1) _ (by omega) (by omega)).mono ?_; rintro e w1 ⟨rfl, hq1⟩))
      have hb3 : Below w.heap.size w w1 := Below.ext hbe (Below.ext (Below.refl _ _).drew hq1)
      go_wp2_with fail
      go_roundw
      case rel => exact ⟨j + 1, _, by omega, by go_num, rfl, by (have := HK.out; unfold Hid; omega), by omega, by (have := HK.out; omega), hb3⟩
      case measure => simp [intOf]; omega
    · go_wp2_with fail
      go_ret
      refine ⟨ret_int ?_, hbe⟩
      have := HK.out
      have hjl : j = n := by omega
      subst hjl
      exact this

end Go.Proofs.Ytpameapajhbdnaa

namespace Go.Proofs.Ytpameapajhbdnaa
open Go.RowKit
set_option linter.unusedVariables false
set_option linter.unusedSimpArgs false
def DCommit.mark (K : Int) : DCommit := ⟨K, K + 1, K + 1 + 1, K + 1 + 1 + 1, mtext (K + 1 + 1 + 1 + 1), mtext (K + 1 + 1 + 1 + 1 + 1)⟩

set_option maxHeartbeats 1000000 in
theorem markCommitS_any (l : List DCommit) (a : Option Addr) (c B : Nat) (k : Int) (w : World) (hw : Own w B 38 6 (.slice a l.length c) l.length (l.flatMap DCommit.cells)) (h0 : 1 ≤ k) (h1 : k ≤ 100000000) (hl : l.length ≤ 2097152) :
    Calls Try.prog 80 #[.slice a l.length c, .int .i64 k] w fun e w' => e = .returned (.int .i64 (k + 6 * l.length)) ∧ Own w' B 38 6 (.slice a l.length c) l.length ((markN DCommit.mark 6 l.length k).flatMap DCommit.cells) ∧ w.grownBy w' (foot (.slice a l.length c)) := by
  by_cases hc0 : c = 0
  · obtain rfl : l = [] := List.eq_nil_of_length_eq_zero (by have := hw.cap; omega)
    subst hc0
    go_enter Try.func80, Try.ntmps80
    go_wp2_with fail
    go_loop [1, 5] (fun kv i => kv = .int .i64 k ∧ i = .int .i64 0) (fun _ _ => 0)
    case atStart => exact ⟨rfl, rfl⟩
    case round =>
      obtain ⟨rfl, rfl⟩ := hrel
      go_wp2_with fail
      go_ret
      exact ⟨ret_int (by simp), Own.none0 _, World.grownBy.refl _ _⟩
  · obtain ⟨g, rfl, hrow⟩ := hw.row hc0
    clear hw
    have hw := hrow
    clear hrow
    have hft : foot (.slice (some ⟨g, 0, none⟩) l.length c) = some g := by simp [foot, hc0]
    have HFT := Lib.hid hft
    clear hft hc0
    have HS : Hid (MarkRel DCommit.cells 6 DCommit.mark l k w B g c 38 (.int .i64 k) (.int .i64 0) w) := ⟨0, k, Nat.zero_le _, rfl, rfl, by simp, by simpa [markN] using hw, World.grownBy.refl _ _⟩
    clear hw
    go_enter Try.func80, Try.ntmps80
    go_wp2_with fail
    go_loopw [1, 5] (fun kv i wr => MarkRel DCommit.cells 6 DCommit.mark l k w B g c 38 kv i wr) (fun _ i _ => l.length - (intOf i).toNat)
    case atStart => exact HS.out
    case round =>
      obtain ⟨j, K, hj, rfl, rfl, hK, hw, hg⟩ := hrel
      have hK1 : 1 ≤ K := by omega
      have hK2 : K ≤ 200000000 := by omega
      have HW := Lib.hid hw
      have HK := Lib.hid hK
      clear hw hK
      by_cases hlt : j < l.length
      ·
        obtain ⟨⟨v0, hc0⟩, hf0⟩ := own_slot HW.out (j * 6) (by omega)
        obtain ⟨⟨v1, hc1⟩, hf1⟩ := own_slot HW.out (j * 6 + 1) (by omega)
        obtain ⟨⟨v2, hc2⟩, hf2⟩ := own_slot HW.out (j * 6 + 2) (by omega)
        obtain ⟨⟨v3, hc3⟩, hf3⟩ := own_slot HW.out (j * 6 + 3) (by omega)
        obtain ⟨⟨v4, hc4⟩, hf4⟩ := own_slot HW.out (j * 6 + 4) (by omega)
        obtain ⟨⟨v5, hc5⟩, hf5⟩ := own_slot HW.out (j * 6 + 5) (by omega)
        go_wp2_with fail
        refine (markText_any (K + 1 + 1 + 1 + 1) _ (by omega) (by omega)).mono ?_
        rintro e w1 ⟨rfl, hb1⟩
        obtain ⟨⟨z, hz⟩, hfz⟩ := own_slot (own_ext (own_put [Value.int .i64 (K), Value.int .i64 (K + 1), Value.int .i64 (K + 1 + 1), Value.int .i64 (K + 1 + 1 + 1)] wr (j * 6) _ HW.out).1 hb1) (j * 6 + 4) (by omega)
        go_wp2_with fail
        refine (markText_any (K + 1 + 1 + 1 + 1 + 1) _ (by omega) (by omega)).mono ?_
        rintro e w2 ⟨rfl, hb2⟩
        obtain ⟨⟨z2, hz2⟩, hfz2⟩ := own_slot (own_ext (own_put [Value.string (mtext (K + 1 + 1 + 1 + 1))] w1 (j * 6 + 4) _ (own_ext (own_put [Value.int .i64 (K), Value.int .i64 (K + 1), Value.int .i64 (K + 1 + 1), Value.int .i64 (K + 1 + 1 + 1)] wr (j * 6) _ HW.out).1 hb1)).1 hb2) (j * 6 + 5) (by omega)
        go_wp2_with fail
        go_roundw
        case rel => exact MarkRel.next2 DCommit.cells_len [Value.int .i64 (K), Value.int .i64 (K + 1), Value.int .i64 (K + 1 + 1), Value.int .i64 (K + 1 + 1 + 1)] [Value.string (mtext (K + 1 + 1 + 1 + 1))] [Value.string (mtext (K + 1 + 1 + 1 + 1 + 1))] hlt HK.out HW.out hg rfl hb1 hb2 _ (by omega)
        case measure => simp [intOf]; omega
      · go_wp2_with fail
        go_ret
        refine ⟨ret_int ?_, Own.of_row (MarkRel.done hj hlt HW.out), by rw [HFT.out]; exact hg⟩
        have := HK.out
        have hjl : j = l.length := by omega
        subst hjl
        exact this

set_option maxHeartbeats 1000000 in
theorem heldCommitS_any (n : Nat) (a : Option Addr) (c : Nat) (k : Int) (w : World) (R : Rd w a c 6 n ((markN DCommit.mark 6 n k).flatMap DCommit.cells)) (h0 : 1 ≤ k) (h1 : k ≤ 100000000) (hl : n ≤ 2097152) :
    Calls Try.prog 81 #[.slice a n c, .int .i64 k] w fun e w' => e = .returned (.int .i64 (k + 6 * n)) ∧ Ext w w' := by
  have HR := Lib.hid R
  clear R
  go_enter Try.func81, Try.ntmps81
  go_wp2_with fail
  go_loopw [1, 5] (fun kv i wr => ∃ (j : Nat) (K : Int), j ≤ n ∧ i = .int .i64 j ∧ kv = .int .i64 K ∧ Hid (K = k + 6 * j) ∧ 1 ≤ K ∧ K ≤ 200000000 ∧ Below w.heap.size w wr) (fun _ i _ => n - (intOf i).toNat)
  case atStart => exact ⟨0, k, Nat.zero_le _, rfl, rfl, by simp [Hid], h0, by omega, Below.refl _ _⟩
  case round =>
    obtain ⟨j, K, hj, rfl, rfl, HK, hK1, hK2, hbe⟩ := hrel
    by_cases hlt : j < n
    · obtain ⟨b, o, rfl, hb, hat⟩ := HR.out.ptr (by omega)
      have hat2 := At.el DCommit.cells_len (hat.ext hb hbe) j (by rw [markN_len]; exact hlt)
      rw [markN_get] at hat2
      have hk2 : k + ((6 : Nat) : Int) * (j : Int) = K := by have := HK.out; omega
      rw [hk2] at hat2
      clear hat hk2
      have hx0 : wr.cell? ⟨b, o + j * 6, none⟩ = some (.int .i64 (K)) := hat2 0 _ rfl
      have hx1 : wr.cell? ⟨b, o + j * 6 + 1, none⟩ = some (.int .i64 (K + 1)) := hat2 1 _ rfl
      have hx2 : wr.cell? ⟨b, o + j * 6 + 2, none⟩ = some (.int .i64 (K + 1 + 1)) := hat2 2 _ rfl
      have hx3 : wr.cell? ⟨b, o + j * 6 + 3, none⟩ = some (.int .i64 (K + 1 + 1 + 1)) := hat2 3 _ rfl
      have hx4 : wr.cell? ⟨b, o + j * 6 + 4, none⟩ = some (.string (mtext (K + 1 + 1 + 1 + 1))) := hat2 4 _ rfl
      have hx5 : wr.cell? ⟨b, o + j * 6 + 5, none⟩ = some (.string (mtext (K + 1 + 1 + 1 + 1 + 1))) := hat2 5 _ rfl
      clear hat2
      have hn0 : ((K : Int) != K) = false := by simp
      have hn1 : ((K + 1 : Int) != K + 1) = false := by simp
      have hn2 : ((K + 1 + 1 : Int) != K + 1 + 1) = false := by simp
      have hn3 : ((K + 1 + 1 + 1 : Int) != K + 1 + 1 + 1) = false := by simp
      have hn4 : ((K + 1 + 1 + 1 + 1 : Int) != K + 1 + 1 + 1 + 1) = false := by simp
      have hn5 : ((K + 1 + 1 + 1 + 1 + 1 : Int) != K + 1 + 1 + 1 + 1 + 1) = false := by simp
      have hbw : b < wr.heap.size := Nat.lt_of_lt_of_le hb hbe.size
      have hns4 : (!((mtext (K + 1 + 1 + 1 + 1)).toList == (mtext (K + 1 + 1 + 1 + 1)).toList)) = false := by simp
      go_wp2_with fail
      go_region_held3 (fun w' => Below wr.heap.size wr w' ∧ (∀ b o, b < wr.heap.size → w'.cell? ⟨b, o, none⟩ = wr.cell? ⟨b, o, none⟩)) (first | exact sBeg _ | exact sExt (by assumption) (by assumption)) ((go_at_call 89; refine (markText_any (K + 1 + 1 + 1 + 1) _ (by omega) (by omega)).mono ?_; rintro e w1 ⟨rfl, hq1⟩))
      have hb2 : Ext wr w1 := Below.ext (Below.refl _ _).drew hq1
      have hy5 : w1.cell? ⟨b, o + j * 6 + 5, none⟩ = some (Value.string (mtext (K + 1 + 1 + 1 + 1 + 1))) := ((bcell hb2).1 _ _ hbw).trans hx5
      have hbw1 : b < w1.heap.size := Nat.lt_of_lt_of_le hbw hb2.size
      have hns5 : (!((mtext (K + 1 + 1 + 1 + 1 + 1)).toList == (mtext (K + 1 + 1 + 1 + 1 + 1)).toList)) = false := by simp
      go_wp2_with fail
      go_region_held3 (fun w' => Below w1.heap.size w1 w' ∧ (∀ b o, b < w1.heap.size → w'.cell? ⟨b, o, none⟩ = w1.cell? ⟨b, o, none⟩)) (first | exact sBeg _ | exact sExt (by assumption) (by assumption)) ((go_at_call 89; refine (markText_any (K + 1 + 1 + 1 + 1 + 1) _ (by omega) (by omega)).mono ?_; rintro e w2 ⟨rfl, hq2⟩))
      have hb3 : Below w.heap.size w w2 := Below.ext (Below.ext hbe hb2) (Below.ext (Below.refl _ _).drew hq2)
      go_wp2_with fail
      go_roundw
      case rel => exact ⟨j + 1, _, by omega, by go_num, rfl, by (have := HK.out; unfold Hid; omega), by omega, by (have := HK.out; omega), hb3⟩
      case measure => simp [intOf]; omega
    · go_wp2_with fail
      go_ret
      refine ⟨ret_int ?_, hbe⟩
      have := HK.out
      have hjl : j = n := by omega
      subst hjl
      exact this

end Go.Proofs.Ytpameapajhbdnaa
