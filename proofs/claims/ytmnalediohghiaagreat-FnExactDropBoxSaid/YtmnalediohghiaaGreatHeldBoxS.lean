/-
  Marks in mailboxes and in a store, looked at.
-/
import Derived.Test.YtmnalediohghiaaGreatMarkStore
import Derived.Test.YtmnalediohghiaaGreatXOwn
namespace Go.Proofs.YtmnalediohghiaaGreat
open Go.RowKit
set_option linter.unusedVariables false
set_option linter.unusedSimpArgs false

theorem markTo_get (l : List PBox) (k : Int) (n j : Nat) (hj : j < n) (hl : j < l.length) (h : j < (markTo l k n).length) : (markTo l k n)[j] = markB l[j] (k + cntB (l.take j)) := by
  simp [markTo, hl]

set_option maxRecDepth 100000 in
set_option maxHeartbeats 4000000 in
theorem heldBoxS_any (l : List PBox) (a : Option Addr) (c : Nat) (k : Int) (w : World) (R : Rd w a c 4 l.length ((markTo l k l.length).flatMap PBox.cells)) (M : RdM w (markTo l k l.length)) (h0 : 1 ≤ k) (h1 : k ≤ 50000000) (hS : cntB l ≤ 6291456) :
    Calls Tryz.prog 52 #[.slice a l.length c, .int .i64 k] w fun e w' => e = .returned (.int .i64 (k + cntB l)) ∧ Ext w w' := by
  have hnc := R.nc
  have hcm := R.cm
  have HR := Lib.hid R
  have HM := Lib.hid M
  clear R M
  go_enter Tryz.func52, Tryz.ntmps52
  go_wp2_with fail
  go_loopw [1, 5] (fun kv i wr => ∃ (j : Nat) (K : Int), j ≤ l.length ∧ i = .int .i64 j ∧ kv = .int .i64 K ∧ Hid (K = k + cntB (l.take j)) ∧ Below w.heap.size w wr) (fun _ i _ => l.length - (intOf i).toNat)
  case atStart => exact ⟨0, k, Nat.zero_le _, rfl, rfl, by simp [Hid, cntB], Below.refl _ _⟩
  case round =>
    obtain ⟨j, K, hj, rfl, rfl, HK, hb⟩ := hrel
    by_cases hlt : j < l.length
    · have hle := cntB_le l j hlt
      have hK1 : 1 ≤ K := by (have := HK.out; omega)
      have hK2 : K ≤ 60000000 := by (have := HK.out; omega)
      have hml : l[j].msgs.length ≤ 2097152 := by omega
      have hsucc := cntB_succ l j hlt
      have HSU := Lib.hid hsucc
      clear hle hsucc
      obtain ⟨b, o, rfl, hbb, hat⟩ := HR.out.ptr (by omega)
      have hmj : j < (markTo l k l.length).length := by rw [markTo_len]; exact hlt
      have hg := markTo_get l k l.length j hlt hlt hmj
      have hyy := PBox.at (hat.ext hbb hb) j hmj
      have hrm := HM.out.at j hmj
      rw [hg, ← HK.out] at hyy hrm
      obtain ⟨y0, y1, y2, y3⟩ := hyy
      have hlm : (markB l[j] K).msgs.length = l[j].msgs.length := by simp [markB, markN_len]
      rw [hlm] at y3 hrm
      have z0 : wr.cell? ⟨b, o + j * 4, none⟩ = some (.string (mtext K)) := y0
      have z1 : wr.cell? ⟨b, o + j * 4 + 1, none⟩ = some (.int .i64 (K + 1)) := y1
      have z2 : wr.cell? ⟨b, o + j * 4 + 2, none⟩ = some (.int .i64 (K + 1 + 1)) := y2
      have z3 : wr.cell? ⟨b, o + j * 4 + 3, none⟩ = some (.slice l[j].ma l[j].msgs.length l[j].mc) := y3
      have hrm2 : Rd w l[j].ma l[j].mc 3 l[j].msgs.length ((markN DMsg.mark 3 l[j].msgs.length (K + 1 + 1 + 1)).flatMap DMsg.cells) := hrm
      have HRM := Lib.hid hrm2
      have HA := Lib.hid hat
      clear hat hg hmj hrm hrm2 hlm y0 y1 y2 y3
      have hbw : b < wr.heap.size := Nat.lt_of_lt_of_le hbb hb.size
      have hns : (!((mtext K).toList == (mtext K).toList)) = false := by simp
      have hn1 : ((K + 1 : Int) != K + 1) = false := by simp
      have hn2 : ((K + 1 + 1 : Int) != K + 1 + 1) = false := by simp
      have hneg : decide (K + 1 + 1 + 1 + 3 * (l[j].msgs.length : Int) < 0) = false := decide_eq_false (by omega)
      go_wp2_with fail
      go_region_held3 (fun w' => Below wr.heap.size wr w' ∧ (∀ b o, b < wr.heap.size → w'.cell? ⟨b, o, none⟩ = wr.cell? ⟨b, o, none⟩)) (first | with_reducible exact sBeg _ | with_reducible exact sExt (by assumption) (by assumption)) ((go_at_call 94; refine (markText_any K _ (by omega) (by omega)).mono ?_; rintro e w1 ⟨rfl, hq1⟩))
      have hb2 : Ext wr w1 := Below.ext (Below.refl _ _).drew hq1
      have hb3 : Below w.heap.size w w1 := Below.ext hb hb2
      have hbw1 : b < w1.heap.size := Nat.lt_of_lt_of_le hbw hb2.size
      have v1 := ((bcell hb2).1 _ _ hbw).trans z1
      have v2 := ((bcell hb2).1 _ _ hbw).trans z2
      have v3 := ((bcell hb2).1 _ _ hbw).trans z3
      go_wp2_with fail
      refine (heldMsgS_any l[j].msgs.length l[j].ma l[j].mc (K + 1 + 1 + 1) _ (HRM.out.ext bxt) (by omega) (by omega) hml).mono ?_
      rintro e w2 ⟨rfl, hb4⟩
      go_wp2_with fail
      go_roundw
      case rel => exact ⟨j + 1, _, by omega, by go_num, rfl, by (have h4 := HK.out; have h5 := HSU.out; unfold Hid; rw [h5]; push_cast; omega), bxt⟩
      case measure => simp [intOf]; omega
    · go_wp2_with fail
      go_ret
      have hjl : j = l.length := by omega
      subst hjl
      have h6 := HK.out
      rw [List.take_length] at h6
      exact ⟨ret_int h6, hb⟩

set_option maxRecDepth 100000 in
set_option maxHeartbeats 4000000 in
theorem heldStore_any (xb : List PBox) (xbA : Option Addr) (xbC : Nat) (n : Nat) (xlA : Option Addr) (xlC : Nat) (xg : Int) (k : Int) (w : World) (R : Rd w xbA xbC 4 xb.length ((markTo xb k xb.length).flatMap PBox.cells)) (M : RdM w (markTo xb k xb.length)) (RL : Rd w xlA xlC 6 n ((markN DCommit.mark 6 n (k + cntB xb)).flatMap DCommit.cells)) (h0 : 1 ≤ k) (h1 : k ≤ 20000000) (hS : cntB xb ≤ 6291456) (hl : n ≤ 2097152) :
    Calls Tryz.prog 16 #[.agg #[.slice xbA xb.length xbC, .slice xlA n xlC, .int .i64 xg], .int .i64 k] w fun e w' => e = .returned (.int .i64 (k + cntB xb + 6 * n)) ∧ Ext w w' := by
  have HR := Lib.hid R
  have HM := Lib.hid M
  have HL := Lib.hid RL
  clear R M RL
  have hneg1 : decide (k + (cntB xb : Int) < 0) = false := decide_eq_false (by omega)
  have hneg2 : decide (k + (cntB xb : Int) + 6 * (n : Int) < 0) = false := decide_eq_false (by omega)
  go_enter Tryz.func16, Tryz.ntmps16
  go_wp2_with fail
  refine (heldBoxS_any xb _ _ k _ (HR.out.ext bxt) (HM.out.ext bxt) h0 (by omega) hS).mono ?_
  rintro e w1 ⟨rfl, hb1⟩
  have c0 : w1.cell? ⟨w.heap.size, 0, none⟩ = some (.slice xbA xb.length xbC) := (hb1.cell (p := ⟨w.heap.size, 0, none⟩) (by simp)).trans (by simp [go_sem])
  have c1 : w1.cell? ⟨w.heap.size, 1, none⟩ = some (.slice xlA n xlC) := (hb1.cell (p := ⟨w.heap.size, 1, none⟩) (by simp)).trans (by simp [go_sem])
  have hs1 : w.heap.size < w1.heap.size := by (have hss := hb1.size; simp at hss; omega)
  go_wp2_with fail
  refine (heldCommitS_any n xlA xlC (k + cntB xb) _ (HL.out.ext bxt) (by omega) (by omega) hl).mono ?_
  rintro e w2 ⟨rfl, hb2⟩
  go_wp2_with fail
  go_ret
  exact ⟨rfl, bxt⟩
end Go.Proofs.YtmnalediohghiaaGreat
