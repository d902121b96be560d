/-
  The law FnApplied: its walk.
-/
import Derived.Test.YtpameapajhbdnaaDraw16
import Derived.Test.YtpameapajhbdnaaXDr
import Derived.Deep.RegionHeld3
namespace Go.Proofs.Ytpameapajhbdnaa
open Go.RowKit
set_option linter.unusedVariables false
set_option linter.unusedSimpArgs false

set_option maxRecDepth 100000 in
set_option maxHeartbeats 4000000 in
theorem fnApplied_walk (l : List Int) (a : Option Addr) (c : Nat) (w : World) : MaxLen w → Rd w a c 1 l.length (l.flatMap byteCells) → (∀ y ∈ l, 0 ≤ y ∧ y ≤ 255) →
    Calls Try.prog 5 #[.slice a l.length c] w fun e w' => e = .returned (.bool true) ∧ Below w.heap.size w w' := by
  intro hmx R hb
  have hln : l.length ≤ 9223372036854775807 := Nat.le_trans R.nc R.cm
  have HMX := Lib.hid hmx
  have HR := Lib.hid R
  have HB := Lib.hid hb
  clear R hb hmx
  obtain ⟨d, hd⟩ := boolOf (1048576 < l.length)
  have HDB := Lib.hid hd
  clear hd
  go_enter Try.func5, Try.ntmps5
  go_wp2_with fail
  refine (big_any l.length a c _ hln d HDB).mono ?_
  rintro e w1 ⟨rfl, rfl⟩
  cases d
  rotate_left
  · go_wp2_with fail
    go_ret
    exact ⟨rfl, bxt⟩
  have hl : l.length ≤ 1048576 := by have := no_of HDB.out; omega
  go_wp2_with fail
  refine (drawApplied_any l a c _ (HR.out.ext bxt) HB.out hl).mono ?_
  rintro e w1 ⟨g, q, zs, m, hzl, hsm, hmn, hmt, rfl, ho, hb1⟩
  have HB1 := Lib.hid (ho.bq hzl hsm)
  have HSM := Lib.hid hsm
  clear ho hsm
  have hzz1 := hb1.size; (try simp at hzz1)
  obtain ⟨hc1, hf1⟩ := bcell hb1
  obtain ⟨rr, rok, hrel⟩ := appRel_ex (zs.map PBox.box) m
  have HREL := Lib.hid hrel
  clear hrel
  cases rok
  · skip
    go_wp2_with fail
    refine (implApplied_bq zs g q _ (HB1.out.ext bxt) m hmn hmt (HMX.out.ext bxt) rr false HREL).mono ?_
    rintro e w2 ⟨g2, q2, z2, rfl, ho2, hz2, hb2⟩
    have HB2 := Lib.hid (ho2.bq (app_smallB HREL.out hz2 hzl HSM.out))
    have HZ2 := Lib.hid hz2
    clear ho2 hz2
    have hzz2 := hb2.size; (try simp at hzz2)
    obtain ⟨hc2, hf2⟩ := bcell hb2
    have hs2_0 : w1.heap.size < w2.heap.size := by (have hss := hb2.size; first | omega | (simp at hss <;> omega))
    go_wp2_with fail
    refine (specApplied_bq zs g q _ (HB1.out.ext bxt) m hmn hmt rr false HREL).mono ?_
    rintro e w3 ⟨g3, q3, z3, rfl, ho3, hz3, hb3⟩
    have HB3 := Lib.hid (ho3.bq (app_smallB HREL.out hz3 hzl HSM.out))
    have HZ3 := Lib.hid hz3
    clear ho3 hz3
    have hzz3 := hb3.size; (try simp at hzz3)
    obtain ⟨hc3, hf3⟩ := bcell hb3
    have hs3_0 : w1.heap.size < w3.heap.size := by (have hss := hb3.size; first | omega | (simp at hss <;> omega))
    go_wp2_with fail
    refine (specSameBoxes_any z2 z3 _ _ _ _ _ (HB2.out.rd.ext bxt) (HB2.out.rdm.ext bxt) (HB3.out.rd.ext bxt) (HB3.out.rdm.ext bxt) true (Lib.hid (by simp [HZ2.out, HZ3.out]))).mono ?_
    rintro e w4 ⟨rfl, hb4⟩
    have hzz4 := hb4.size; (try simp at hzz4)
    obtain ⟨hc4, hf4⟩ := bcell hb4
    have hs4_0 : w1.heap.size < w4.heap.size := by (have hss := hb4.size; first | omega | (simp at hss <;> omega))
    go_wp2_with fail
    refine (implApplies_bq zs g q _ (HB1.out.ext bxt) m hmn hmt (HMX.out.ext bxt) false (Lib.hid HREL.out.1)).mono ?_
    rintro e w5 ⟨rfl, hb5⟩
    have hzz5 := hb5.size; (try simp at hzz5)
    obtain ⟨hc5, hf5⟩ := bcell hb5
    have hs5_0 : w1.heap.size < w5.heap.size := by (have hss := hb5.size; first | omega | (simp at hss <;> omega))
    go_wp2_with fail
    refine (specSameBoxes_any z2 zs _ _ _ _ _ (HB2.out.rd.ext bxt) (HB2.out.rdm.ext bxt) (HB1.out.rd.ext bxt) (HB1.out.rdm.ext bxt) true (Lib.hid (by (have h := HREL.out.2; simp at h; simp [HZ2.out, h])))).mono ?_
    rintro e w6 ⟨rfl, hb6⟩
    have hzz6 := hb6.size; (try simp at hzz6)
    obtain ⟨hc6, hf6⟩ := bcell hb6
    have hs6_0 : w1.heap.size < w6.heap.size := by (have hss := hb6.size; first | omega | (simp at hss <;> omega))
    go_wp2_with fail
    go_ret
    exact ⟨rfl, bxt⟩
  · skip
    go_wp2_with fail
    refine (implApplied_bq zs g q _ (HB1.out.ext bxt) m hmn hmt (HMX.out.ext bxt) rr true HREL).mono ?_
    rintro e w2 ⟨g2, q2, z2, rfl, ho2, hz2, hb2⟩
    have HB2 := Lib.hid (ho2.bq (app_smallB HREL.out hz2 hzl HSM.out))
    have HZ2 := Lib.hid hz2
    clear ho2 hz2
    have hzz2 := hb2.size; (try simp at hzz2)
    obtain ⟨hc2, hf2⟩ := bcell hb2
    have hs2_0 : w1.heap.size < w2.heap.size := by (have hss := hb2.size; first | omega | (simp at hss <;> omega))
    go_wp2_with fail
    refine (specApplied_bq zs g q _ (HB1.out.ext bxt) m hmn hmt rr true HREL).mono ?_
    rintro e w3 ⟨g3, q3, z3, rfl, ho3, hz3, hb3⟩
    have HB3 := Lib.hid (ho3.bq (app_smallB HREL.out hz3 hzl HSM.out))
    have HZ3 := Lib.hid hz3
    clear ho3 hz3
    have hzz3 := hb3.size; (try simp at hzz3)
    obtain ⟨hc3, hf3⟩ := bcell hb3
    have hs3_0 : w1.heap.size < w3.heap.size := by (have hss := hb3.size; first | omega | (simp at hss <;> omega))
    go_wp2_with fail
    refine (specSameBoxes_any z2 z3 _ _ _ _ _ (HB2.out.rd.ext bxt) (HB2.out.rdm.ext bxt) (HB3.out.rd.ext bxt) (HB3.out.rdm.ext bxt) true (Lib.hid (by simp [HZ2.out, HZ3.out]))).mono ?_
    rintro e w4 ⟨rfl, hb4⟩
    have hzz4 := hb4.size; (try simp at hzz4)
    obtain ⟨hc4, hf4⟩ := bcell hb4
    have hs4_0 : w1.heap.size < w4.heap.size := by (have hss := hb4.size; first | omega | (simp at hss <;> omega))
    go_wp2_with fail
    refine (implApplies_bq zs g q _ (HB1.out.ext bxt) m hmn hmt (HMX.out.ext bxt) true (Lib.hid HREL.out.1)).mono ?_
    rintro e w5 ⟨rfl, hb5⟩
    have hzz5 := hb5.size; (try simp at hzz5)
    obtain ⟨hc5, hf5⟩ := bcell hb5
    have hs5_0 : w1.heap.size < w5.heap.size := by (have hss := hb5.size; first | omega | (simp at hss <;> omega))
    have HBP := Lib.hid (show BoxesP (z2.map PBox.box) from by (have h := HREL.out.2; rw [HZ2.out, ← h]; exact appD_ok (yes_of HREL.out.1)))
    go_wp2_with fail
    refine (implBoxesOk_bq z2 g2 q2 _ (HB2.out.ext bxt) (HMX.out.ext bxt) true (Lib.hid ⟨fun _ => HBP.out, fun _ => rfl⟩)).mono ?_
    rintro e w6 ⟨rfl, hb6⟩
    have hzz6 := hb6.size; (try simp at hzz6)
    obtain ⟨hc6, hf6⟩ := bcell hb6
    have hs6_0 : w1.heap.size < w6.heap.size := by (have hss := hb6.size; first | omega | (simp at hss <;> omega))
    go_wp2_with fail
    refine (specBoxesOk_bq z2 g2 q2 _ (HB2.out.ext bxt) true (Lib.hid ⟨fun _ => HBP.out, fun _ => rfl⟩)).mono ?_
    rintro e w7 ⟨rfl, hb7⟩
    have hzz7 := hb7.size; (try simp at hzz7)
    obtain ⟨hc7, hf7⟩ := bcell hb7
    have hs7_0 : w1.heap.size < w7.heap.size := by (have hss := hb7.size; first | omega | (simp at hss <;> omega))
    go_wp2_with fail
    refine (implCommitOk_any m _ (HMX.out.ext bxt) (by omega) (by omega) true (Lib.hid ⟨fun _ => (yes_of HREL.out.1).2.1, fun _ => rfl⟩)).mono ?_
    rintro e w8 ⟨rfl, hb8⟩
    have hzz8 := hb8.size; (try simp at hzz8)
    obtain ⟨hc8, hf8⟩ := bcell hb8
    have hs8_0 : w1.heap.size < w8.heap.size := by (have hss := hb8.size; first | omega | (simp at hss <;> omega))
    go_wp2_with fail
    go_ret
    exact ⟨rfl, bxt⟩
end Go.Proofs.Ytpameapajhbdnaa
