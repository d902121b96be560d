/-
  The law FnAppliedAll: its walk.
-/
import Derived.Test.YtpameapajhbdnaaDraw16
import Derived.Test.YtpameapajhbdnaaXDr
import Derived.Deep.RegionHeld3
namespace Go.Proofs.Ytpameapajhbdnaa
open Go.RowKit
set_option linter.unusedVariables false
set_option linter.unusedSimpArgs false

set_option maxRecDepth 100000 in
set_option maxHeartbeats 4000000 in
theorem fnAppliedAll_walk (l : List Int) (a : Option Addr) (c : Nat) (w : World) : MaxLen w → Rd w a c 1 l.length (l.flatMap byteCells) → (∀ y ∈ l, 0 ≤ y ∧ y ≤ 255) →
    Calls Try.prog 7 #[.slice a l.length c] w fun e w' => e = .returned (.bool true) ∧ Below w.heap.size w w' := by
  intro hmx R hb
  have hln : l.length ≤ 9223372036854775807 := Nat.le_trans R.nc R.cm
  have HMX := Lib.hid hmx
  have HR := Lib.hid R
  have HB := Lib.hid hb
  clear R hb hmx
  obtain ⟨d, hd⟩ := boolOf (1048576 < l.length)
  have HDB := Lib.hid hd
  clear hd
  go_enter Try.func7, Try.ntmps7
  go_wp2_with fail
  refine (big_any l.length a c _ hln d HDB).mono ?_
  rintro e w1 ⟨rfl, rfl⟩
  cases d
  rotate_left
  · go_wp2_with fail
    go_ret
    exact ⟨rfl, bxt⟩
  have hl : l.length ≤ 1048576 := by have := no_of HDB.out; omega
  go_wp2_with fail
  refine (drawAppliedAll_any l a c _ (HR.out.ext bxt) HB.out hl).mono ?_
  rintro e w1 ⟨g, q, zs, la, lc, lg, hzl, hsm, hll, hsl, rfl, ho, hol, hb1⟩
  have HB1 := Lib.hid (ho.bq hzl hsm)
  have HSM := Lib.hid hsm
  have HSL := Lib.hid hsl
  have HRL := Lib.hid (Rd.of_Own hol)
  have HCP := Lib.hid hol.cap
  clear ho hsm hsl hol
  have hzz1 := hb1.size; (try simp at hzz1)
  obtain ⟨hc1, hf1⟩ := bcell hb1
  obtain ⟨rr, rok, hrel⟩ := allRel_ex (zs.map PBox.box) lg
  have HREL := Lib.hid hrel
  clear hrel
  have hdd : (rok != rok) = false := by simp
  go_wp2_with fail
  refine (implAppliedAll_bq zs g q _ (HB1.out.ext bxt) lg (some ⟨la, 0, none⟩) lc (HRL.out.ext bxt) (by omega) HSL.out (HMX.out.ext bxt) rr rok HREL).mono ?_
  rintro e w2 ⟨g2, q2, z2, rfl, ho2, hz2, hb2⟩
  have HB2 := Lib.hid (ho2.bq (allR_smallB HREL.out hz2 hzl HSM.out))
  have HZ2 := Lib.hid hz2
  clear ho2 hz2
  have hzz2 := hb2.size; (try simp at hzz2)
  obtain ⟨hc2, hf2⟩ := bcell hb2
  go_wp2_with fail
  refine (specAppliedAll_bq zs g q _ (HB1.out.ext bxt) lg (some ⟨la, 0, none⟩) lc (HRL.out.ext bxt) (by omega) HSL.out rr rok HREL).mono ?_
  rintro e w3 ⟨g3, q3, z3, rfl, ho3, hz3, hb3⟩
  have HB3 := Lib.hid (ho3.bq (allR_smallB HREL.out hz3 hzl HSM.out))
  have HZ3 := Lib.hid hz3
  clear ho3 hz3
  have hzz3 := hb3.size; (try simp at hzz3)
  obtain ⟨hc3, hf3⟩ := bcell hb3
  go_wp2_with fail
  refine (specSameBoxes_any z2 z3 _ _ _ _ _ (HB2.out.rd.ext bxt) (HB2.out.rdm.ext bxt) (HB3.out.rd.ext bxt) (HB3.out.rdm.ext bxt) true (Lib.hid (by simp [HZ2.out, HZ3.out]))).mono ?_
  rintro e w4 ⟨rfl, hb4⟩
  have hzz4 := hb4.size; (try simp at hzz4)
  obtain ⟨hc4, hf4⟩ := bcell hb4
  go_wp2_with fail
  refine (at0_any l a c 2 _ (HR.out.ext bxt) HB.out hl (by omega)).mono ?_
  rintro e w5 ⟨av, ⟨av0, av1⟩, rfl, rfl⟩
  obtain ⟨kk, hkk, hke⟩ : ∃ kk : Nat, kk ≤ lg.length ∧ av.tmod ((lg.length : Int) + 1) = (kk : Int) := ⟨(av.tmod ((lg.length : Int) + 1)).toNat, by (have h1 := Int.tmod_nonneg ((lg.length : Int) + 1) av0; have h2 := Int.tmod_lt_of_pos av (show (0 : Int) < (lg.length : Int) + 1 by omega); omega), by (have h1 := Int.tmod_nonneg ((lg.length : Int) + 1) av0; omega)⟩
  have hke2 : av % ((lg.length : Int) + 1) = (kk : Int) := by rw [← Int.tmod_eq_emod_of_nonneg av0]; exact hke
  have hnz : ¬ ((lg.length : Int) + 1 = 0) := by omega
  obtain ⟨r1, o1, hrel1⟩ := allRel_ex (zs.map PBox.box) (lg.take kk)
  have HREL1 := Lib.hid hrel1
  clear hrel1
  have HPRT : Hid ((rr, rok) = if o1 = true then allD r1 (lg.drop kk) else (r1, o1)) := by (have h := allD_append (lg.take kk) (lg.drop kk) (zs.map PBox.box); rw [List.take_append_drop, show allD (zs.map PBox.box) lg = (rr, rok) from HREL.out, show allD (zs.map PBox.box) (lg.take kk) = (r1, o1) from HREL1.out] at h; exact h)
  have hcp := HCP.out
  have k1 : (0 : Int) ≤ (kk : Int) := by omega
  have k2 : (kk : Int) ≤ (lg.length : Int) := by omega
  have k3 : (kk : Int) ≤ (lc : Int) := by omega
  have HST := Lib.hid (show ∀ y ∈ lg.take kk, y.name.size ≤ 41 ∧ y.text.size ≤ 41 from fun y hy => HSL.out y (List.mem_of_mem_take hy))
  have HSD := Lib.hid (show ∀ y ∈ lg.drop kk, y.name.size ≤ 41 ∧ y.text.size ≤ 41 from fun y hy => HSL.out y (List.mem_of_mem_drop hy))
  have HRD : Hid (Rd w1 (some ⟨la, kk * 6, none⟩) (lc - kk) 6 (lg.length - kk) ((lg.drop kk).flatMap DCommit.cells)) := HRL.out.dropAt (A := some ⟨la, kk * 6, none⟩) DCommit.cells_len kk hkk (fun hlt => by simp) (lg.length - kk) (lc - kk) rfl rfl
  cases o1
  · skip
    obtain ⟨hp1, hp2⟩ : rr = r1 ∧ rok = false := by (have h := HPRT.out; simpa using h)
    subst hp2
    have HP1 := Lib.hid hp1
    clear hp1
    go_wp2_with fail
    refine (implAppliedAll_bqn zs g q _ (HB1.out.ext bxt) (lg.take kk) _ _ kk (by simp; omega) ((HRL.out.takeAt DCommit.cells_len kk hkk).ext bxt) (by omega) HST.out (HMX.out.ext bxt) r1 false HREL1).mono ?_
    rintro e w6 ⟨g6, q6, z6, rfl, ho6, hz6, hb6⟩
    have HB6 := Lib.hid (ho6.bq (allR_smallB HREL1.out hz6 hzl HSM.out))
    have HZ6 := Lib.hid hz6
    clear ho6 hz6
    have hzz6 := hb6.size; (try simp at hzz6)
    obtain ⟨hc6, hf6⟩ := bcell hb6
    go_wp2_with fail
    refine (specSameBoxes_any z6 z2 _ _ _ _ _ (HB6.out.rd.ext bxt) (HB6.out.rdm.ext bxt) (HB2.out.rd.ext bxt) (HB2.out.rdm.ext bxt) true (Lib.hid (by simp [HZ6.out, HZ2.out, HP1.out]))).mono ?_
    rintro e w7 ⟨rfl, hb7⟩
    have hzz7 := hb7.size; (try simp at hzz7)
    obtain ⟨hc7, hf7⟩ := bcell hb7
    go_wp2_with fail
    go_ret
    exact ⟨rfl, bxt⟩
  · skip
    have HPQ : Hid (allD r1 (lg.drop kk) = (rr, rok)) := by (have h := HPRT.out; rw [if_pos rfl] at h; exact h.symm)
    go_wp2_with fail
    refine (implAppliedAll_bqn zs g q _ (HB1.out.ext bxt) (lg.take kk) _ _ kk (by simp; omega) ((HRL.out.takeAt DCommit.cells_len kk hkk).ext bxt) (by omega) HST.out (HMX.out.ext bxt) r1 true HREL1).mono ?_
    rintro e w6 ⟨g6, q6, z6, rfl, ho6, hz6, hb6⟩
    have HB6 := Lib.hid (ho6.bq (allR_smallB HREL1.out hz6 hzl HSM.out))
    have HZ6 := Lib.hid hz6
    clear ho6 hz6
    have hzz6 := hb6.size; (try simp at hzz6)
    obtain ⟨hc6, hf6⟩ := bcell hb6
    clear hke hke2 hnz
    have hle : lg.length - kk ≤ 20 := by omega
    have hln2 : (lg.drop kk).length = lg.length - kk := List.length_drop
    have HREL2 : Hid (AllRel (z6.map PBox.box) (lg.drop kk) rr rok) := by (show allD (z6.map PBox.box) (lg.drop kk) = (rr, rok); rw [HZ6.out]; exact HPQ.out)
    have hdq : (rok == rok) = true := by simp
    by_cases hck : lc = kk
    · skip
      have HRD : Hid (Rd w1 (some ⟨la, 0, none⟩) 0 6 0 ((lg.drop kk).flatMap DCommit.cells)) := HRL.out.dropAt (A := some ⟨la, 0, none⟩) DCommit.cells_len kk hkk (fun hlt => by omega) 0 0 (by omega) (by omega)
      have HLD := Lib.hid (show (lg.drop kk).length = 0 from by have h : (lg.drop kk).length = lg.length - kk := List.length_drop; omega)
      subst hck
      go_wp2_with fail
      refine (implAppliedAll_bqn z6 g6 q6 _ (HB6.out.ext bxt) (lg.drop lc) (some ⟨la, 0, none⟩) 0 0 HLD.out (HRD.out.ext bxt) (by omega) (fun y hy => HSL.out y (List.mem_of_mem_drop hy)) (HMX.out.ext bxt) rr rok HREL2).mono ?_
      rintro e w7 ⟨g7, q7, z7, rfl, ho7, hz7, hb7⟩
      have HB7 := Lib.hid (ho7.bq (allR_smallB HREL2.out hz7 HB6.out.len HB6.out.sm))
      have HZ7 := Lib.hid hz7
      clear ho7 hz7
      have hzz7 := hb7.size; (try simp at hzz7)
      obtain ⟨hc7, hf7⟩ := bcell hb7
      go_wp2_with fail
      refine (specSameBoxes_any z7 z2 _ _ _ _ _ (HB7.out.rd.ext bxt) (HB7.out.rdm.ext bxt) (HB2.out.rd.ext bxt) (HB2.out.rdm.ext bxt) true (Lib.hid (by simp [HZ7.out, HZ2.out]))).mono ?_
      rintro e w8 ⟨rfl, hb8⟩
      have hzz8 := hb8.size; (try simp at hzz8)
      obtain ⟨hc8, hf8⟩ := bcell hb8
      go_wp2_with fail
      go_ret
      exact ⟨rfl, bxt⟩
    · skip
      have HRD : Hid (Rd w1 (some ⟨la, kk * 6, none⟩) (lc - kk) 6 (lg.length - kk) ((lg.drop kk).flatMap DCommit.cells)) := HRL.out.dropAt (A := some ⟨la, kk * 6, none⟩) DCommit.cells_len kk hkk (fun hlt => by simp) (lg.length - kk) (lc - kk) (by omega) (by omega)
      have HLD := Lib.hid (show (lg.drop kk).length = (lg.length - kk) from by have h : (lg.drop kk).length = lg.length - kk := List.length_drop; omega)
      have hck2 : ¬ (lc : Int) = (kk : Int) := by omega
      go_wp2_with fail
      refine (implAppliedAll_bqn z6 g6 q6 _ (HB6.out.ext bxt) (lg.drop kk) (some ⟨la, kk * 6, none⟩) (lc - kk) (lg.length - kk) HLD.out (HRD.out.ext bxt) hle (fun y hy => HSL.out y (List.mem_of_mem_drop hy)) (HMX.out.ext bxt) rr rok HREL2).mono ?_
      rintro e w7 ⟨g7, q7, z7, rfl, ho7, hz7, hb7⟩
      have HB7 := Lib.hid (ho7.bq (allR_smallB HREL2.out hz7 HB6.out.len HB6.out.sm))
      have HZ7 := Lib.hid hz7
      clear ho7 hz7
      have hzz7 := hb7.size; (try simp at hzz7)
      obtain ⟨hc7, hf7⟩ := bcell hb7
      go_wp2_with fail
      refine (specSameBoxes_any z7 z2 _ _ _ _ _ (HB7.out.rd.ext bxt) (HB7.out.rdm.ext bxt) (HB2.out.rd.ext bxt) (HB2.out.rdm.ext bxt) true (Lib.hid (by simp [HZ7.out, HZ2.out]))).mono ?_
      rintro e w8 ⟨rfl, hb8⟩
      have hzz8 := hb8.size; (try simp at hzz8)
      obtain ⟨hc8, hf8⟩ := bcell hb8
      go_wp2_with fail
      go_ret
      exact ⟨rfl, bxt⟩
end Go.Proofs.Ytpameapajhbdnaa
