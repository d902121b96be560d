/-
  The law FnApart: its walk.
-/
import Derived.Test.YtpameapajhbdnaaDraw16
import Derived.Test.YtpameapajhbdnaaXDr
import Derived.Deep.RegionHeld3
import Derived.BigQuiet
namespace Go.Proofs.Ytpameapajhbdnaa
open Go.RowKit
set_option linter.unusedVariables false
set_option linter.unusedSimpArgs false

def ApRel (n : Nat) (W : World) (i : Value) (wr : World) : Prop := ∃ k : Nat, k ≤ n ∧ i = .int .i64 k ∧ Ext W wr
set_option maxRecDepth 100000 in
set_option maxHeartbeats 4000000 in
theorem fnApart_walk (l : List Int) (a : Option Addr) (c : Nat) (w : World) : MaxLen w → Rd w a c 1 l.length (l.flatMap byteCells) → (∀ y ∈ l, 0 ≤ y ∧ y ≤ 255) →
    Calls Try.prog 6 #[.slice a l.length c] w fun e w' => e = .returned (.bool true) ∧ Below w.heap.size w w' := by
  intro hmx R hb
  have hln : l.length ≤ 9223372036854775807 := Nat.le_trans R.nc R.cm
  have HMX := Lib.hid hmx
  have HR := Lib.hid R
  have HB := Lib.hid hb
  clear R hb hmx
  obtain ⟨d, hd⟩ := boolOf (1048576 < l.length)
  have HDB := Lib.hid hd
  clear hd
  go_enter Try.func6, Try.ntmps6
  go_wp2_with fail
  refine (big_any l.length a c _ hln d HDB).mono ?_
  rintro e w1 ⟨rfl, rfl⟩
  cases d
  rotate_left
  · go_wp2_with fail
    go_ret
    exact ⟨rfl, bxt⟩
  have hl : l.length ≤ 1048576 := by have := no_of HDB.out; omega
  go_wp2_with fail
  refine (drawApplied_any l a c _ (HR.out.ext bxt) HB.out hl).mono ?_
  rintro e w1 ⟨g, q, zs, m, hzl, hsm, hmn, hmt, rfl, ho, hb1⟩
  have HB1 := Lib.hid (ho.bq hzl hsm)
  have HSM := Lib.hid hsm
  clear ho hsm
  have hzz1 := hb1.size; (try simp at hzz1)
  obtain ⟨hc1, hf1⟩ := bcell hb1
  obtain ⟨rr, rok, hrel⟩ := appRel_ex (zs.map PBox.box) m
  have HREL := Lib.hid hrel
  clear hrel
  cases rok
  · skip
    go_wp2_with fail
    refine (implApplied_bq zs g q _ (HB1.out.ext bxt) m hmn hmt (HMX.out.ext bxt) rr false HREL).mono ?_
    rintro e w2 ⟨g2, q2, z2, rfl, ho2, hz2, hb2⟩
    have HB2 := Lib.hid (ho2.bq (app_smallB HREL.out hz2 hzl HSM.out))
    have HZ2 := Lib.hid hz2
    clear ho2 hz2
    have hzz2 := hb2.size; (try simp at hzz2)
    obtain ⟨hc2, hf2⟩ := bcell hb2
    have hs2_0 : w1.heap.size < w2.heap.size := by (have hss := hb2.size; first | omega | (simp at hss <;> omega))
    go_wp2_with fail
    refine (specApplied_bq zs g q _ (HB1.out.ext bxt) m hmn hmt rr false HREL).mono ?_
    rintro e w3 ⟨g3, q3, z3, rfl, ho3, hz3, hb3⟩
    have HB3 := Lib.hid (ho3.bq (app_smallB HREL.out hz3 hzl HSM.out))
    have HZ3 := Lib.hid hz3
    clear ho3 hz3
    have hzz3 := hb3.size; (try simp at hzz3)
    obtain ⟨hc3, hf3⟩ := bcell hb3
    have hs3_0 : w1.heap.size < w3.heap.size := by (have hss := hb3.size; first | omega | (simp at hss <;> omega))
    go_wp2_with fail
    go_ret
    exact ⟨rfl, bxt⟩
  · skip
    go_wp2_with fail
    refine (implApplied_bq zs g q _ (HB1.out.ext bxt) m hmn hmt (HMX.out.ext bxt) rr true HREL).mono ?_
    rintro e w2 ⟨g2, q2, z2, rfl, ho2, hz2, hb2⟩
    have HB2 := Lib.hid (ho2.bq (app_smallB HREL.out hz2 hzl HSM.out))
    have HZ2 := Lib.hid hz2
    clear ho2 hz2
    have hzz2 := hb2.size; (try simp at hzz2)
    obtain ⟨hc2, hf2⟩ := bcell hb2
    have hs2_0 : w1.heap.size < w2.heap.size := by (have hss := hb2.size; first | omega | (simp at hss <;> omega))
    go_wp2_with fail
    refine (specApplied_bq zs g q _ (HB1.out.ext bxt) m hmn hmt rr true HREL).mono ?_
    rintro e w3 ⟨g3, q3, z3, rfl, ho3, hz3, hb3⟩
    have HB3 := Lib.hid (ho3.bq (app_smallB HREL.out hz3 hzl HSM.out))
    have HZ3 := Lib.hid hz3
    clear ho3 hz3
    have hzz3 := hb3.size; (try simp at hzz3)
    obtain ⟨hc3, hf3⟩ := bcell hb3
    have hs3_0 : w1.heap.size < w3.heap.size := by (have hss := hb3.size; first | omega | (simp at hss <;> omega))
    have HAP := Lib.hid (yes_of HREL.out.1)
    have HRR := Lib.hid (show z2.map PBox.box = appD (zs.map PBox.box) m from by (have h := HREL.out.2; rw [HZ2.out, ← h]; rfl))
    have cM0 : w3.cell? ⟨w1.heap.size, 0, none⟩ = some (.int .i64 m.kind) := ((Below.ext hb2 hb3).cell (p := ⟨w1.heap.size, 0, none⟩) smx).trans kpx
    have cM1 : w3.cell? ⟨w1.heap.size, 1, none⟩ = some (.int .i64 m.validity) := ((Below.ext hb2 hb3).cell (p := ⟨w1.heap.size, 1, none⟩) smx).trans kpx
    have hE13 : Hid (Ext w1 w3) := bxt
    have hE23 : Hid (Ext w2 w3) := bxt
    go_wp2_with fail
    go_loopw [9] (ApRel zs.length w3) (fun i _ => zs.length - (intOf i).toNat)
    case atStart => exact ⟨0, Nat.zero_le _, rfl, Below.refl _ _⟩
    case round =>
      obtain ⟨k, hk, rfl, hr⟩ := hrel
      by_cases hlt : k < zs.length
      · skip
        have hl1 : decide ((k : Int) < (zs.length : Int)) = true := decide_eq_true (by omega)
        have k1 : (0 : Int) ≤ (k : Int) := by omega
        have k2 : (k : Int) < (zs.length : Int) := by omega
        obtain ⟨b1, o1, rfl, hbb, hat⟩ := HB1.out.rd.ptr (by omega)
        have HAT := Lib.hid (hat.ext hbb hE13.out)
        have hbw : b1 < w3.heap.size := Nat.lt_of_lt_of_le hbb hE13.out.size
        have hbr : b1 < wr.heap.size := Nat.lt_of_lt_of_le hbw hr.size
        clear hat
        have hsm3 : w1.heap.size < wr.heap.size := Nat.lt_of_lt_of_le hs3_0 hr.size
        obtain ⟨y0, y1, y2, y3⟩ := PBox.at (HAT.out.ext hbw hr) k hlt
        obtain ⟨zi, hzi⟩ : ∃ z : Int, boxWith zs[k].validity (z2.map PBox.box) = z := ⟨_, rfl⟩
        have HZI := Lib.hid hzi
        clear hzi
        go_wp2_with fail
        refine (specBoxWith_any z2 g2 q2 zs[k].validity _ (HB2.out.rd.ext bxt) zi HZI).mono ?_
        rintro e w5 ⟨rfl, hw5⟩
        have hb5 := same_extA hw5
        clear hw5
        have hr5 : Hid (Ext w3 w5) := bxt
        clear y0 y1 y2 y3
        by_cases hv : zs[k].validity = m.validity
        rotate_left
        · skip
          have ev : (zs[k].validity != m.validity) = true := by simpa using hv
          obtain ⟨j, hj, hjw, hje⟩ := apart_other HAP.out (y := zs[k].box) (List.mem_map_of_mem (List.getElem_mem hlt)) hv
          have hjl : j < z2.length := by (rw [← HRR.out] at hj; simpa using hj)
          obtain rfl : zi = (j : Int) := by (rw [← HZI.out, HRR.out]; exact hjw)
          have hse : z2[j].box = zs[k].box := by (have h : (z2.map PBox.box)[j]'(by simpa using hjl) = zs[k].box := (by simp only [HRR.out]; exact hje); simpa using h)
          have HSE := Lib.hid hse
          clear hse hje hjw hj hv
          obtain ⟨b2, o2, rfl, hbb2, hat2⟩ := HB2.out.rd.ptr (by omega)
          have HAT2 := Lib.hid (hat2.ext hbb2 hE23.out)
          have hbw2 : b2 < w3.heap.size := Nat.lt_of_lt_of_le hbb2 hE23.out.size
          clear hat2
          have j0 : decide ((j : Int) < 0) = false := decide_eq_false (by omega)
          have j1 : (0 : Int) ≤ (j : Int) := by omega
          have j2 : (j : Int) < (z2.length : Int) := by omega
          go_wp2_with fail
          have qA1 := fun y : ExtW w5 => (PBox.at (HAT.out.ext hbw (ExtW.of hr5.out y)) k hlt).2.1
          have qM1 := fun y : ExtW w5 => ((ExtW.of hr5.out y).cell (p := ⟨w1.heap.size, 1, none⟩) hs3_0).trans cM1
          refine wp_region_ext (by kernel_rfl) (by kernel_rfl) ?_
          repeat (go_big_quiet_step (fail))
          refine wpQuiet_nil ?_
          rintro wq ⟨⟨wqx, hwq⟩, hxwq⟩
          have hywq : wq = wqx := hxwq
          subst hywq
          clear hxwq
          have hrwq : Hid (Ext w3 wq) := Below.ext hr5.out hwq
          clear qA1 qM1
          go_wp2_with fail
          have qA0 := fun y : ExtW wq => (PBox.at (HAT.out.ext hbw (ExtW.of hrwq.out y)) k hlt).1
          have qA1 := fun y : ExtW wq => (PBox.at (HAT.out.ext hbw (ExtW.of hrwq.out y)) k hlt).2.1
          have qA2 := fun y : ExtW wq => (PBox.at (HAT.out.ext hbw (ExtW.of hrwq.out y)) k hlt).2.2.1
          have qA3 := fun y : ExtW wq => (PBox.at (HAT.out.ext hbw (ExtW.of hrwq.out y)) k hlt).2.2.2
          have qB0 := fun y : ExtW wq => (PBox.at (HAT2.out.ext hbw2 (ExtW.of hrwq.out y)) j hjl).1
          have qB1 := fun y : ExtW wq => (PBox.at (HAT2.out.ext hbw2 (ExtW.of hrwq.out y)) j hjl).2.1
          have qB2 := fun y : ExtW wq => (PBox.at (HAT2.out.ext hbw2 (ExtW.of hrwq.out y)) j hjl).2.2.1
          have qB3 := fun y : ExtW wq => (PBox.at (HAT2.out.ext hbw2 (ExtW.of hrwq.out y)) j hjl).2.2.2
          refine wp_region_ext (by kernel_rfl) (by kernel_rfl) ?_
          repeat (go_big_quiet_step ((go_at_call 37; refine (specSameBox_any z2[j].name z2[j].validity z2[j].next z2[j].msgs _ _ zs[k].name zs[k].validity zs[k].next zs[k].msgs _ _ _ ((HB2.out.rdm _ (List.getElem_mem hjl)).ext (Below.ext hE23.out (ExtW.of hrwq.out _))) ((HB1.out.rdm _ (List.getElem_mem hlt)).ext (Below.ext hE13.out (ExtW.of hrwq.out _))) true (Lib.hid (by have h := HSE.out; simp [PBox.box] at h; simp [h]))).mono ?_; rintro e w7 ⟨rfl, hb7⟩; exact ⟨rfl, ExtW.on _ hb7⟩)))
          refine wpQuiet_nil ?_
          rintro wp ⟨⟨wpx, hwp⟩, hxwp⟩
          have hywp : wp = wpx := hxwp
          subst hywp
          clear hxwp
          have hrwp : Hid (Ext w3 wp) := Below.ext hrwq.out hwp
          clear qA0 qA1 qA2 qA3 qB0 qB1 qB2 qB3
          go_wp2_with fail
          go_roundw
          case rel => exact ⟨k + 1, by omega, by go_num, hrwp.out⟩
          case measure => simp [intOf]; omega
        · skip
          have ev : (zs[k].validity != m.validity) = false := by simpa using hv
          have hv2 : (m.validity != m.validity) = false := by simp
          obtain ⟨ha1, ha2⟩ := apart_own HAP.out (i := k) (by simpa using hlt) (by rw [List.getElem_map]; exact hv)
          have HA1 := Lib.hid ha1
          have HA2 := Lib.hid ha2
          clear ha1 ha2
          have hzv : boxWith m.validity (appD (zs.map PBox.box) m) = zi := by rw [← HRR.out, ← hv]; exact HZI.out
          have HZV := Lib.hid hzv
          have HV := Lib.hid hv
          clear hzv hv
          have hzr : -1 ≤ zi ∧ zi < z2.length := by (have h := firstI_range (fun b : DBox => decide (b.validity = zs[k].validity)) (z2.map PBox.box); have h2 : boxWith zs[k].validity (z2.map PBox.box) = zi := HZI.out; unfold boxWith at h2; rw [h2] at h; simpa using h)
          go_wp2_with fail
          have qA1 := fun y : ExtW w5 => (PBox.at (HAT.out.ext hbw (ExtW.of hr5.out y)) k hlt).2.1
          have qM1 := fun y : ExtW w5 => ((ExtW.of hr5.out y).cell (p := ⟨w1.heap.size, 1, none⟩) hs3_0).trans cM1
          refine wp_region_ext (by kernel_rfl) (by kernel_rfl) ?_
          repeat (go_big_quiet_step (fail))
          refine wpQuiet_nil ?_
          rintro wq ⟨⟨wqx, hwq⟩, hxwq⟩
          have hywq : wq = wqx := hxwq
          subst hywq
          clear hxwq
          have hrwq : Hid (Ext w3 wq) := Below.ext hr5.out hwq
          clear qA1 qM1
          by_cases hneg : zi < 0
          · skip
            have hkd : m.kind = 2 := HA1.out (by rw [HZV.out]; exact hneg)
            have ek : (m.kind != 2) = false := by simp [hkd]
            have HKD := Lib.hid hkd
            clear hkd
            have z0 : decide ((0 : Int) ≤ zi) = false := decide_eq_false (by omega)
            have z1 : decide (zi < 0) = true := decide_eq_true hneg
            go_wp2_with fail
            have qM0 := fun y : ExtW wq => ((ExtW.of hrwq.out y).cell (p := ⟨w1.heap.size, 0, none⟩) hs3_0).trans cM0
            refine wp_region_ext (by kernel_rfl) (by kernel_rfl) ?_
            repeat (go_big_quiet_step (fail))
            refine wpQuiet_nil ?_
            rintro wp ⟨⟨wpx, hwp⟩, hxwp⟩
            have hywp : wp = wpx := hxwp
            subst hywp
            clear hxwp
            have hrwp : Hid (Ext w3 wp) := Below.ext hrwq.out hwp
            clear qM0
            go_wp2_with fail
            go_roundw
            case rel => exact ⟨k + 1, by omega, by go_num, hrwp.out⟩
            case measure => simp [intOf]; omega
          · skip
            obtain ⟨j, rfl⟩ : ∃ j : Nat, zi = j := ⟨zi.toNat, by omega⟩
            have hjl : j < z2.length := by omega
            obtain ⟨b2, o2, rfl, hbb2, hat2⟩ := HB2.out.rd.ptr (by omega)
            have HAT2 := Lib.hid (hat2.ext hbb2 hE23.out)
            have hbw2 : b2 < w3.heap.size := Nat.lt_of_lt_of_le hbb2 hE23.out.size
            clear hat2
            have hnx : zs[k].next ≤ z2[j].next := by (have h := HA2.out j (by rw [← HRR.out]; simpa using hjl) HZV.out; simp only [← HRR.out, List.getElem_map] at h; exact h)
            have z0 : decide ((0 : Int) ≤ (j : Int)) = true := decide_eq_true (by omega)
            have z1 : decide ((j : Int) < 0) = false := decide_eq_false (by omega)
            have z3 : decide (z2[j].next < zs[k].next) = false := decide_eq_false (by omega)
            have j1 : (0 : Int) ≤ (j : Int) := by omega
            have j2 : (j : Int) < (z2.length : Int) := by omega
            have HNX := Lib.hid hnx
            clear hnx hneg hzr
            go_wp2_with fail
            have qA2 := fun y : ExtW wq => (PBox.at (HAT.out.ext hbw (ExtW.of hrwq.out y)) k hlt).2.2.1
            have qB2 := fun y : ExtW wq => (PBox.at (HAT2.out.ext hbw2 (ExtW.of hrwq.out y)) j hjl).2.2.1
            have qM0 := fun y : ExtW wq => ((ExtW.of hrwq.out y).cell (p := ⟨w1.heap.size, 0, none⟩) hs3_0).trans cM0
            refine wp_region_ext (by kernel_rfl) (by kernel_rfl) ?_
            repeat (go_big_quiet_step (fail))
            refine wpQuiet_nil ?_
            rintro wp ⟨⟨wpx, hwp⟩, hxwp⟩
            have hywp : wp = wpx := hxwp
            subst hywp
            clear hxwp
            have hrwp : Hid (Ext w3 wp) := Below.ext hrwq.out hwp
            clear qA2 qB2 qM0
            go_wp2_with fail
            go_roundw
            case rel => exact ⟨k + 1, by omega, by go_num, hrwp.out⟩
            case measure => simp [intOf]; omega
      · skip
        have hl1 : decide ((k : Int) < (zs.length : Int)) = false := decide_eq_false (by omega)
        have hl2 : decide (k < zs.length) = false := decide_eq_false hlt
        go_wp2_with fail
        go_ret
        exact ⟨rfl, bxt⟩
end Go.Proofs.Ytpameapajhbdnaa
