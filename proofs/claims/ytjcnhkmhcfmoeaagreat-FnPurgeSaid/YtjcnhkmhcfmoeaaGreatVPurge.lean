/-
  The law FnPurge: its walk.
-/
import Derived.Test.YtjcnhkmhcfmoeaaGreatDraw15
import Derived.Test.YtjcnhkmhcfmoeaaGreatXPur
import Derived.Test.YtjcnhkmhcfmoeaaGreatWBoxIdx
import Derived.Test.YtjcnhkmhcfmoeaaGreatWSq
import Derived.Test.YtjcnhkmhcfmoeaaGreatWOpsQ
import Derived.Test.YtjcnhkmhcfmoeaaGreatXDr
import Derived.Test.YtjcnhkmhcfmoeaaGreatDrawV
import Derived.Deep.RegionHeld3
import Derived.BigQuiet
namespace Go.Proofs.YtjcnhkmhcfmoeaaGreat
open Go.RowKit
set_option linter.unusedVariables false
set_option linter.unusedSimpArgs false

theorem implPurge_sq (zs : List PBox) (ba : Option Addr) (bc : Nat) (lg : List DCommit) (la : Option Addr) (lc : Nat) (gv : Int) (v : Int) (us : List Int) (ua : Option Addr) (uc : Nat) (w : World) (h : Sq w ba bc zs la lc lg) (RU : Rd w ua uc 1 us.length (us.flatMap intCells)) (hul : us.length ≤ 100) (hm : MaxLen w) (rs : DStore) (rok : Int) (H : Hid (purgeD ⟨zs.map PBox.box, lg, gv⟩ v us = (rs, rok))) : Calls Tryz.prog 40 #[.agg #[.slice ba zs.length bc, .slice la lg.length lc, .int .i64 gv], .int .i64 v, .slice ua us.length uc] w (fun e w' => ∃ g q z2 g2 q2, e = .returned (.tuple #[.agg #[.slice g z2.length q, .slice g2 rs.log.length q2, .int .i64 rs.given], .int .i64 rok]) ∧ OwnSt w' w.heap.size 49 66 41 g q z2 g2 q2 rs.log ∧ z2.map PBox.box = rs.boxes ∧ Ext w w') :=
  implPurge_law zs ba bc lg la lc gv v us ua uc w h.rd h.rdm h.rl (by have := h.len; omega) (fun y hy => by have := (h.sm y hy).2.1; omega) (by have := h.ll; omega) (fun y hy => by have := (h.sm y hy).1; omega) (fun y hy t ht => by have := (h.sm y hy).2.2 t ht; omega) (fun y hy => by have := h.sl y hy; exact ⟨by omega, by omega⟩) RU (by omega) hm rs rok H
theorem specPurge_sq (zs : List PBox) (ba : Option Addr) (bc : Nat) (lg : List DCommit) (la : Option Addr) (lc : Nat) (gv : Int) (v : Int) (us : List Int) (ua : Option Addr) (uc : Nat) (w : World) (h : Sq w ba bc zs la lc lg) (RU : Rd w ua uc 1 us.length (us.flatMap intCells)) (hul : us.length ≤ 100) (rs : DStore) (rok : Int) (H : Hid (purgeD ⟨zs.map PBox.box, lg, gv⟩ v us = (rs, rok))) : Calls Tryz.prog 41 #[.agg #[.slice ba zs.length bc, .slice la lg.length lc, .int .i64 gv], .int .i64 v, .slice ua us.length uc] w (fun e w' => ∃ g q z2 g2 q2, e = .returned (.tuple #[.agg #[.slice g z2.length q, .slice g2 rs.log.length q2, .int .i64 rs.given], .int .i64 rok]) ∧ OwnSt w' w.heap.size 49 66 41 g q z2 g2 q2 rs.log ∧ z2.map PBox.box = rs.boxes ∧ Ext w w') :=
  specPurge_law zs ba bc lg la lc gv v us ua uc w h.rd h.rdm h.rl (by have := h.len; omega) (fun y hy => by have := (h.sm y hy).2.1; omega) (by have := h.ll; omega) (fun y hy => by have := (h.sm y hy).1; omega) (fun y hy t ht => by have := (h.sm y hy).2.2 t ht; omega) (fun y hy => by have := h.sl y hy; exact ⟨by omega, by omega⟩) RU (by omega) rs rok H
set_option maxHeartbeats 1000000 in
theorem times_any (l : List Int) (a : Option Addr) (c : Nat) (x : Int) (w : World) (R : Rd w a c 1 l.length (l.flatMap intCells)) (hl : l.length ≤ 1000) (r : Bool) (Hr : Hid (Tells r (x ∈ l))) :
    Calls Tryz.prog 43 #[.slice a l.length c, .int .i64 x] w fun e w' => ∃ n : Int, decide (0 < n) = r ∧ e = .returned (.int .i64 n) ∧ w' = w := by
  have HR := Lib.hid R
  clear R
  go_enter Tryz.func43, Tryz.ntmps43
  go_wp2_with fail
  go_loop [5, 6] (fun n i => ∃ k m : Nat, k ≤ l.length ∧ i = .int .i64 k ∧ n = .int .i64 m ∧ m ≤ k ∧ Hid (0 < m ↔ x ∈ l.take k)) (fun _ i => l.length - (intOf i).toNat)
  case atStart => exact ⟨0, 0, Nat.zero_le _, rfl, rfl, Nat.le_refl _, by simp [Hid]⟩
  case round =>
    obtain ⟨k, m, hk, rfl, rfl, hm, HT⟩ := hrel
    by_cases hlt : k < l.length
    · obtain ⟨b, o, rfl, hbb, hat⟩ := HR.out.ptr (by omega)
      have hx := intCells_at hat k hlt
      have h1 : decide ((k : Int) < (l.length : Int)) = true := decide_eq_true (by omega)
      have h2 : (k : Int) < (l.length : Int) := by omega
      have h3 : (0 : Int) ≤ (k : Int) := by omega
      have HAT := Lib.hid hat
      clear hat
      have htk : l.take (k + 1) = l.take k ++ [l[k]] := List.take_succ_eq_append_getElem hlt
      have HTK := Lib.hid htk
      clear htk
      by_cases he : l[k] = x
      · have e1 : (l[k] == x) = true := beq_iff_eq.2 he
        have HE := Lib.hid he
        clear he
        go_wp2_with fail
        go_round
        case rel => exact ⟨k + 1, m + 1, by omega, by go_num, by go_num, by omega, Lib.hid ⟨fun _ => (by rw [HTK.out, List.mem_append, List.mem_singleton]; exact Or.inr HE.out.symm), fun _ => by omega⟩⟩
        case measure => simp [intOf]; omega
      · have e1 : (l[k] == x) = false := by simpa using he
        have HE := Lib.hid he
        clear he
        go_wp2_with fail
        go_round
        case rel => exact ⟨k + 1, m, by omega, by go_num, rfl, by omega, Lib.hid (by rw [HTK.out, HT.out, List.mem_append, List.mem_singleton]; exact ⟨Or.inl, fun h => h.resolve_right (fun e => HE.out e.symm)⟩)⟩
        case measure => simp [intOf]; omega
    · have h1 : decide ((k : Int) < (l.length : Int)) = false := decide_eq_false (by omega)
      have h2 : decide (k < l.length) = false := decide_eq_false hlt
      go_wp2_with fail
      go_ret
      have hkk : k = l.length := by omega
      subst hkk
      refine ⟨_, ?_, rfl, rfl⟩
      have h := HT.out
      rw [List.take_length] at h
      cases r with
      | true => exact decide_eq_true (by have := h.2 (yes_of Hr.out); omega)
      | false => exact decide_eq_false (fun hn => no_of Hr.out (h.1 (by omega)))
def LRel (n : Nat) (W : World) (i : Value) (wr : World) : Prop := ∃ k : Nat, k ≤ n ∧ i = .int .i64 k ∧ Ext W wr
set_option maxRecDepth 100000 in
set_option maxHeartbeats 16000000 in
theorem fnPurge_walk (l : List Int) (a : Option Addr) (c : Nat) (w : World) : MaxLen w → Rd w a c 1 l.length (l.flatMap byteCells) → (∀ y ∈ l, 0 ≤ y ∧ y ≤ 255) →
    Calls Tryz.prog 8 #[.slice a l.length c] w fun e w' => e = .returned (.bool true) ∧ Below w.heap.size w w' := by
  intro hmx R hb
  have hln : l.length ≤ 9223372036854775807 := Nat.le_trans R.nc R.cm
  have HMX := Lib.hid hmx
  have HR := Lib.hid R
  have HB := Lib.hid hb
  clear R hb hmx
  obtain ⟨d, hd⟩ := boolOf (1048576 < l.length)
  have HDB := Lib.hid hd
  clear hd
  go_enter Tryz.func8, Tryz.ntmps8
  go_wp2_with fail
  refine (big_any l.length a c _ hln d HDB).mono ?_
  rintro e w1 ⟨rfl, rfl⟩
  cases d
  rotate_left
  · go_wp2_with fail
    go_ret
    exact ⟨rfl, bxt⟩
  have hl : l.length ≤ 1048576 := by have := no_of HDB.out; omega
  go_wp2_with fail
  refine (drawPurge_any l a c _ (HR.out.ext bxt) HB.out hl).mono ?_
  rintro e w1 ⟨ba, bc, zs, la, lc, lg, gv, v, ua, uc, us, hul, hzl, hsm, hll, hsl, rfl, ho, hou, hb1⟩
  have HS := Lib.hid (ho.sq hzl hsm hll hsl)
  have HU := Lib.hid (Rd.of_Own hou)
  clear hou
  clear ho hsm hsl
  have hzz1 := hb1.size; (try simp at hzz1)
  obtain ⟨hc1, hf1⟩ := bcell hb1
  obtain ⟨rs, rok, hrel⟩ : ∃ rs rok, purgeD ⟨zs.map PBox.box, lg, gv⟩ v us = (rs, rok) := ⟨_, _, rfl⟩
  have hor : rs = ⟨zs.map PBox.box, lg, gv⟩ ∨ StoreP rs := by (by_cases h0 : rok = 0; (subst h0; exact Or.inr ((fun h => (purge_zero h).1) hrel)); exact Or.inl (purge_ref hrel h0))
  have HOR := Lib.hid hor
  have HREL := Lib.hid hrel
  clear hrel hor
  go_wp2_with fail
  refine (implPurge_sq zs ba bc lg la lc gv v us (some ⟨ua, 0, none⟩) uc _ (HS.out.ext bxt) (HU.out.ext bxt) (by omega) (HMX.out.ext bxt) rs rok HREL).mono ?_
  rintro e w2 ⟨g2, q2, z2, a2, d2, rfl, ho2, hz2, hb2⟩
  have HS2 := Lib.hid (ho2.sq hz2 HS.out HOR.out)
  have HZ2 := Lib.hid hz2
  clear ho2 hz2
  have hzz2 := hb2.size; (try simp at hzz2)
  obtain ⟨hc2, hf2⟩ := bcell hb2
  have hs2_0 : w1.heap.size < w2.heap.size := by (have hss := hb2.size; first | omega | (simp at hss <;> omega))
  go_wp2_with fail
  refine (specPurge_sq zs ba bc lg la lc gv v us (some ⟨ua, 0, none⟩) uc _ (HS.out.ext bxt) (HU.out.ext bxt) (by omega) rs rok HREL).mono ?_
  rintro e w3 ⟨g3, q3, z3, a3, d3, rfl, ho3, hz3, hb3⟩
  have HS3 := Lib.hid (ho3.sq hz3 HS.out HOR.out)
  have HZ3 := Lib.hid hz3
  clear ho3 hz3
  have hzz3 := hb3.size; (try simp at hzz3)
  obtain ⟨hc3, hf3⟩ := bcell hb3
  have hs3_0 : w1.heap.size < w3.heap.size := by (have hss := hb3.size; first | omega | (simp at hss <;> omega))
  have hs3_1 : w2.heap.size < w3.heap.size := by (have hss := hb3.size; first | omega | (simp at hss <;> omega))
  have hdd : (rok != rok) = false := by simp
  by_cases h0 : rok = 0
  rotate_left
  · skip
    have e0 : (rok != 0) = true := by simpa using h0
    have HRS := Lib.hid (show rs = ⟨zs.map PBox.box, lg, gv⟩ from purge_ref HREL.out h0)
    clear h0
    go_wp2_with fail
    refine (specSameStore_sq z2 g2 q2 rs.log a2 d2 rs.given zs ba bc lg la lc gv _ (HS2.out.ext bxt) (HS.out.ext bxt) true (Lib.hid (by simp [HZ2.out, HRS.out]))).mono ?_
    rintro e w4 ⟨rfl, hb4⟩
    have hzz4 := hb4.size; (try simp at hzz4)
    obtain ⟨hc4, hf4⟩ := bcell hb4
    have hs4_0 : w1.heap.size < w4.heap.size := by (have hss := hb4.size; first | omega | (simp at hss <;> omega))
    have hs4_1 : w2.heap.size < w4.heap.size := by (have hss := hb4.size; first | omega | (simp at hss <;> omega))
    go_wp2_with fail
    go_ret
    exact ⟨rfl, bxt⟩
  subst h0
  obtain ⟨hsp, k, hk, hk2, hkw, hnx, hpl⟩ := purge_zero HREL.out
  have hkz : k < zs.length := by simpa using hk
  have hkl : k < z2.length := by (have h := congrArg List.length HZ2.out; simp at h; omega)
  have hbx : z2[k].box = rs.boxes[k] := by (have h : (z2.map PBox.box)[k]'(by simpa using hkl) = rs.boxes[k] := (by simp only [HZ2.out]); simpa using h)
  have hms : rs.boxes[k].msgs = z2[k].msgs := by rw [← hbx]; rfl
  have hnx2 : (z2[k].next == zs[k].next) = true := by (have h : rs.boxes[k].next = z2[k].next := (by rw [← hbx]; rfl); rw [← h, hnx]; simp [PBox.box])
  have HPL := Lib.hid (show ∀ j (hj : j < zs[k].msgs.length), placeOf zs[k].msgs[j].uid z2[k].msgs < 0 ↔ (zs[k].msgs[j].uid ∈ us ∧ delM zs[k].msgs[j] = true) from fun j hj => by (have h := hpl j (by simpa [PBox.box] using hj); rw [hms] at h; simpa [PBox.box] using h))
  have HSP := Lib.hid hsp
  have HKW := Lib.hid hkw
  clear hsp hkw hnx hpl hms hbx hk hk2
  go_wp2_with fail
  refine (specBoxWith_any zs ba bc v _ (HS.out.rd.ext bxt) (k : Int) HKW).mono ?_
  rintro e w5 ⟨rfl, hw5⟩
  have hb5 := same_ext hw5
  clear hw5
  have hzz5 := hb5.size; (try simp at hzz5)
  obtain ⟨hc5, hf5⟩ := bcell hb5
  have hs5_0 : w1.heap.size < w5.heap.size := by (have hss := hb5.size; first | omega | (simp at hss <;> omega))
  have hs5_1 : w2.heap.size < w5.heap.size := by (have hss := hb5.size; first | omega | (simp at hss <;> omega))
  have hLS : w1.heap.size < w5.heap.size := hs5_0
  have hLX : w2.heap.size < w5.heap.size := hs5_1
  have hE1 : Hid (Ext w1 w5) := bxt
  have hE2 : Hid (Ext w2 w5) := bxt
  obtain ⟨bs, os, rfl, hbs, hats⟩ := HS.out.rd.ptr (by omega)
  have HATS := Lib.hid (hats.ext hbs hE1.out)
  have hbsw : bs < w5.heap.size := Nat.lt_of_lt_of_le hbs hE1.out.size
  obtain ⟨b2, o2, rfl, hbb2, hat2⟩ := HS2.out.rd.ptr (by omega)
  have HAT2 := Lib.hid (hat2.ext hbb2 hE2.out)
  have hb2w : b2 < w5.heap.size := Nat.lt_of_lt_of_le hbb2 hE2.out.size
  clear hats hat2
  have cS0 : w5.cell? ⟨w1.heap.size, 0, none⟩ = some (.slice (some ⟨bs, os, none⟩) zs.length bc) := kpx
  have cS1 : w5.cell? ⟨w1.heap.size, 1, none⟩ = some (.slice la lg.length lc) := kpx
  have cS2 : w5.cell? ⟨w1.heap.size, 2, none⟩ = some (.int .i64 gv) := kpx
  have cX0 : w5.cell? ⟨w2.heap.size, 0, none⟩ = some (.slice (some ⟨b2, o2, none⟩) z2.length q2) := kpx
  have cX1 : w5.cell? ⟨w2.heap.size, 1, none⟩ = some (.slice a2 rs.log.length d2) := kpx
  have cX2 : w5.cell? ⟨w2.heap.size, 2, none⟩ = some (.int .i64 rs.given) := kpx
  have k1 : (0 : Int) ≤ (k : Int) := by omega
  have k2 : (k : Int) < (zs.length : Int) := by omega
  have k3 : (k : Int) < (z2.length : Int) := by omega
  have hmL : zs[k].msgs.length ≤ 6 := (HS.out.sm _ (List.getElem_mem hkz)).2.1
  go_wp2_with fail
  go_loopw [11] (LRel zs[k].msgs.length w5) (fun i _ => zs[k].msgs.length - (intOf i).toNat)
  case atStart => exact ⟨0, Nat.zero_le _, rfl, Below.refl _ _⟩
  case round =>
    obtain ⟨i, hi, rfl, hr⟩ := hrel
    have hzr := hr.size
    have hz15 := hE1.out.size
    have hz25 := hE2.out.size
    by_cases hlt : i < zs[k].msgs.length
    · skip
      have i0 : decide ((i : Int) < (zs[k].msgs.length : Int)) = true := decide_eq_true (by omega)
      have i1 : (0 : Int) ≤ (i : Int) := by omega
      have i2 : (i : Int) < (zs[k].msgs.length : Int) := by omega
      obtain ⟨bm, om, hma, hbm, hatm⟩ := (HS.out.rdm _ (List.getElem_mem hkz)).ptr (by omega)
      have hbmw : bm < w5.heap.size := Nat.lt_of_lt_of_le hbm hE1.out.size
      have HATM := Lib.hid (hatm.ext hbm hE1.out)
      clear hatm
      have ycS0 := ((hr).cell (p := ⟨w1.heap.size, 0, none⟩) hLS).trans cS0
      have yrS3 := (PBox.at (HATS.out.ext hbsw (hr)) k hkz).2.2.2
      have ymS0 := (DMsg.at (HATM.out.ext hbmw (hr)) i hlt).1
      have ymS1 := (DMsg.at (HATM.out.ext hbmw (hr)) i hlt).2.1
      have ymS2 := (DMsg.at (HATM.out.ext hbmw (hr)) i hlt).2.2
      rw [hma] at yrS3
      have HMA := Lib.hid hma
      clear hma
      have hybs : bs < wr.heap.size := Nat.lt_of_lt_of_le hbsw hr.size
      have hybm : bm < wr.heap.size := Nat.lt_of_lt_of_le hbmw hr.size
      obtain ⟨tu, htu⟩ := boolOf (zs[k].msgs[i].uid ∈ us)
      have HTU := Lib.hid htu
      clear htu
      go_wp2_with fail
      refine (times_any us _ uc zs[k].msgs[i].uid _ (HU.out.ext bxt) (by omega) tu HTU).mono ?_
      rintro e w6 ⟨n, hn, rfl, hw6⟩
      have hb6 := same_ext hw6
      clear hw6
      have cm0 : w6.cell? ⟨wr.heap.size, 0, none⟩ = some (.int .i64 zs[k].msgs[i].uid) := (hb6.cell (p := ⟨wr.heap.size, 0, none⟩) smx).trans kpx
      have cm1 : w6.cell? ⟨wr.heap.size, 1, none⟩ = some (.int .i64 zs[k].msgs[i].flags) := (hb6.cell (p := ⟨wr.heap.size, 1, none⟩) smx).trans kpx
      have hzz6 := hb6.size
      have hLM : wr.heap.size < w6.heap.size := (by first | omega | (simp at hzz6; omega))
      have hr6 : Hid (Ext w5 w6) := bxt
      clear ycS0 yrS3 ymS0 ymS1 ymS2
      obtain ⟨pz, hpz⟩ : ∃ z : Int, placeOf zs[k].msgs[i].uid z2[k].msgs = z := ⟨_, rfl⟩
      have HPZ := Lib.hid hpz
      have hpi := HPL.out i hlt
      rw [hpz] at hpi
      clear hpz
      obtain ⟨dl, hdl⟩ : ∃ d, delM zs[k].msgs[i] = d := ⟨_, rfl⟩
      rw [hdl] at hpi
      have hd2 : (bits .and .i64 zs[k].msgs[i].flags 8 != 0) = dl := hdl
      have hd3 : (bits .and .i64 zs[k].msgs[i].flags 8 == 0) = !dl := by rw [← hdl]; simp [delM]
      have HPI := Lib.hid hpi
      clear hpi hdl
      cases tu
      · skip
        have hpd : decide (pz < 0) = false := by (have h := HPI.out; have h2 := HTU.out; simp [Tells] at h h2 ⊢; first | omega | (simp [h2] at h; omega) | simp_all)
        have qcX0 := fun y : ExtW w6 => ((ExtW.of (hr6.out) y).cell (p := ⟨w2.heap.size, 0, none⟩) hLX).trans cX0
        have qrX0 := fun y : ExtW w6 => (PBox.at (HAT2.out.ext hb2w (ExtW.of (hr6.out) y)) k hkl).1
        have qrX1 := fun y : ExtW w6 => (PBox.at (HAT2.out.ext hb2w (ExtW.of (hr6.out) y)) k hkl).2.1
        have qrX2 := fun y : ExtW w6 => (PBox.at (HAT2.out.ext hb2w (ExtW.of (hr6.out) y)) k hkl).2.2.1
        have qrX3 := fun y : ExtW w6 => (PBox.at (HAT2.out.ext hb2w (ExtW.of (hr6.out) y)) k hkl).2.2.2
        have qM0 := fun y : ExtW w6 => (y.h.cell (p := ⟨wr.heap.size, 0, none⟩) hLM).trans cm0
        go_wp2_with fail
        refine wp_region_ext (by kernel_rfl) (by kernel_rfl) ?_
        repeat (go_big_quiet_step ((go_at_call 44; refine (implPlaceOf_any z2[k].name z2[k].validity z2[k].next z2[k].msgs _ _ zs[k].msgs[i].uid _ ((HS2.out.rdm _ (List.getElem_mem hkl)).ext (Below.ext hE2.out (ExtW.of hr6.out _))) pz HPZ).mono ?_; rintro e w7 ⟨rfl, hb7⟩; exact ⟨rfl, ExtW.on _ hb7⟩)))
        refine wpQuiet_nil ?_
        rintro _ ⟨⟨wq, hwq⟩, rfl⟩
        clear qcX0 qrX0 qrX1 qrX2 qrX3 qM0
        go_wp2_with fail
        go_roundw
        case rel => exact ⟨i + 1, by omega, by go_num, (Below.ext hr6.out hwq)⟩
        case measure => simp [intOf]; omega
      · skip
        cases dl
        · skip
          have hpd : decide (pz < 0) = false := by (have h := HPI.out; have h2 := HTU.out; simp [Tells] at h h2 ⊢; first | omega | (simp [h2] at h; omega) | simp_all)
          have qcX0 := fun y : ExtW w6 => ((ExtW.of (hr6.out) y).cell (p := ⟨w2.heap.size, 0, none⟩) hLX).trans cX0
          have qrX0 := fun y : ExtW w6 => (PBox.at (HAT2.out.ext hb2w (ExtW.of (hr6.out) y)) k hkl).1
          have qrX1 := fun y : ExtW w6 => (PBox.at (HAT2.out.ext hb2w (ExtW.of (hr6.out) y)) k hkl).2.1
          have qrX2 := fun y : ExtW w6 => (PBox.at (HAT2.out.ext hb2w (ExtW.of (hr6.out) y)) k hkl).2.2.1
          have qrX3 := fun y : ExtW w6 => (PBox.at (HAT2.out.ext hb2w (ExtW.of (hr6.out) y)) k hkl).2.2.2
          have qM0 := fun y : ExtW w6 => (y.h.cell (p := ⟨wr.heap.size, 0, none⟩) hLM).trans cm0
          go_wp2_with fail
          refine wp_region_ext (by kernel_rfl) (by kernel_rfl) ?_
          repeat (go_big_quiet_step ((go_at_call 44; refine (implPlaceOf_any z2[k].name z2[k].validity z2[k].next z2[k].msgs _ _ zs[k].msgs[i].uid _ ((HS2.out.rdm _ (List.getElem_mem hkl)).ext (Below.ext hE2.out (ExtW.of hr6.out _))) pz HPZ).mono ?_; rintro e w7 ⟨rfl, hb7⟩; exact ⟨rfl, ExtW.on _ hb7⟩)))
          refine wpQuiet_nil ?_
          rintro _ ⟨⟨wq, hwq⟩, rfl⟩
          clear qcX0 qrX0 qrX1 qrX2 qrX3 qM0
          go_wp2_with fail
          go_roundw
          case rel => exact ⟨i + 1, by omega, by go_num, (Below.ext hr6.out hwq)⟩
          case measure => simp [intOf]; omega
        · skip
          have hpd : decide (pz < 0) = true := by (have h := HPI.out; have h2 := HTU.out; simp [Tells] at h h2 ⊢; first | omega | (simp [h2] at h; omega) | simp_all)
          have qcX0 := fun y : ExtW w6 => ((ExtW.of (hr6.out) y).cell (p := ⟨w2.heap.size, 0, none⟩) hLX).trans cX0
          have qrX0 := fun y : ExtW w6 => (PBox.at (HAT2.out.ext hb2w (ExtW.of (hr6.out) y)) k hkl).1
          have qrX1 := fun y : ExtW w6 => (PBox.at (HAT2.out.ext hb2w (ExtW.of (hr6.out) y)) k hkl).2.1
          have qrX2 := fun y : ExtW w6 => (PBox.at (HAT2.out.ext hb2w (ExtW.of (hr6.out) y)) k hkl).2.2.1
          have qrX3 := fun y : ExtW w6 => (PBox.at (HAT2.out.ext hb2w (ExtW.of (hr6.out) y)) k hkl).2.2.2
          have qM0 := fun y : ExtW w6 => (y.h.cell (p := ⟨wr.heap.size, 0, none⟩) hLM).trans cm0
          go_wp2_with fail
          refine wp_region_ext (by kernel_rfl) (by kernel_rfl) ?_
          repeat (go_big_quiet_step ((go_at_call 44; refine (implPlaceOf_any z2[k].name z2[k].validity z2[k].next z2[k].msgs _ _ zs[k].msgs[i].uid _ ((HS2.out.rdm _ (List.getElem_mem hkl)).ext (Below.ext hE2.out (ExtW.of hr6.out _))) pz HPZ).mono ?_; rintro e w7 ⟨rfl, hb7⟩; exact ⟨rfl, ExtW.on _ hb7⟩)))
          refine wpQuiet_nil ?_
          rintro _ ⟨⟨wq, hwq⟩, rfl⟩
          clear qcX0 qrX0 qrX1 qrX2 qrX3 qM0
          go_wp2_with fail
          go_roundw
          case rel => exact ⟨i + 1, by omega, by go_num, (Below.ext hr6.out hwq)⟩
          case measure => simp [intOf]; omega
    · skip
      have i0 : decide ((i : Int) < (zs[k].msgs.length : Int)) = false := decide_eq_false (by omega)
      have i00 : decide (i < zs[k].msgs.length) = false := decide_eq_false hlt
      have ycS0 := ((hr).cell (p := ⟨w1.heap.size, 0, none⟩) hLS).trans cS0
      have yrS3 := (PBox.at (HATS.out.ext hbsw (hr)) k hkz).2.2.2
      have hybs : bs < wr.heap.size := Nat.lt_of_lt_of_le hbsw hr.size
      have HR5 := Lib.hid hr
      go_wp2_with fail
      clear ycS0 yrS3
      have qcX0 := fun y : ExtW wr => ((ExtW.of (HR5.out) y).cell (p := ⟨w2.heap.size, 0, none⟩) hLX).trans cX0
      have qcX1 := fun y : ExtW wr => ((ExtW.of (HR5.out) y).cell (p := ⟨w2.heap.size, 1, none⟩) hLX).trans cX1
      have qcX2 := fun y : ExtW wr => ((ExtW.of (HR5.out) y).cell (p := ⟨w2.heap.size, 2, none⟩) hLX).trans cX2
      have qrX2 := fun y : ExtW wr => (PBox.at (HAT2.out.ext hb2w (ExtW.of (HR5.out) y)) k hkl).2.2.1
      have qcS0 := fun y : ExtW wr => ((ExtW.of (HR5.out) y).cell (p := ⟨w1.heap.size, 0, none⟩) hLS).trans cS0
      have qrS2 := fun y : ExtW wr => (PBox.at (HATS.out.ext hbsw (ExtW.of (HR5.out) y)) k hkz).2.2.1
      refine wp_region_ext (by kernel_rfl) (by kernel_rfl) ?_
      repeat (go_big_quiet_step ((go_at_call 19; refine (specStoreOk_sq z2 _ q2 rs.log a2 d2 rs.given _ (HS2.out.ext (Below.ext hE2.out (ExtW.of HR5.out _))) true (Lib.hid (⟨fun _ => (by rw [HZ2.out]; exact HSP.out), fun _ => rfl⟩))).mono ?_; rintro e w7 ⟨rfl, hb7⟩; exact ⟨rfl, ExtW.on _ hb7⟩)))
      refine wpQuiet_nil ?_
      rintro _ ⟨⟨wq, hwq⟩, rfl⟩
      clear qcX0 qcX1 qcX2 qrX2 qcS0 qrS2
      go_wp2_with fail
      go_ret
      exact ⟨rfl, bxt⟩
end Go.Proofs.YtjcnhkmhcfmoeaaGreat
