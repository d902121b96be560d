/-
  The law FnCopy: its walk.
-/
import Derived.Test.YtjcnhkmhcfmoeaaGreatDraw15
import Derived.Test.YtjcnhkmhcfmoeaaGreatWCopS
import Derived.Test.YtjcnhkmhcfmoeaaGreatWCopI
import Derived.Test.YtjcnhkmhcfmoeaaGreatWBoxIdx
import Derived.Test.YtjcnhkmhcfmoeaaGreatXSq
import Derived.Test.YtjcnhkmhcfmoeaaGreatXDr
import Derived.Deep.RegionHeld3
import Derived.BigQuiet
namespace Go.Proofs.YtjcnhkmhcfmoeaaGreat
open Go.RowKit
set_option linter.unusedVariables false
set_option linter.unusedSimpArgs false

theorem implCopyMsgs_sq (zs : List PBox) (ba : Option Addr) (bc : Nat) (lg : List DCommit) (la : Option Addr) (lc : Nat) (gv : Int) (v : Int) (us : List Int) (ua : Option Addr) (uc : Nat) (n : ByteArray) (w : World) (h : Sq w ba bc zs la lc lg) (RU : Rd w ua uc 1 us.length (us.flatMap intCells)) (hul : us.length ≤ 100) (hn : n.size ≤ 100) (hm : MaxLen w) (rs : DStore) (rok : Int) (H : Hid (copyD ⟨zs.map PBox.box, lg, gv⟩ v us n = (rs, rok))) : Calls Tryz.prog 46 #[.agg #[.slice ba zs.length bc, .slice la lg.length lc, .int .i64 gv], .int .i64 v, .slice ua us.length uc, .string n] w (fun e w' => ∃ g q z2 g2 q2, e = .returned (.tuple #[.agg #[.slice g z2.length q, .slice g2 rs.log.length q2, .int .i64 rs.given], .int .i64 rok]) ∧ OwnSt w' w.heap.size 49 66 41 g q z2 g2 q2 rs.log ∧ z2.map PBox.box = rs.boxes ∧ Ext w w') :=
  implCopyMsgs_law zs ba bc lg la lc gv v us ua uc n w h.rd h.rdm h.rl (by have := h.len; omega) (fun y hy => by have := (h.sm y hy).2.1; omega) (by have := h.ll; omega) (fun y hy => by have := (h.sm y hy).1; omega) (fun y hy t ht => by have := (h.sm y hy).2.2 t ht; omega) (fun y hy => by have := h.sl y hy; exact ⟨by omega, by omega⟩) RU (by omega) (by omega) hm rs rok H
theorem specCopyMsgs_sq (zs : List PBox) (ba : Option Addr) (bc : Nat) (lg : List DCommit) (la : Option Addr) (lc : Nat) (gv : Int) (v : Int) (us : List Int) (ua : Option Addr) (uc : Nat) (n : ByteArray) (w : World) (h : Sq w ba bc zs la lc lg) (RU : Rd w ua uc 1 us.length (us.flatMap intCells)) (hul : us.length ≤ 100) (hn : n.size ≤ 100) (rs : DStore) (rok : Int) (H : Hid (copyD ⟨zs.map PBox.box, lg, gv⟩ v us n = (rs, rok))) : Calls Tryz.prog 47 #[.agg #[.slice ba zs.length bc, .slice la lg.length lc, .int .i64 gv], .int .i64 v, .slice ua us.length uc, .string n] w (fun e w' => ∃ g q z2 g2 q2, e = .returned (.tuple #[.agg #[.slice g z2.length q, .slice g2 rs.log.length q2, .int .i64 rs.given], .int .i64 rok]) ∧ OwnSt w' w.heap.size 49 66 41 g q z2 g2 q2 rs.log ∧ z2.map PBox.box = rs.boxes ∧ Ext w w') :=
  specCopyMsgs_law zs ba bc lg la lc gv v us ua uc n w h.rd h.rdm h.rl (by have := h.len; omega) (fun y hy => by have := (h.sm y hy).2.1; omega) (by have := h.ll; omega) (fun y hy => by have := (h.sm y hy).1; omega) (fun y hy t ht => by have := (h.sm y hy).2.2 t ht; omega) (fun y hy => by have := h.sl y hy; exact ⟨by omega, by omega⟩) RU (by omega) (by omega) rs rok H
def CRel (us : List Int) (fm : List DMsg) (L0 : Nat) (W : World) (a i : Value) (wr : World) : Prop := ∃ (k m : Nat), k ≤ us.length ∧ i = .int .i64 k ∧ a = .int .i64 m ∧ Hid (m = L0 + (hitsOf fm (us.take k)).length) ∧ Ext W wr
theorem hits_step {l : List DMsg} {us : List Int} {k : Nat} (hk : k < us.length) : hitsOf l (us.take (k + 1)) = hitsOf l (us.take k) ++ hitsOf l [us[k]] ∧ hitsOf l us = hitsOf l (us.take k) ++ (hitsOf l [us[k]] ++ hitsOf l (us.drop (k + 1))) := by
  refine ⟨by rw [List.take_succ_eq_append_getElem hk, hits_append], ?_⟩
  rw [← hits_append, ← hits_append, List.singleton_append, ← List.drop_eq_getElem_cons hk, List.take_append_drop]
set_option maxRecDepth 100000 in
set_option maxHeartbeats 16000000 in
theorem fnCopy_walk (l : List Int) (a : Option Addr) (c : Nat) (w : World) : MaxLen w → Rd w a c 1 l.length (l.flatMap byteCells) → (∀ y ∈ l, 0 ≤ y ∧ y ≤ 255) →
    Calls Tryz.prog 9 #[.slice a l.length c] w fun e w' => e = .returned (.bool true) ∧ Below w.heap.size w w' := by
  intro hmx R hb
  have hln : l.length ≤ 9223372036854775807 := Nat.le_trans R.nc R.cm
  have HMX := Lib.hid hmx
  have HR := Lib.hid R
  have HB := Lib.hid hb
  clear R hb hmx
  obtain ⟨d, hd⟩ := boolOf (1048576 < l.length)
  have HDB := Lib.hid hd
  clear hd
  go_enter Tryz.func9, Tryz.ntmps9
  go_wp2_with fail
  refine (big_any l.length a c _ hln d HDB).mono ?_
  rintro e w1 ⟨rfl, rfl⟩
  cases d
  rotate_left
  · go_wp2_with fail
    go_ret
    exact ⟨rfl, bxt⟩
  have hl : l.length ≤ 1048576 := by have := no_of HDB.out; omega
  go_wp2_with fail
  refine (drawCopyMsgs_any l a c _ (HR.out.ext bxt) HB.out hl).mono ?_
  rintro e w1 ⟨ba, bc, zs, la, lc, lg, gv, v, ua, uc, us, n, hul, hn, hzl, hsm, hll, hsl, rfl, ho, hou, hb1⟩
  have HS := Lib.hid (ho.sq hzl hsm hll hsl)
  have HU := Lib.hid (Rd.of_Own hou)
  clear hou
  clear ho hsm hsl
  have hzz1 := hb1.size; (try simp at hzz1)
  obtain ⟨hc1, hf1⟩ := bcell hb1
  obtain ⟨rs, rok, hrel⟩ : ∃ rs rok, copyD ⟨zs.map PBox.box, lg, gv⟩ v us n = (rs, rok) := ⟨_, _, rfl⟩
  have hor : rs = ⟨zs.map PBox.box, lg, gv⟩ ∨ StoreP rs := by (by_cases h0 : rok = 0; (subst h0; exact Or.inr ((fun h => (copy_zero h).1) hrel)); exact Or.inl (copy_ref hrel h0))
  have HOR := Lib.hid hor
  have HREL := Lib.hid hrel
  clear hrel hor
  go_wp2_with fail
  refine (implCopyMsgs_sq zs ba bc lg la lc gv v us (some ⟨ua, 0, none⟩) uc n _ (HS.out.ext bxt) (HU.out.ext bxt) (by omega) (by omega) (HMX.out.ext bxt) rs rok HREL).mono ?_
  rintro e w2 ⟨g2, q2, z2, a2, d2, rfl, ho2, hz2, hb2⟩
  have HS2 := Lib.hid (ho2.sq hz2 HS.out HOR.out)
  have HZ2 := Lib.hid hz2
  clear ho2 hz2
  have hzz2 := hb2.size; (try simp at hzz2)
  obtain ⟨hc2, hf2⟩ := bcell hb2
  have hs2_0 : w1.heap.size < w2.heap.size := by (have hss := hb2.size; first | omega | (simp at hss <;> omega))
  go_wp2_with fail
  refine (specCopyMsgs_sq zs ba bc lg la lc gv v us (some ⟨ua, 0, none⟩) uc n _ (HS.out.ext bxt) (HU.out.ext bxt) (by omega) (by omega) rs rok HREL).mono ?_
  rintro e w3 ⟨g3, q3, z3, a3, d3, rfl, ho3, hz3, hb3⟩
  have HS3 := Lib.hid (ho3.sq hz3 HS.out HOR.out)
  have HZ3 := Lib.hid hz3
  clear ho3 hz3
  have hzz3 := hb3.size; (try simp at hzz3)
  obtain ⟨hc3, hf3⟩ := bcell hb3
  have hs3_0 : w1.heap.size < w3.heap.size := by (have hss := hb3.size; first | omega | (simp at hss <;> omega))
  have hs3_1 : w2.heap.size < w3.heap.size := by (have hss := hb3.size; first | omega | (simp at hss <;> omega))
  have hdd : (rok != rok) = false := by simp
  by_cases h0 : rok = 0
  rotate_left
  · skip
    have e0 : (rok != 0) = true := by simpa using h0
    have HRS := Lib.hid (show rs = ⟨zs.map PBox.box, lg, gv⟩ from copy_ref HREL.out h0)
    clear h0
    go_wp2_with fail
    refine (specSameStore_sq z2 g2 q2 rs.log a2 d2 rs.given zs ba bc lg la lc gv _ (HS2.out.ext bxt) (HS.out.ext bxt) true (Lib.hid (by simp [HZ2.out, HRS.out]))).mono ?_
    rintro e w4 ⟨rfl, hb4⟩
    have hzz4 := hb4.size; (try simp at hzz4)
    obtain ⟨hc4, hf4⟩ := bcell hb4
    have hs4_0 : w1.heap.size < w4.heap.size := by (have hss := hb4.size; first | omega | (simp at hss <;> omega))
    have hs4_1 : w2.heap.size < w4.heap.size := by (have hss := hb4.size; first | omega | (simp at hss <;> omega))
    go_wp2_with fail
    go_ret
    exact ⟨rfl, bxt⟩
  subst h0
  obtain ⟨hsp, ff, hf, k, hk, hk2, hfw, hkn, hms⟩ := copy_zero HREL.out
  have hfz : ff < zs.length := by simpa using hf
  have hkz : k < zs.length := by simpa using hk
  have hkl : k < z2.length := by (have h := congrArg List.length HZ2.out; simp at h; omega)
  have hbx : z2[k].box = rs.boxes[k] := by (have h : (z2.map PBox.box)[k]'(by simpa using hkl) = rs.boxes[k] := (by simp only [HZ2.out]); simpa using h)
  have hm2 : z2[k].msgs = zs[k].msgs ++ putsL zs[k].next (hitsOf zs[ff].msgs us) := by (have h : rs.boxes[k].msgs = z2[k].msgs := (by rw [← hbx]; rfl); rw [← h, hms]; simp [PBox.box])
  have hml : z2[k].msgs.length = zs[k].msgs.length + (hitsOf zs[ff].msgs us).length := by rw [hm2]; simp [puts_len]
  have HM2 := Lib.hid hm2
  have HML := Lib.hid hml
  have HSP := Lib.hid hsp
  have HFW := Lib.hid hfw
  have HKN := Lib.hid hkn
  clear hsp hfw hkn hms hm2 hml hbx hk hk2 hf
  have hE1 : Hid (Ext w1 w3) := bxt
  have hE2 : Hid (Ext w2 w3) := bxt
  obtain ⟨bs, os, rfl, hbs, hats⟩ := HS.out.rd.ptr (by omega)
  have HATS := Lib.hid (hats.ext hbs hE1.out)
  have hbsw : bs < w3.heap.size := Nat.lt_of_lt_of_le hbs hE1.out.size
  obtain ⟨b2, o2, rfl, hbb2, hat2⟩ := HS2.out.rd.ptr (by omega)
  have HAT2 := Lib.hid (hat2.ext hbb2 hE2.out)
  have hb2w : b2 < w3.heap.size := Nat.lt_of_lt_of_le hbb2 hE2.out.size
  clear hats hat2
  have k1 : (0 : Int) ≤ (k : Int) := by omega
  have k2 : (k : Int) < (zs.length : Int) := by omega
  have k3 : (k : Int) < (z2.length : Int) := by omega
  have k4 : (0 : Int) ≤ (ff : Int) := by omega
  have k5 : (ff : Int) < (zs.length : Int) := by omega
  have hmL : zs[k].msgs.length ≤ 6 := (HS.out.sm _ (List.getElem_mem hkz)).2.1
  have hmX : z2[k].msgs.length ≤ 6 := (HS2.out.sm _ (List.getElem_mem hkl)).2.1
  have hmF : zs[ff].msgs.length ≤ 6 := (HS.out.sm _ (List.getElem_mem hfz)).2.1
  obtain ⟨f0, f1, f2, f3⟩ := PBox.at HATS.out ff hfz
  go_upto_region 10 with fail
  refine wp_world (fun w5 hw5 => ?_)
  have hb5 : Ext w3 w5 := by (rw [hw5]; exact bxt)
  have cS0 : w5.cell? ⟨w1.heap.size, 0, none⟩ = some (.slice (some ⟨bs, os, none⟩) zs.length bc) := by (rw [hw5]; exact kpx)
  have cS1 : w5.cell? ⟨w1.heap.size, 1, none⟩ = some (.slice la lg.length lc) := by (rw [hw5]; exact kpx)
  have cS2 : w5.cell? ⟨w1.heap.size, 2, none⟩ = some (.int .i64 gv) := by (rw [hw5]; exact kpx)
  have cX0 : w5.cell? ⟨w2.heap.size, 0, none⟩ = some (.slice (some ⟨b2, o2, none⟩) z2.length q2) := by (rw [hw5]; exact kpx)
  have cX1 : w5.cell? ⟨w2.heap.size, 1, none⟩ = some (.slice a2 rs.log.length d2) := by (rw [hw5]; exact kpx)
  have cX2 : w5.cell? ⟨w2.heap.size, 2, none⟩ = some (.int .i64 rs.given) := by (rw [hw5]; exact kpx)
  have hLS : w1.heap.size < w5.heap.size := Nat.lt_of_lt_of_le hs3_0 hb5.size
  have hLX : w2.heap.size < w5.heap.size := Nat.lt_of_lt_of_le hs3_1 hb5.size
  clear hw5 f0 f1 f2 f3
  have HATS5 := Lib.hid (HATS.out.ext hbsw hb5)
  have HAT25 := Lib.hid (HAT2.out.ext hb2w hb5)
  have hbs5 : bs < w5.heap.size := Nat.lt_of_lt_of_le hbsw hb5.size
  have hb25 : b2 < w5.heap.size := Nat.lt_of_lt_of_le hb2w hb5.size
  obtain ⟨f0, f1, f2, f3⟩ := PBox.at HATS5.out ff hfz
  go_cut [11] (fun u wx => CutBox zs[ff] w5 u wx)
  case first =>
    first
    | go_region_law (go_simp; go_at_call 42; refine (specBoxWith_any zs _ bc v _ (HS.out.rd.ext (Below.ext hE1.out (Below.ext hb5 bxt))) (ff : Int) HFW).mono ?_; rintro e w4 ⟨rfl, hw4⟩; subst hw4)
    | fail
    all_goals go_wp2_with fail
    all_goals go_meet
    all_goals refine ⟨_, rfl, smx, at_cons (by simp [go_sem, *]) (at_cons (by simp [go_sem, *]) (at_cons (by simp [go_sem, *]) (at_cons (by simp [go_sem, *]) at_nil))), ?_⟩
    all_goals exact bxt
  case rest =>
    obtain ⟨w6, hw6⟩ : ∃ x, x = wc := ⟨_, rfl⟩
    subst hw6
    obtain ⟨β, rfl, hβ, hatb, hx⟩ := hcut
    clear f0 f1 f2 f3
    have HATB := Lib.hid hatb
    clear hatb
    have zcS0 := (hx.cell (p := ⟨w1.heap.size, 0, none⟩) hLS).trans cS0
    have zrS3 := (PBox.at (HATS5.out.ext hbs5 (hx)) k hkz).2.2.2
    have hb3a : Ext w3 w6 := Below.ext hb5 hx
    go_wp2_with fail
    refine (specBoxNamed_any zs _ bc n _ (HS.out.rd.ext (Below.ext hE1.out hb3a)) (k : Int) HKN).mono ?_
    rintro e w7 ⟨rfl, hw7⟩
    have hw76 := hw7.symm
    subst hw76
    go_wp2_with fail
    go_loopw [13, 14] (CRel us zs[ff].msgs zs[k].msgs.length w6) (fun _ i _ => us.length - (intOf i).toNat)
    case atStart => exact ⟨0, zs[k].msgs.length, Nat.zero_le _, rfl, rfl, Lib.hid (by simp [hitsOf]), Below.refl _ _⟩
    case round =>
      obtain ⟨i, m, hi, rfl, rfl, HM, hr⟩ := hrel
      clear zcS0 zrS3
      have hzr := hr.size
      by_cases hlt : i < us.length
      · skip
        have i0 : decide ((i : Int) < (us.length : Int)) = true := decide_eq_true (by omega)
        have i1 : (0 : Int) ≤ (i : Int) := by omega
        have i2 : (i : Int) < (us.length : Int) := by omega
        have hEU : Hid (Ext w1 wr) := Below.ext hE1.out (Below.ext hb3a hr)
        obtain ⟨bu, ou, hbo, hbu, hatu⟩ := HU.out.ptr (by omega)
        cases hbo
        have HATU := Lib.hid (hatu.ext hbu hEU.out)
        have hbuw : ua < wr.heap.size := Nat.lt_of_lt_of_le hbu hEU.out.size
        clear hatu
        obtain ⟨pz, hpz⟩ : ∃ z : Int, placeOf us[i] zs[ff].msgs = z := ⟨_, rfl⟩
        have HPZ := Lib.hid hpz
        clear hpz
        have HR := Lib.hid hr
        go_wp2_with fail
        have qU := fun y : ExtW wr => (show y.x.cell? ⟨ua, i, none⟩ = some (.int .i64 us[i]) from by have h := intCells_at (HATU.out.ext hbuw y.h) i hlt; simpa using h)
        have qF0 := fun y : ExtW wr => ((Below.ext HR.out y.h).cell (p := ⟨β, 0, none⟩) hβ).trans (show w6.cell? ⟨β, 0, none⟩ = some (.string zs[ff].name) from by simpa using HATB.out 0 _ rfl)
        have qF1 := fun y : ExtW wr => ((Below.ext HR.out y.h).cell (p := ⟨β, 1, none⟩) hβ).trans (show w6.cell? ⟨β, 1, none⟩ = some (.int .i64 zs[ff].validity) from by simpa using HATB.out 1 _ rfl)
        have qF2 := fun y : ExtW wr => ((Below.ext HR.out y.h).cell (p := ⟨β, 2, none⟩) hβ).trans (show w6.cell? ⟨β, 2, none⟩ = some (.int .i64 zs[ff].next) from by simpa using HATB.out 2 _ rfl)
        have qF3 := fun y : ExtW wr => ((Below.ext HR.out y.h).cell (p := ⟨β, 3, none⟩) hβ).trans (show w6.cell? ⟨β, 3, none⟩ = some (.slice zs[ff].ma zs[ff].msgs.length zs[ff].mc) from by simpa using HATB.out 3 _ rfl)
        refine wp_region_ext (by kernel_rfl) (by kernel_rfl) ?_
        repeat (go_big_quiet_step ((go_at_call 48; refine (specPlaceOf_any zs[ff].name zs[ff].validity zs[ff].next zs[ff].msgs _ _ us[i] _ ((HS.out.rdm _ (List.getElem_mem hfz)).ext (Below.ext hEU.out (ExtW.h _))) pz HPZ).mono ?_; rintro e w8 ⟨rfl, hb8⟩; exact ⟨rfl, ExtW.on _ hb8⟩)))
        refine wpQuiet_nil ?_
        rintro wq ⟨⟨wqx, hwq⟩, hxwq⟩
        have hywq : wq = wqx := hxwq
        subst hywq
        clear hxwq
        clear qU qF0 qF1 qF2 qF3
        have hrq : Hid (Ext w6 wq) := Below.ext HR.out hwq
        obtain ⟨hs1, hs2⟩ := hits_step (l := zs[ff].msgs) hlt
        by_cases hneg : pz < 0
        · skip
          have p0 : decide (pz < 0) = true := decide_eq_true hneg
          have hh : hitsOf zs[ff].msgs [us[i]] = [] := hits_miss (by rw [HPZ.out]; exact hneg)
          have HN : Hid (m = zs[k].msgs.length + (hitsOf zs[ff].msgs (us.take (i + 1))).length) := by (rw [hs1, hh, List.append_nil]; exact HM)
          clear hs1 hs2 hh
          go_wp2_with fail
          go_roundw
          case rel => exact ⟨i + 1, m, by omega, by go_num, rfl, HN, hrq.out⟩
          case measure => simp [intOf]; omega
        · skip
          have p0 : decide (pz < 0) = false := decide_eq_false hneg
          have hpr := (firstI_range (fun mm : DMsg => decide (mm.uid = us[i])) zs[ff].msgs).2
          obtain ⟨j, hj⟩ : ∃ j : Nat, pz = j := ⟨pz.toNat, by omega⟩
          subst hj
          have hjl : j < zs[ff].msgs.length := by (have h : placeOf us[i] zs[ff].msgs < zs[ff].msgs.length := hpr; rw [HPZ.out] at h; omega)
          have hh : hitsOf zs[ff].msgs [us[i]] = [zs[ff].msgs[j]] := hits_hit hjl HPZ.out
          rw [hh] at hs1 hs2
          have hm := HM.out
          have hmlt : m < z2[k].msgs.length := by (rw [HML.out, hs2, hm]; simp)
          have hnxt : m + 1 = zs[k].msgs.length + (hitsOf zs[ff].msgs (us.take (i + 1))).length := by (rw [hs1, hm]; simp; omega)
          have HN := Lib.hid hnxt
          have hqi : (hitsOf zs[ff].msgs (us.take i)).length < (hitsOf zs[ff].msgs us).length := by (rw [hs2]; simp)
          have hqe : (hitsOf zs[ff].msgs us)[(hitsOf zs[ff].msgs (us.take i)).length] = zs[ff].msgs[j] := by (simp only [hs2]; rw [List.getElem_append_right (Nat.le_refl _)]; simp)
          have hgz : z2[k].msgs[m].flags = zs[ff].msgs[j].flags ∧ z2[k].msgs[m].text = zs[ff].msgs[j].text := by (have hp := puts_get zs[k].next (hitsOf zs[ff].msgs us) (hitsOf zs[ff].msgs (us.take i)).length hqi (by rw [puts_len]; exact hqi); rw [hqe] at hp; have he : z2[k].msgs[m] = (putsL zs[k].next (hitsOf zs[ff].msgs us))[(hitsOf zs[ff].msgs (us.take i)).length]'(by rw [puts_len]; exact hqi) := (by simp only [HM2.out]; rw [List.getElem_append_right (by omega)]; congr 1; omega); rw [he]; exact hp)
          obtain ⟨hg1, hg2⟩ := hgz
          have HG1 := Lib.hid hg1
          have HG2 := Lib.hid hg2
          clear hg1 hg2 hqe hqi hnxt hs1 hs2 hh hm hpr
          have m0 : decide ((z2[k].msgs.length : Int) ≤ (m : Int)) = false := decide_eq_false (by omega)
          have m00 : decide (z2[k].msgs.length ≤ m) = false := decide_eq_false (by omega)
          have m1 : (0 : Int) ≤ (m : Int) := by omega
          have m2 : (m : Int) < (z2[k].msgs.length : Int) := by omega
          have j1 : (0 : Int) ≤ (j : Int) := by omega
          have j2 : (j : Int) < (zs[ff].msgs.length : Int) := by omega
          have mw : IntKind.i64.wrap ((m : Int) + 1) = (m : Int) + 1 := IntWalk.i64_in _ (by omega)
          have hEQ1 : Hid (Ext w1 wq) := Below.ext hE1.out (Below.ext hb3a hrq.out)
          have hEQ2 : Hid (Ext w2 wq) := Below.ext hE2.out (Below.ext hb3a hrq.out)
          have hEQ5 : Hid (Ext w5 wq) := Below.ext hx hrq.out
          obtain ⟨bf, of, hmf, hbf, hatf⟩ := (HS.out.rdm _ (List.getElem_mem hfz)).ptr (by omega)
          have HATF := Lib.hid (hatf.ext hbf hEQ1.out)
          have hbfw : bf < wq.heap.size := Nat.lt_of_lt_of_le hbf hEQ1.out.size
          obtain ⟨bx, ox, hmx2, hbx, hatx⟩ := (HS2.out.rdm _ (List.getElem_mem hkl)).ptr (by omega)
          have HATX := Lib.hid (hatx.ext hbx hEQ2.out)
          have hbxw : bx < wq.heap.size := Nat.lt_of_lt_of_le hbx hEQ2.out.size
          clear hatf hatx
          go_wp2_with fail
          have qX0 := fun y : ExtW wq => ((Below.ext hEQ5.out y.h).cell (p := ⟨w2.heap.size, 0, none⟩) hLX).trans cX0
          have qR3 := fun y : ExtW wq => (PBox.at (HAT25.out.ext hb25 (Below.ext hEQ5.out y.h)) k hkl).2.2.2
          have qF3 := fun y : ExtW wq => ((Below.ext hrq.out y.h).cell (p := ⟨β, 3, none⟩) hβ).trans (show w6.cell? ⟨β, 3, none⟩ = some (.slice zs[ff].ma zs[ff].msgs.length zs[ff].mc) from by simpa using HATB.out 3 _ rfl)
          rw [hmx2] at qR3
          rw [hmf] at qF3
          have qA1 := fun y : ExtW wq => (DMsg.at (HATX.out.ext hbxw y.h) m hmlt).2.1
          have qA2 := fun y : ExtW wq => (DMsg.at (HATX.out.ext hbxw y.h) m hmlt).2.2
          have qB1 := fun y : ExtW wq => (DMsg.at (HATF.out.ext hbfw y.h) j hjl).2.1
          have qB2 := fun y : ExtW wq => (DMsg.at (HATF.out.ext hbfw y.h) j hjl).2.2
          rw [HG1.out] at qA1
          rw [HG2.out] at qA2
          have HMF := Lib.hid hmf
          have HMX2 := Lib.hid hmx2
          clear hmf hmx2
          refine wp_region_ext (by kernel_rfl) (by kernel_rfl) ?_
          repeat (go_big_quiet_step (fail))
          refine wpQuiet_nil ?_
          rintro wp ⟨⟨wpx, hwp⟩, hxwp⟩
          have hywp : wp = wpx := hxwp
          subst hywp
          clear hxwp
          clear qX0 qR3 qF3 qA1 qA2 qB1 qB2
          go_wp2_with fail
          go_roundw
          case rel => exact ⟨i + 1, m + 1, by omega, by go_num, by go_num, HN, Below.ext hrq.out hwp⟩
          case measure => simp [intOf]; omega
      · skip
        have i0 : decide ((i : Int) < (us.length : Int)) = false := decide_eq_false (by omega)
        have i00 : decide (i < us.length) = false := decide_eq_false hlt
        have hme : m = z2[k].msgs.length := by (have h := HM.out; rw [List.take_of_length_le (by omega)] at h; rw [HML.out]; exact h)
        subst hme
        have me : ((z2[k].msgs.length : Int) == (z2[k].msgs.length : Int)) = true := by simp
        have hr5 : Hid (Ext w5 wr) := Below.ext hx hr
        have zX0 := (hr5.out.cell (p := ⟨w2.heap.size, 0, none⟩) hLX).trans cX0
        have zX1 := (hr5.out.cell (p := ⟨w2.heap.size, 1, none⟩) hLX).trans cX1
        have zX2 := (hr5.out.cell (p := ⟨w2.heap.size, 2, none⟩) hLX).trans cX2
        have zR3 := (PBox.at (HAT25.out.ext hb25 hr5.out) k hkl).2.2.2
        have hEX : Hid (Ext w2 wr) := Below.ext hE2.out (Below.ext hb3a hr)
        go_wp2_with fail
        refine (specStoreOk_sq z2 _ q2 rs.log a2 d2 rs.given _ (HS2.out.ext (Below.ext hEX.out bxt)) true (Lib.hid (⟨fun _ => (by rw [HZ2.out]; exact HSP.out), fun _ => rfl⟩))).mono ?_
        rintro e w9 ⟨rfl, hb9⟩
        skip
        go_wp2_with fail
        go_ret
        exact ⟨rfl, bxt⟩
end Go.Proofs.YtjcnhkmhcfmoeaaGreat
