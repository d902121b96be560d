/-
  The law FnSetFlags: its walk.
-/
import Derived.Test.YtjcnhkmhcfmoeaaGreatDraw15b
import Derived.Test.YtjcnhkmhcfmoeaaGreatXSet
import Derived.Test.YtjcnhkmhcfmoeaaGreatWBoxIdx
import Derived.Test.YtjcnhkmhcfmoeaaGreatXSq
import Derived.Test.YtjcnhkmhcfmoeaaGreatXDr
import Derived.Deep.RegionHeld3
import Derived.BigQuiet
namespace Go.Proofs.YtjcnhkmhcfmoeaaGreat
open Go.RowKit
set_option linter.unusedVariables false
set_option linter.unusedSimpArgs false

theorem implSetFlags_sq (zs : List PBox) (ba : Option Addr) (bc : Nat) (lg : List DCommit) (la : Option Addr) (lc : Nat) (gv : Int) (v : Int) (us : List Int) (ua : Option Addr) (uc : Nat) (op bi : Int) (w : World) (h : Sq w ba bc zs la lc lg) (RU : Rd w ua uc 1 us.length (us.flatMap intCells)) (hul : us.length ≤ 100) (hm : MaxLen w) (rs : DStore) (rok : Int) (H : Hid (setD ⟨zs.map PBox.box, lg, gv⟩ v us op bi = (rs, rok))) : Calls Tryz.prog 58 #[.agg #[.slice ba zs.length bc, .slice la lg.length lc, .int .i64 gv], .int .i64 v, .slice ua us.length uc, .int .i64 op, .int .i64 bi] w (fun e w' => ∃ g q z2 g2 q2, e = .returned (.tuple #[.agg #[.slice g z2.length q, .slice g2 rs.log.length q2, .int .i64 rs.given], .int .i64 rok]) ∧ OwnSt w' w.heap.size 49 66 41 g q z2 g2 q2 rs.log ∧ z2.map PBox.box = rs.boxes ∧ Ext w w') :=
  implSetFlags_law zs ba bc lg la lc gv v us ua uc op bi w h.rd h.rdm h.rl (by have := h.len; omega) (fun y hy => by have := (h.sm y hy).2.1; omega) (by have := h.ll; omega) (fun y hy => by have := (h.sm y hy).1; omega) (fun y hy t ht => by have := (h.sm y hy).2.2 t ht; omega) (fun y hy => by have := h.sl y hy; exact ⟨by omega, by omega⟩) RU (by omega) hm rs rok H
theorem specSetFlags_sq (zs : List PBox) (ba : Option Addr) (bc : Nat) (lg : List DCommit) (la : Option Addr) (lc : Nat) (gv : Int) (v : Int) (us : List Int) (ua : Option Addr) (uc : Nat) (op bi : Int) (w : World) (h : Sq w ba bc zs la lc lg) (RU : Rd w ua uc 1 us.length (us.flatMap intCells)) (hul : us.length ≤ 100) (rs : DStore) (rok : Int) (H : Hid (setD ⟨zs.map PBox.box, lg, gv⟩ v us op bi = (rs, rok))) : Calls Tryz.prog 59 #[.agg #[.slice ba zs.length bc, .slice la lg.length lc, .int .i64 gv], .int .i64 v, .slice ua us.length uc, .int .i64 op, .int .i64 bi] w (fun e w' => ∃ g q z2 g2 q2, e = .returned (.tuple #[.agg #[.slice g z2.length q, .slice g2 rs.log.length q2, .int .i64 rs.given], .int .i64 rok]) ∧ OwnSt w' w.heap.size 49 66 41 g q z2 g2 q2 rs.log ∧ z2.map PBox.box = rs.boxes ∧ Ext w w') :=
  specSetFlags_law zs ba bc lg la lc gv v us ua uc op bi w h.rd h.rdm h.rl (by have := h.len; omega) (fun y hy => by have := (h.sm y hy).2.1; omega) (by have := h.ll; omega) (fun y hy => by have := (h.sm y hy).1; omega) (fun y hy t ht => by have := (h.sm y hy).2.2 t ht; omega) (fun y hy => by have := h.sl y hy; exact ⟨by omega, by omega⟩) RU (by omega) rs rok H
set_option maxHeartbeats 1000000 in
theorem times_any (l : List Int) (a : Option Addr) (c : Nat) (x : Int) (w : World) (R : Rd w a c 1 l.length (l.flatMap intCells)) (hl : l.length ≤ 1000) (r : Bool) (Hr : Hid (Tells r (x ∈ l))) :
    Calls Tryz.prog 43 #[.slice a l.length c, .int .i64 x] w fun e w' => ∃ n : Int, decide (0 < n) = r ∧ e = .returned (.int .i64 n) ∧ w' = w := by
  have HR := Lib.hid R
  clear R
  go_enter Tryz.func43, Tryz.ntmps43
  go_wp2_with fail
  go_loop [5, 6] (fun n i => ∃ k m : Nat, k ≤ l.length ∧ i = .int .i64 k ∧ n = .int .i64 m ∧ m ≤ k ∧ Hid (0 < m ↔ x ∈ l.take k)) (fun _ i => l.length - (intOf i).toNat)
  case atStart => exact ⟨0, 0, Nat.zero_le _, rfl, rfl, Nat.le_refl _, by simp [Hid]⟩
  case round =>
    obtain ⟨k, m, hk, rfl, rfl, hm, HT⟩ := hrel
    by_cases hlt : k < l.length
    · obtain ⟨b, o, rfl, hbb, hat⟩ := HR.out.ptr (by omega)
      have hx := intCells_at hat k hlt
      have h1 : decide ((k : Int) < (l.length : Int)) = true := decide_eq_true (by omega)
      have h2 : (k : Int) < (l.length : Int) := by omega
      have h3 : (0 : Int) ≤ (k : Int) := by omega
      have HAT := Lib.hid hat
      clear hat
      have htk : l.take (k + 1) = l.take k ++ [l[k]] := List.take_succ_eq_append_getElem hlt
      have HTK := Lib.hid htk
      clear htk
      by_cases he : l[k] = x
      · have e1 : (l[k] == x) = true := beq_iff_eq.2 he
        have HE := Lib.hid he
        clear he
        go_wp2_with fail
        go_round
        case rel => exact ⟨k + 1, m + 1, by omega, by go_num, by go_num, by omega, Lib.hid ⟨fun _ => (by rw [HTK.out, List.mem_append, List.mem_singleton]; exact Or.inr HE.out.symm), fun _ => by omega⟩⟩
        case measure => simp [intOf]; omega
      · have e1 : (l[k] == x) = false := by simpa using he
        have HE := Lib.hid he
        clear he
        go_wp2_with fail
        go_round
        case rel => exact ⟨k + 1, m, by omega, by go_num, rfl, by omega, Lib.hid (by rw [HTK.out, HT.out, List.mem_append, List.mem_singleton]; exact ⟨Or.inl, fun h => h.resolve_right (fun e => HE.out e.symm)⟩)⟩
        case measure => simp [intOf]; omega
    · have h1 : decide ((k : Int) < (l.length : Int)) = false := decide_eq_false (by omega)
      have h2 : decide (k < l.length) = false := decide_eq_false hlt
      go_wp2_with fail
      go_ret
      have hkk : k = l.length := by omega
      subst hkk
      refine ⟨_, ?_, rfl, rfl⟩
      have h := HT.out
      rw [List.take_length] at h
      cases r with
      | true => exact decide_eq_true (by have := h.2 (yes_of Hr.out); omega)
      | false => exact decide_eq_false (fun hn => no_of Hr.out (h.1 (by omega)))
def LRel (n : Nat) (W : World) (i : Value) (wr : World) : Prop := ∃ k : Nat, k ≤ n ∧ i = .int .i64 k ∧ Ext W wr
set_option maxRecDepth 100000 in
set_option maxHeartbeats 16000000 in
theorem fnSetFlags_walk (l : List Int) (a : Option Addr) (c : Nat) (w : World) : MaxLen w → Rd w a c 1 l.length (l.flatMap byteCells) → (∀ y ∈ l, 0 ≤ y ∧ y ≤ 255) →
    Calls Tryz.prog 11 #[.slice a l.length c] w fun e w' => e = .returned (.bool true) ∧ Below w.heap.size w w' := by
  intro hmx R hb
  have hln : l.length ≤ 9223372036854775807 := Nat.le_trans R.nc R.cm
  have HMX := Lib.hid hmx
  have HR := Lib.hid R
  have HB := Lib.hid hb
  clear R hb hmx
  obtain ⟨d, hd⟩ := boolOf (1048576 < l.length)
  have HDB := Lib.hid hd
  clear hd
  go_enter Tryz.func11, Tryz.ntmps11
  go_wp2_with fail
  refine (big_any l.length a c _ hln d HDB).mono ?_
  rintro e w1 ⟨rfl, rfl⟩
  cases d
  rotate_left
  · go_wp2_with fail
    go_ret
    exact ⟨rfl, bxt⟩
  have hl : l.length ≤ 1048576 := by have := no_of HDB.out; omega
  go_wp2_with fail
  refine (drawSetFlags_any l a c _ (HR.out.ext bxt) HB.out hl).mono ?_
  rintro e w1 ⟨ba, bc, zs, la, lc, lg, gv, v, ua, uc, us, op, bi, hul, hzl, hsm, hll, hsl, rfl, ho, hou, hb1⟩
  have HS := Lib.hid (ho.sq hzl hsm hll hsl)
  have HU := Lib.hid (Rd.of_Own hou)
  clear hou
  clear ho hsm hsl
  have hzz1 := hb1.size; (try simp at hzz1)
  obtain ⟨hc1, hf1⟩ := bcell hb1
  obtain ⟨rs, rok, hrel⟩ : ∃ rs rok, setD ⟨zs.map PBox.box, lg, gv⟩ v us op bi = (rs, rok) := ⟨_, _, rfl⟩
  have hor : rs = ⟨zs.map PBox.box, lg, gv⟩ ∨ StoreP rs := by (by_cases h0 : rok = 0; (subst h0; exact Or.inr ((fun h => (set_zero h).1) hrel)); exact Or.inl (set_ref hrel h0))
  have HOR := Lib.hid hor
  have HREL := Lib.hid hrel
  clear hrel hor
  go_wp2_with fail
  refine (implSetFlags_sq zs ba bc lg la lc gv v us (some ⟨ua, 0, none⟩) uc op bi _ (HS.out.ext bxt) (HU.out.ext bxt) (by omega) (HMX.out.ext bxt) rs rok HREL).mono ?_
  rintro e w2 ⟨g2, q2, z2, a2, d2, rfl, ho2, hz2, hb2⟩
  have HS2 := Lib.hid (ho2.sq hz2 HS.out HOR.out)
  have HZ2 := Lib.hid hz2
  clear ho2 hz2
  have hzz2 := hb2.size; (try simp at hzz2)
  obtain ⟨hc2, hf2⟩ := bcell hb2
  have hs2_0 : w1.heap.size < w2.heap.size := by (have hss := hb2.size; first | omega | (simp at hss <;> omega))
  go_wp2_with fail
  refine (specSetFlags_sq zs ba bc lg la lc gv v us (some ⟨ua, 0, none⟩) uc op bi _ (HS.out.ext bxt) (HU.out.ext bxt) (by omega) rs rok HREL).mono ?_
  rintro e w3 ⟨g3, q3, z3, a3, d3, rfl, ho3, hz3, hb3⟩
  have HS3 := Lib.hid (ho3.sq hz3 HS.out HOR.out)
  have HZ3 := Lib.hid hz3
  clear ho3 hz3
  have hzz3 := hb3.size; (try simp at hzz3)
  obtain ⟨hc3, hf3⟩ := bcell hb3
  have hs3_0 : w1.heap.size < w3.heap.size := by (have hss := hb3.size; first | omega | (simp at hss <;> omega))
  have hs3_1 : w2.heap.size < w3.heap.size := by (have hss := hb3.size; first | omega | (simp at hss <;> omega))
  have hdd : (rok != rok) = false := by simp
  by_cases h0 : rok = 0
  rotate_left
  · skip
    have e0 : (rok != 0) = true := by simpa using h0
    have HRS := Lib.hid (show rs = ⟨zs.map PBox.box, lg, gv⟩ from set_ref HREL.out h0)
    clear h0
    go_wp2_with fail
    refine (specSameStore_sq z2 g2 q2 rs.log a2 d2 rs.given zs ba bc lg la lc gv _ (HS2.out.ext bxt) (HS.out.ext bxt) true (Lib.hid (by simp [HZ2.out, HRS.out]))).mono ?_
    rintro e w4 ⟨rfl, hb4⟩
    have hzz4 := hb4.size; (try simp at hzz4)
    obtain ⟨hc4, hf4⟩ := bcell hb4
    have hs4_0 : w1.heap.size < w4.heap.size := by (have hss := hb4.size; first | omega | (simp at hss <;> omega))
    have hs4_1 : w2.heap.size < w4.heap.size := by (have hss := hb4.size; first | omega | (simp at hss <;> omega))
    go_wp2_with fail
    go_ret
    exact ⟨rfl, bxt⟩
  subst h0
  obtain ⟨hsp, hag, k, hk, hk2, hkw, hms⟩ := set_zero HREL.out
  have hkz : k < zs.length := by simpa using hk
  have hkl : k < z2.length := by (have h := congrArg List.length HZ2.out; simp at h; omega)
  have hbx : z2[k].box = rs.boxes[k] := by (have h : (z2.map PBox.box)[k]'(by simpa using hkl) = rs.boxes[k] := (by simp only [HZ2.out]); simpa using h)
  have hm2 : z2[k].msgs = zs[k].msgs.map fun m => if m.uid ∈ us then chM op bi m else m := by (have h : rs.boxes[k].msgs = z2[k].msgs := (by rw [← hbx]; rfl); rw [← h, hms]; simp [PBox.box])
  have hml : z2[k].msgs.length = zs[k].msgs.length := by rw [hm2]; simp
  have hrs : (⟨z2.map PBox.box, rs.log, rs.given⟩ : DStore) = rs := by rw [HZ2.out]
  have HAG : Hid (setD ⟨z2.map PBox.box, rs.log, rs.given⟩ v us op bi = (rs, 0)) := by (rw [hrs]; exact hag)
  have HM2 := Lib.hid hm2
  have HSP := Lib.hid hsp
  have HKW := Lib.hid hkw
  have HRS := Lib.hid hrs
  clear hsp hkw hag hms hm2 hbx hk hk2 hrs
  go_wp2_with fail
  refine (specBoxWith_any zs ba bc v _ (HS.out.rd.ext bxt) (k : Int) HKW).mono ?_
  rintro e w5 ⟨rfl, hw5⟩
  have hb5 := same_ext hw5
  clear hw5
  have hzz5 := hb5.size; (try simp at hzz5)
  obtain ⟨hc5, hf5⟩ := bcell hb5
  have hs5_0 : w1.heap.size < w5.heap.size := by (have hss := hb5.size; first | omega | (simp at hss <;> omega))
  have hs5_1 : w2.heap.size < w5.heap.size := by (have hss := hb5.size; first | omega | (simp at hss <;> omega))
  have hLS : w1.heap.size < w5.heap.size := hs5_0
  have hLX : w2.heap.size < w5.heap.size := hs5_1
  have hE1 : Hid (Ext w1 w5) := bxt
  have hE2 : Hid (Ext w2 w5) := bxt
  obtain ⟨bs, os, rfl, hbs, hats⟩ := HS.out.rd.ptr (by omega)
  have HATS := Lib.hid (hats.ext hbs hE1.out)
  have hbsw : bs < w5.heap.size := Nat.lt_of_lt_of_le hbs hE1.out.size
  obtain ⟨b2, o2, rfl, hbb2, hat2⟩ := HS2.out.rd.ptr (by omega)
  have HAT2 := Lib.hid (hat2.ext hbb2 hE2.out)
  have hb2w : b2 < w5.heap.size := Nat.lt_of_lt_of_le hbb2 hE2.out.size
  clear hats hat2
  have cS0 : w5.cell? ⟨w1.heap.size, 0, none⟩ = some (.slice (some ⟨bs, os, none⟩) zs.length bc) := kpx
  have cS1 : w5.cell? ⟨w1.heap.size, 1, none⟩ = some (.slice la lg.length lc) := kpx
  have cS2 : w5.cell? ⟨w1.heap.size, 2, none⟩ = some (.int .i64 gv) := kpx
  have cX0 : w5.cell? ⟨w2.heap.size, 0, none⟩ = some (.slice (some ⟨b2, o2, none⟩) z2.length q2) := kpx
  have cX1 : w5.cell? ⟨w2.heap.size, 1, none⟩ = some (.slice a2 rs.log.length d2) := kpx
  have cX2 : w5.cell? ⟨w2.heap.size, 2, none⟩ = some (.int .i64 rs.given) := kpx
  have k1 : (0 : Int) ≤ (k : Int) := by omega
  have k2 : (k : Int) < (zs.length : Int) := by omega
  have k3 : (k : Int) < (z2.length : Int) := by omega
  have hmL : zs[k].msgs.length ≤ 6 := (HS.out.sm _ (List.getElem_mem hkz)).2.1
  have hgE := eqMsgG
  go_wp2_with fail
  go_loopw [13] (LRel zs[k].msgs.length w5) (fun i _ => zs[k].msgs.length - (intOf i).toNat)
  case atStart => exact ⟨0, Nat.zero_le _, rfl, Below.refl _ _⟩
  case round =>
    obtain ⟨i, hi, rfl, hr⟩ := hrel
    have hzr := hr.size
    have hz15 := hE1.out.size
    have hz25 := hE2.out.size
    by_cases hlt : i < zs[k].msgs.length
    · skip
      have hltx : i < z2[k].msgs.length := by omega
      have i0 : decide ((i : Int) < (zs[k].msgs.length : Int)) = true := decide_eq_true (by omega)
      have i1 : (0 : Int) ≤ (i : Int) := by omega
      have i2 : (i : Int) < (zs[k].msgs.length : Int) := by omega
      have i3 : (i : Int) < (z2[k].msgs.length : Int) := by omega
      obtain ⟨bm, om, hma, hbm, hatm⟩ := (HS.out.rdm _ (List.getElem_mem hkz)).ptr (by omega)
      have hbmw : bm < w5.heap.size := Nat.lt_of_lt_of_le hbm hE1.out.size
      have HATM := Lib.hid (hatm.ext hbm hE1.out)
      obtain ⟨bx, ox, hmx2, hbx, hatx⟩ := (HS2.out.rdm _ (List.getElem_mem hkl)).ptr (by omega)
      have hbmx : bx < w5.heap.size := Nat.lt_of_lt_of_le hbx hE2.out.size
      have HATX := Lib.hid (hatx.ext hbx hE2.out)
      clear hatm hatx
      have hme : z2[k].msgs[i] = if zs[k].msgs[i].uid ∈ us then chM op bi zs[k].msgs[i] else zs[k].msgs[i] := by (simp only [HM2.out, List.getElem_map])
      have HME := Lib.hid hme
      clear hme
      have ycS0 := ((hr).cell (p := ⟨w1.heap.size, 0, none⟩) hLS).trans cS0
      have yrS3 := (PBox.at (HATS.out.ext hbsw (hr)) k hkz).2.2.2
      have ymS0 := (DMsg.at (HATM.out.ext hbmw (hr)) i hlt).1
      have ymS1 := (DMsg.at (HATM.out.ext hbmw (hr)) i hlt).2.1
      have ymS2 := (DMsg.at (HATM.out.ext hbmw (hr)) i hlt).2.2
      rw [hma] at yrS3
      have HMA := Lib.hid hma
      have HMX2 := Lib.hid hmx2
      clear hma hmx2
      have hybs : bs < wr.heap.size := Nat.lt_of_lt_of_le hbsw hr.size
      have hybm : bm < wr.heap.size := Nat.lt_of_lt_of_le hbmw hr.size
      obtain ⟨tu, htu⟩ := boolOf (zs[k].msgs[i].uid ∈ us)
      have HTU := Lib.hid htu
      clear htu
      go_wp2_with fail
      refine (times_any us _ uc zs[k].msgs[i].uid _ (HU.out.ext bxt) (by omega) tu HTU).mono ?_
      rintro e w6 ⟨n, hn, rfl, hw6⟩
      have hb6 := same_ext hw6
      clear hw6
      have cm0 : w6.cell? ⟨wr.heap.size, 0, none⟩ = some (.int .i64 zs[k].msgs[i].uid) := (hb6.cell (p := ⟨wr.heap.size, 0, none⟩) smx).trans kpx
      have cm1 : w6.cell? ⟨wr.heap.size, 1, none⟩ = some (.int .i64 zs[k].msgs[i].flags) := (hb6.cell (p := ⟨wr.heap.size, 1, none⟩) smx).trans kpx
      have cm2 : w6.cell? ⟨wr.heap.size, 2, none⟩ = some (.string zs[k].msgs[i].text) := (hb6.cell (p := ⟨wr.heap.size, 2, none⟩) smx).trans kpx
      have fm0 : w6.frozen? ⟨wr.heap.size, 0, none⟩ = false := (hb6.frozen (p := ⟨wr.heap.size, 0, none⟩) smx).trans kfx
      have fm1 : w6.frozen? ⟨wr.heap.size, 1, none⟩ = false := (hb6.frozen (p := ⟨wr.heap.size, 1, none⟩) smx).trans kfx
      have fm2 : w6.frozen? ⟨wr.heap.size, 2, none⟩ = false := (hb6.frozen (p := ⟨wr.heap.size, 2, none⟩) smx).trans kfx
      have hzz6 := hb6.size
      have hLM : wr.heap.size < w6.heap.size := (by first | omega | (simp at hzz6; omega))
      have hr6 : Hid (Ext w5 w6) := bxt
      clear ycS0 yrS3 ymS0 ymS1 ymS2
      cases tu
      · skip
        have hmq : z2[k].msgs[i] = ⟨zs[k].msgs[i].uid, zs[k].msgs[i].flags, zs[k].msgs[i].text⟩ := by (rw [HME.out, if_neg (no_of HTU.out)])
        have hq := eqMsgB (⟨zs[k].msgs[i].uid, zs[k].msgs[i].flags, zs[k].msgs[i].text⟩ : DMsg) (⟨zs[k].msgs[i].uid, zs[k].msgs[i].flags, zs[k].msgs[i].text⟩ : DMsg) true (by simp)
        go_wp2_with fail
        have qcX0 := fun y : ExtW w6 => ((ExtW.of (hr6.out) y).cell (p := ⟨w2.heap.size, 0, none⟩) hLX).trans cX0
        have qrX3 := fun y : ExtW w6 => (PBox.at (HAT2.out.ext hb2w (ExtW.of (hr6.out) y)) k hkl).2.2.2
        have qmX0 := fun y : ExtW w6 => (DMsg.at (HATX.out.ext hbmx (ExtW.of (hr6.out) y)) i hltx).1
        have qmX1 := fun y : ExtW w6 => (DMsg.at (HATX.out.ext hbmx (ExtW.of (hr6.out) y)) i hltx).2.1
        have qmX2 := fun y : ExtW w6 => (DMsg.at (HATX.out.ext hbmx (ExtW.of (hr6.out) y)) i hltx).2.2
        rw [HMX2.out] at qrX3
        rw [hmq] at qmX0 qmX1 qmX2
        clear hmq
        have qM0 := fun y : ExtW w6 => (y.h.cell (p := ⟨wr.heap.size, 0, none⟩) hLM).trans cm0
        have qM1 := fun y : ExtW w6 => (y.h.cell (p := ⟨wr.heap.size, 1, none⟩) hLM).trans cm1
        have qM2 := fun y : ExtW w6 => (y.h.cell (p := ⟨wr.heap.size, 2, none⟩) hLM).trans cm2
        refine wp_region_ext (by kernel_rfl) (by kernel_rfl) ?_
        repeat (go_big_quiet_step (fail))
        refine wpQuiet_nil ?_
        rintro _ ⟨⟨wq, hwq⟩, rfl⟩
        clear qcX0 qrX3 qmX0 qmX1 qmX2 qM0 qM1 qM2 hq
        go_wp2_with fail
        go_roundw
        case rel => exact ⟨i + 1, by omega, by go_num, (Below.ext hr6.out hwq)⟩
        case measure => simp [intOf]; omega
      · skip
        obtain ⟨cf, hcf⟩ : ∃ z, chgF op zs[k].msgs[i].flags bi = z := ⟨_, rfl⟩
        have HCF := Lib.hid hcf
        clear hcf
        go_wp2_with fail
        refine (specChanged_any op zs[k].msgs[i].flags bi _ cf HCF).mono ?_
        rintro e w7 ⟨rfl, hw7⟩
        have hb7 := same_ext hw7
        clear hw7
        have cm07 : w7.cell? ⟨wr.heap.size, 0, none⟩ = some (.int .i64 zs[k].msgs[i].uid) := (hb7.cell (p := ⟨wr.heap.size, 0, none⟩) smx).trans kpx
        have cm17 : w7.cell? ⟨wr.heap.size, 1, none⟩ = some (.int .i64 zs[k].msgs[i].flags) := (hb7.cell (p := ⟨wr.heap.size, 1, none⟩) smx).trans kpx
        have cm27 : w7.cell? ⟨wr.heap.size, 2, none⟩ = some (.string zs[k].msgs[i].text) := (hb7.cell (p := ⟨wr.heap.size, 2, none⟩) smx).trans kpx
        have fm17 : w7.frozen? ⟨wr.heap.size, 1, none⟩ = false := (hb7.frozen (p := ⟨wr.heap.size, 1, none⟩) smx).trans kfx
        have hzz7 := hb7.size
        have hLM7 : wr.heap.size < w7.heap.size := (by first | omega | (simp at hzz7; omega))
        have hwr5 := hr.size
        obtain ⟨w8, hw8⟩ : ∃ x, x = w7.setCell ⟨wr.heap.size, 1, none⟩ (.int .i64 cf) := ⟨_, rfl⟩
        have hr8 : Hid (Ext w5 w8) := by (rw [hw8]; exact Below.setCell (Below.ext hr6.out hb7) (by show w5.heap.size ≤ wr.heap.size; omega) _)
        have cm08 : w8.cell? ⟨wr.heap.size, 0, none⟩ = some (.int .i64 zs[k].msgs[i].uid) := by (rw [hw8]; exact cell_set_ne cm07 (by omega))
        have cm18 : w8.cell? ⟨wr.heap.size, 1, none⟩ = some (.int .i64 cf) := by (rw [hw8]; exact cell_set_eq cm17)
        have cm28 : w8.cell? ⟨wr.heap.size, 2, none⟩ = some (.string zs[k].msgs[i].text) := by (rw [hw8]; exact cell_set_ne cm27 (by omega))
        have hLM8 : wr.heap.size < w8.heap.size := by (rw [hw8]; simpa using hLM7)
        go_upto_region 17 with fail
        rw [← hw8]
        clear hw8
        have hmq : z2[k].msgs[i] = ⟨zs[k].msgs[i].uid, cf, zs[k].msgs[i].text⟩ := by (rw [HME.out, if_pos (yes_of HTU.out)]; unfold chM; rw [HCF.out])
        have hq := eqMsgB (⟨zs[k].msgs[i].uid, cf, zs[k].msgs[i].text⟩ : DMsg) (⟨zs[k].msgs[i].uid, cf, zs[k].msgs[i].text⟩ : DMsg) true (by simp)
        go_wp2_with fail
        have qcX0 := fun y : ExtW w8 => ((ExtW.of (hr8.out) y).cell (p := ⟨w2.heap.size, 0, none⟩) hLX).trans cX0
        have qrX3 := fun y : ExtW w8 => (PBox.at (HAT2.out.ext hb2w (ExtW.of (hr8.out) y)) k hkl).2.2.2
        have qmX0 := fun y : ExtW w8 => (DMsg.at (HATX.out.ext hbmx (ExtW.of (hr8.out) y)) i hltx).1
        have qmX1 := fun y : ExtW w8 => (DMsg.at (HATX.out.ext hbmx (ExtW.of (hr8.out) y)) i hltx).2.1
        have qmX2 := fun y : ExtW w8 => (DMsg.at (HATX.out.ext hbmx (ExtW.of (hr8.out) y)) i hltx).2.2
        rw [HMX2.out] at qrX3
        rw [hmq] at qmX0 qmX1 qmX2
        clear hmq
        have qM0 := fun y : ExtW w8 => (y.h.cell (p := ⟨wr.heap.size, 0, none⟩) hLM8).trans cm08
        have qM1 := fun y : ExtW w8 => (y.h.cell (p := ⟨wr.heap.size, 1, none⟩) hLM8).trans cm18
        have qM2 := fun y : ExtW w8 => (y.h.cell (p := ⟨wr.heap.size, 2, none⟩) hLM8).trans cm28
        refine wp_region_ext (by kernel_rfl) (by kernel_rfl) ?_
        repeat (go_big_quiet_step (fail))
        refine wpQuiet_nil ?_
        rintro _ ⟨⟨wq, hwq⟩, rfl⟩
        clear qcX0 qrX3 qmX0 qmX1 qmX2 qM0 qM1 qM2 hq
        go_wp2_with fail
        go_roundw
        case rel => exact ⟨i + 1, by omega, by go_num, (Below.ext hr8.out hwq)⟩
        case measure => simp [intOf]; omega
    · skip
      have i0 : decide ((i : Int) < (zs[k].msgs.length : Int)) = false := decide_eq_false (by omega)
      have i00 : decide (i < zs[k].msgs.length) = false := decide_eq_false hlt
      have ycS0 := ((hr).cell (p := ⟨w1.heap.size, 0, none⟩) hLS).trans cS0
      have yrS3 := (PBox.at (HATS.out.ext hbsw (hr)) k hkz).2.2.2
      have ycX0 := ((hr).cell (p := ⟨w2.heap.size, 0, none⟩) hLX).trans cX0
      have ycX1 := ((hr).cell (p := ⟨w2.heap.size, 1, none⟩) hLX).trans cX1
      have ycX2 := ((hr).cell (p := ⟨w2.heap.size, 2, none⟩) hLX).trans cX2
      have hybs : bs < wr.heap.size := Nat.lt_of_lt_of_le hbsw hr.size
      have HR5 := Lib.hid hr
      have hyx : w2.heap.size < wr.heap.size := Nat.lt_of_lt_of_le hLX hr.size
      go_wp2_with fail
      refine (implSetFlags_sq z2 _ q2 rs.log a2 d2 rs.given v us (some ⟨ua, 0, none⟩) uc op bi _ (HS2.out.ext bxt) (HU.out.ext bxt) (by omega) (HMX.out.ext bxt) rs 0 HAG).mono ?_
      rintro e w8 ⟨g8, q8, z8, a8, d8, rfl, ho8, hz8, hb8⟩
      have HS8 := Lib.hid (ho8.sq hz8 HS2.out (gv := rs.given) (Or.inl HRS.out.symm))
      have HZ8 := Lib.hid hz8
      clear ho8 hz8
      have hzz8 := hb8.size; (try simp at hzz8)
      obtain ⟨hc8, hf8⟩ := bcell hb8
      have hs8_0 : w2.heap.size < w8.heap.size := by (have hss := hb8.size; first | omega | (simp at hss <;> omega))
      go_wp2_with fail
      refine (specSameStore_sq z8 g8 q8 rs.log a8 d8 rs.given z2 _ q2 rs.log a2 d2 rs.given _ (HS8.out.ext bxt) (HS2.out.ext bxt) true (Lib.hid (by simp [HZ8.out, HZ2.out]))).mono ?_
      rintro e w9 ⟨rfl, hb9⟩
      have hzz9 := hb9.size; (try simp at hzz9)
      obtain ⟨hc9, hf9⟩ := bcell hb9
      have hs9_0 : w2.heap.size < w9.heap.size := by (have hss := hb9.size; first | omega | (simp at hss <;> omega))
      go_wp2_with fail
      refine (specStoreOk_sq z2 _ q2 rs.log a2 d2 rs.given _ (HS2.out.ext bxt) true (Lib.hid (⟨fun _ => (by rw [HZ2.out]; exact HSP.out), fun _ => rfl⟩))).mono ?_
      rintro e w10 ⟨rfl, hb10⟩
      have hzz10 := hb10.size; (try simp at hzz10)
      obtain ⟨hc10, hf10⟩ := bcell hb10
      have hs10_0 : w2.heap.size < w10.heap.size := by (have hss := hb10.size; first | omega | (simp at hss <;> omega))
      go_wp2_with fail
      go_ret
      exact ⟨rfl, bxt⟩
end Go.Proofs.YtjcnhkmhcfmoeaaGreat
