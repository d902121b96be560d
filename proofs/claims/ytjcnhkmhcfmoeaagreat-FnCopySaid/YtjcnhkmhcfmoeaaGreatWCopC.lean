/-
  CopyMsgs: the program's closure.
-/
import Derived.Test.YtjcnhkmhcfmoeaaGreatWCopP
import Derived.Test.YtjcnhkmhcfmoeaaGreatXEach
namespace Go.Proofs.YtjcnhkmhcfmoeaaGreat
open Go.RowKit
set_option linter.unusedVariables false
set_option linter.unusedSimpArgs false

set_option maxRecDepth 100000 in
set_option maxHeartbeats 8000000 in
theorem append2_any (zs : List PBox) (ga : Option Addr) (q : Nat) (l : List DCommit) (la : Option Addr) (lc : Nat) (gv : Int) (G B : Nat) (xn : ByteArray) (xv xx : Int) (xa : Option Addr) (xm xc : Nat) (f : Int) (t : ByteArray) (w : World) (HS : Hid (StB w G B 49 66 41 ga q zs la lc l gv)) (hB : B ≤ w.heap.size) (hm : MaxLen w) (gn : ∀ y ∈ zs, y.name.size ≤ 9223372036854775807) (gt : ∀ y ∈ zs, ∀ m ∈ y.msgs, m.text.size ≤ 9223372036854775807) (ht : t.size ≤ 9223372036854775807) (rs6 : DStore) (rb : Bool) (HCT : Hid (CmtRel (⟨zs.map PBox.box, l, gv⟩ : DStore) (⟨4, xv, xx, f, ⟨#[]⟩, t⟩ : DCommit) rs6 rb)) :
    Calls Tryz.prog 100 #[.pointer (some ⟨G, 0, none⟩), .agg #[.string xn, .int .i64 xv, .int .i64 xx, .slice xa xm xc], .int .i64 f, .string t] w fun e w' => e = .returned (.bool rb) ∧ StTo (fun k => k = G ∨ rowsS ga q zs la lc l.length k) w G B 49 66 41 rs6 w' := by
  have HGN := Lib.hid gn
  have HGT := Lib.hid gt
  have HMX := Lib.hid hm
  clear gn gt hm
  have GM1 : (⟨4, xv, xx, f, ⟨#[]⟩, t⟩ : DCommit).name.size ≤ 9223372036854775807 := Nat.zero_le _
  have GM2 : (⟨4, xv, xx, f, ⟨#[]⟩, t⟩ : DCommit).text.size ≤ 9223372036854775807 := ht
  go_enter Tryz.func100, Tryz.ntmps100
  go_wp2_with (go_at_call 67; refine (commit_any zs ga q l la lc gv G B (⟨4, xv, xx, f, ⟨#[]⟩, t⟩ : DCommit) _ (Lib.hid (StB.ext HS.out (show Ext w _ from bxt))) (Nat.le_trans hB (show Ext w _ from bxt).size) (HMX.out.ext bxt) HGN.out HGT.out GM1 GM2 rs6 rb HCT).mono ?_; rintro e w6 ⟨rfl, hst6⟩; have HST := Lib.hid (StTo.pre (show Ext w _ from bxt) hst6); clear hst6)
  go_ret
  exact ⟨rfl, HST.out⟩

/-- the mailbox at kt: its number, its next new number -/
def CurAt (s : DStore) (kt : Nat) (tv x : Int) : Prop := ∃ h : kt < s.boxes.length, s.boxes[kt].validity = tv ∧ s.boxes[kt].next = x
def CopyLoop (us : List Int) (fm : List DMsg) (R : DStore × Bool) (kt : Nat) (tv : Int) (S : Nat → Prop) (w : World) (G B E EM EC : Nat) (i : Value) (wr : World) : Prop :=
  ∃ (k : Nat) (cur : DStore) (x : Int), k ≤ us.length ∧ i = .int .i64 k ∧ Hid (StTo S w G B E EM EC cur wr) ∧ Hid (GoodS cur) ∧ Hid (CurAt cur kt tv x) ∧ Hid (cmtAll cur (cpLog tv x (hitsOf fm (us.drop k))) = R)
set_option maxRecDepth 100000 in
set_option maxHeartbeats 16000000 in
theorem clCopy_any (zs : List PBox) (ga : Option Addr) (q : Nat) (l : List DCommit) (la : Option Addr) (lc : Nat) (gv : Int) (G B : Nat) (v : Int) (us : List Int) (ua : Option Addr) (uc : Nat) (n : ByteArray) (b : List PBox) (ba : Option Addr) (bc : Nat) (X : World) (sb vb nb ub : Nat) (w : World) (HS : Hid (StB w G B 49 66 41 ga q zs la lc l gv)) (hB : B ≤ w.heap.size) (hm : MaxLen w) (gn : ∀ y ∈ zs, y.name.size ≤ 9223372036854775807) (gt : ∀ y ∈ zs, ∀ m ∈ y.msgs, m.text.size ≤ 9223372036854775807) (hd : zs.map PBox.box = b.map PBox.box) (hX : Ext X w) (R : Rd X ba bc 4 b.length (b.flatMap PBox.cells)) (M : RdM X b) (RU : Rd X ua uc 1 us.length (us.flatMap intCells)) (hul : us.length ≤ 1048576) (hn : n.size ≤ 9223372036854775807) (gd : GoodS (⟨b.map PBox.box, l, gv⟩ : DStore)) (hm0 : MaxLen X)
    (hsb : sb < X.heap.size) (csb : X.cell? ⟨sb, 0, none⟩ = some (.slice ba b.length bc)) (hvb : vb < X.heap.size) (cvb : X.cell? ⟨vb, 0, none⟩ = some (.int .i64 v)) (hnb : nb < X.heap.size) (cnb : X.cell? ⟨nb, 0, none⟩ = some (.string n)) (hub : ub < X.heap.size) (cub : X.cell? ⟨ub, 0, none⟩ = some (.slice ua us.length uc)) (hBB : X.heap.size ≤ B) (hBG : X.heap.size ≤ G) :
    Calls Tryz.prog 109 #[.pointer (some ⟨G, 0, none⟩), .pointer (some ⟨sb, 0, none⟩), .pointer (some ⟨vb, 0, none⟩), .pointer (some ⟨nb, 0, none⟩), .pointer (some ⟨ub, 0, none⟩)] w fun e w' => ∃ r2 c, e = .returned (.int .i64 c) ∧ StTo (fun k => k = G ∨ rowsS ga q zs la lc l.length k) w G B 49 66 41 r2 w' ∧ copyB (⟨b.map PBox.box, l, gv⟩ : DStore) v us n = (if c = 0 then r2 else (⟨b.map PBox.box, l, gv⟩ : DStore), c) := by
  have HR := Lib.hid R
  have HM := Lib.hid M
  have HRU := Lib.hid RU
  have HGD := Lib.hid gd
  have HD := Lib.hid hd
  have HMX := Lib.hid hm
  have HM0 := Lib.hid hm0
  obtain ⟨z1, hz1⟩ : ∃ z, boxWith v (b.map PBox.box) = z := ⟨_, rfl⟩
  have HZ1 := Lib.hid hz1
  obtain ⟨z2, hz2⟩ : ∃ z, boxNamed n (b.map PBox.box) = z := ⟨_, rfl⟩
  have HZ2 := Lib.hid hz2
  have HX2 := Lib.hid hX
  have q0 := fun y : ExtW w => ((Below.ext hX y.h).cell (p := ⟨sb, 0, none⟩) hsb).trans csb
  have q1 := fun y : ExtW w => ((Below.ext hX y.h).cell (p := ⟨vb, 0, none⟩) hvb).trans cvb
  have q2 := fun y : ExtW w => ((Below.ext hX y.h).cell (p := ⟨nb, 0, none⟩) hnb).trans cnb
  have HST0 : Hid (StTo (fun k => k = G ∨ rowsS ga q zs la lc l.length k) w G B 49 66 41 (⟨b.map PBox.box, l, gv⟩ : DStore) w) := Lib.hid (StTo.self HS.out hd (Below.refl _ _))
  have HSG : Hid ((fun k => k = G ∨ rowsS ga q zs la lc l.length k) G) := Lib.hid (Or.inl rfl)
  have hXw := hX.size
  have HKS : Hid (∀ x, x < X.heap.size → ¬ (fun k => k = G ∨ rowsS ga q zs la lc l.length k) x ∧ x < w.heap.size) := Lib.hid (fun x hx => ⟨fun hh => hh.elim (fun e => by omega) (fun hr => by have := (HS.out.own.rows_lt x hr).1; omega), by omega⟩)
  have HBW := Lib.hid hB
  have HSB0 := HS
  have HCNB := Lib.hid cnb
  clear R M RU gd hd hm hm0 hz1 hz2 gn gt hBB hBG HS
  generalize hS0 : (fun k => k = G ∨ rowsS ga q zs la lc l.length k) = S at *
  clear hS0
  by_cases h1 : z1 < 0
  · have hd1 : decide (z1 < 0) = true := decide_eq_true h1
    have H1 := Lib.hid h1
    clear h1
    go_enter Tryz.func109, Tryz.ntmps109
    go_wp2_with fail
    refine wp_region_ext (by kernel_rfl) (by kernel_rfl) ?_
    repeat (go_big_quiet_step (first | (go_at_call 85; refine (implBoxWith_any b ba bc v _ (HR.out.ext (ExtW.of hX _)) z1 HZ1).mono ?_; rintro e w4 ⟨rfl, hb4⟩; exact ⟨rfl, ExtW.on _ hb4⟩) | (go_at_call 56; refine (implBoxNamed_any b ba bc n _ (HR.out.ext (ExtW.of hX _)) z2 HZ2).mono ?_; rintro e w4 ⟨rfl, hb4⟩; exact ⟨rfl, ExtW.on _ hb4⟩)))
    refine wpQuiet_nil ?_
    rintro w3 ⟨⟨w3x, hw3⟩, hx3⟩
    have hx3' : w3 = w3x := hx3
    subst hx3'
    clear hx3 q0 q1 q2
    go_wp2_with fail
    go_ret
    exact ⟨(⟨b.map PBox.box, l, gv⟩ : DStore), 1, rfl, HST0.out.ext hw3, by rw [copyB, if_pos (Or.inl (show boxWith v (b.map PBox.box) < 0 by rw [HZ1.out]; exact H1.out))]; rfl⟩
  have hd1 : decide (z1 < 0) = false := decide_eq_false h1
  by_cases h2 : z2 < 0
  · have hd2 : decide (z2 < 0) = true := decide_eq_true h2
    have H2 := Lib.hid h2
    clear h1 h2
    go_enter Tryz.func109, Tryz.ntmps109
    go_wp2_with fail
    refine wp_region_ext (by kernel_rfl) (by kernel_rfl) ?_
    repeat (go_big_quiet_step (first | (go_at_call 85; refine (implBoxWith_any b ba bc v _ (HR.out.ext (ExtW.of hX _)) z1 HZ1).mono ?_; rintro e w4 ⟨rfl, hb4⟩; exact ⟨rfl, ExtW.on _ hb4⟩) | (go_at_call 56; refine (implBoxNamed_any b ba bc n _ (HR.out.ext (ExtW.of hX _)) z2 HZ2).mono ?_; rintro e w4 ⟨rfl, hb4⟩; exact ⟨rfl, ExtW.on _ hb4⟩)))
    refine wpQuiet_nil ?_
    rintro w3 ⟨⟨w3x, hw3⟩, hx3⟩
    have hx3' : w3 = w3x := hx3
    subst hx3'
    clear hx3 q0 q1 q2
    go_wp2_with fail
    go_ret
    exact ⟨(⟨b.map PBox.box, l, gv⟩ : DStore), 1, rfl, HST0.out.ext hw3, by rw [copyB, if_pos (Or.inr (show boxNamed n (b.map PBox.box) < 0 by rw [HZ2.out]; exact H2.out))]; rfl⟩
  have hd2 : decide (z2 < 0) = false := decide_eq_false h2
  have hz1l : z1 < (b.length : Int) := by
    have h := (firstI_range (fun y : DBox => decide (y.validity = v)) (b.map PBox.box)).2
    rw [List.length_map] at h
    rw [← HZ1.out]
    exact h
  have hz2l : z2 < (b.length : Int) := by
    have h := (firstI_range (fun y : DBox => decide (y.name = n)) (b.map PBox.box)).2
    rw [List.length_map] at h
    rw [← HZ2.out]
    exact h
  obtain ⟨kf, hkf⟩ : ∃ k : Nat, z1 = k := ⟨z1.toNat, by omega⟩
  obtain ⟨kt, hkt⟩ : ∃ k : Nat, z2 = k := ⟨z2.toNat, by omega⟩
  subst hkf hkt
  have hkf1 : kf < b.length := by omega
  have hkt1 : kt < b.length := by omega
  have hfr : fromD (⟨b.map PBox.box, l, gv⟩ : DStore) v = b[kf].box := by
    show theD (b.map PBox.box) (boxWith v (b.map PBox.box)).toNat = _
    rw [HZ1.out, Int.toNat_natCast, theD_of (by simpa using hkf1)]; simp
  have hto : toD (⟨b.map PBox.box, l, gv⟩ : DStore) n = b[kt].box := by
    show theD (b.map PBox.box) (boxNamed n (b.map PBox.box)).toNat = _
    rw [HZ2.out, Int.toNat_natCast, theD_of (by simpa using hkt1)]; simp
  obtain ⟨⟨tt, rk⟩, htt⟩ : ∃ x, cmtAll (⟨b.map PBox.box, l, gv⟩ : DStore) (cpLog b[kt].validity b[kt].next (hitsOf b[kf].msgs us)) = x := ⟨_, rfl⟩
  have HTT := Lib.hid htt
  have HB : Hid (copyB (⟨b.map PBox.box, l, gv⟩ : DStore) v us n = if rk = true then (tt, 0) else ((⟨b.map PBox.box, l, gv⟩ : DStore), 2)) := Lib.hid (by
    rw [copyB, if_neg (fun h => h.elim (fun h => by rw [show boxWith v (b.map PBox.box) = _ from HZ1.out] at h; omega) (fun h => by rw [show boxNamed n (b.map PBox.box) = _ from HZ2.out] at h; omega)), hfr, hto]
    show (if (cmtAll (⟨b.map PBox.box, l, gv⟩ : DStore) (cpLog b[kt].validity b[kt].next (hitsOf b[kf].msgs us))).2 = true then _ else _) = _
    rw [show cmtAll (⟨b.map PBox.box, l, gv⟩ : DStore) (cpLog b[kt].box.validity b[kt].box.next (hitsOf b[kf].box.msgs us)) = _ from htt, htt])
  have HCUR : Hid (CurAt (⟨b.map PBox.box, l, gv⟩ : DStore) kt b[kt].validity b[kt].next) := Lib.hid ⟨by simpa using hkt1, by simp [PBox.box], by simp [PBox.box]⟩
  clear htt hfr hto hz1l hz2l h1 h2
  go_enter Tryz.func109, Tryz.ntmps109
  go_wp2_with fail
  refine wp_region_ext (by kernel_rfl) (by kernel_rfl) ?_
  repeat (go_big_quiet_step (first | (go_at_call 85; refine (implBoxWith_any b ba bc v _ (HR.out.ext (ExtW.of hX _)) (kf : Int) HZ1).mono ?_; rintro e w4 ⟨rfl, hb4⟩; exact ⟨rfl, ExtW.on _ hb4⟩) | (go_at_call 56; refine (implBoxNamed_any b ba bc n _ (HR.out.ext (ExtW.of hX _)) (kt : Int) HZ2).mono ?_; rintro e w4 ⟨rfl, hb4⟩; exact ⟨rfl, ExtW.on _ hb4⟩)))
  refine wpQuiet_nil ?_
  rintro w3 ⟨⟨w3x, hw3⟩, hx3⟩
  have hx3' : w3 = w3x := hx3
  subst hx3'
  clear hx3 q0 q1 q2
  have kub : w3.cell? ⟨ub, 0, none⟩ = some (.slice ua us.length uc) := ((Below.ext hX hw3).cell (p := ⟨ub, 0, none⟩) hub).trans cub
  go_wp2_with fail
  go_loopw [29] (fun i wr => CopyLoop us b[kf].msgs (tt, rk) kt b[kt].validity S w G B 49 66 41 i wr) (fun i _ => us.length - (intOf i).toNat)
  case atStart => exact ⟨0, (⟨b.map PBox.box, l, gv⟩ : DStore), b[kt].next, Nat.zero_le _, rfl, Lib.hid (HST0.out.ext hw3), HGD, HCUR, HTT⟩
  case round =>
    obtain ⟨k, cur, x, hk, rfl, HST, HG, HCA, HC⟩ := hrel
    by_cases hlt : k < us.length
    · obtain ⟨ga1, q1, zs1, la1, lc1, hs1, hd3, hch1, hr1⟩ := HST.out
      obtain ⟨sb1, l1, gv1⟩ := cur
      dsimp only at hs1 hd3 hr1
      subst hd3
      have HSB := Lib.hid hs1
      have HCH := Lib.hid hch1
      have HRW := Lib.hid hr1
      obtain ⟨hkt2, hcv, hcx⟩ := HCA.out
      have hktz : kt < zs1.length := by simpa using hkt2
      have HCV : Hid (zs1[kt].validity = b[kt].validity) := Lib.hid (by simpa [PBox.box] using hcv)
      have HCX : Hid (zs1[kt].next = x) := Lib.hid (by simpa [PBox.box] using hcx)
      have hGr : G < wr.heap.size := hs1.lt
      have c0 := hs1.c0
      have hwr : w.heap.size ≤ wr.heap.size := hch1.size
      have hXr : X.heap.size ≤ wr.heap.size := Nat.le_trans HX2.out.size hwr
      have HXC : Hid (∀ x o, x < X.heap.size → wr.cell? ⟨x, o, none⟩ = X.cell? ⟨x, o, none⟩) := Lib.hid (fun x o hx => (hch1.cell (HKS.out x hx).2 (HKS.out x hx).1).trans (HX2.out.cell (p := ⟨x, o, none⟩) hx))
      have HRb := Lib.hid (HR.out.same hXr HXC.out)
      have HBWR : Hid (B ≤ wr.heap.size) := Lib.hid (Nat.le_trans HBW.out hwr)
      have HMXR : Hid (MaxLen wr) := Lib.hid (by
        obtain ⟨mx, h1, h2⟩ := HM0.out
        exact ⟨mx, (HXC.out 0 0 h2).trans h1, Nat.lt_of_lt_of_le h2 hXr⟩)
      obtain ⟨ub2, uo, rfl, hub2, hatu⟩ := (HRU.out.same hXr HXC.out).ptr (by omega)
      have cu := intCells_at hatu k hlt
      obtain ⟨bb, bo, rfl, hbb, hat⟩ := HRb.out.ptr (by omega)
      obtain ⟨x0, x1, x2, x3⟩ := PBox.at hat kf hkf1
      have ksb : wr.cell? ⟨sb, 0, none⟩ = some (.slice (some ⟨bb, bo, none⟩) b.length bc) := (HXC.out sb 0 hsb).trans csb
      have hsbr : sb < wr.heap.size := Nat.lt_of_lt_of_le hsb hXr
      obtain ⟨gb, go, rfl, hgb, hatz⟩ := hs1.own.box.rd.ptr (by omega)
      obtain ⟨y0, y1, y2, y3⟩ := PBox.at hatz kt hktz
      have HRM := Lib.hid ((HM.out _ (List.getElem_mem hkf1)).same hXr HXC.out)
      have i1 : (kf : Int) < (b.length : Int) := by omega
      have i2 : (kt : Int) < (zs1.length : Int) := by omega
      have hk1 : (k : Int) < (us.length : Int) := by omega
      obtain ⟨z3, hz3⟩ : ∃ z, placeOf us[k] b[kf].msgs = z := ⟨_, rfl⟩
      have HZ3 := Lib.hid hz3
      clear hat hatu hatz hs1 hch1 hr1 hz3 hcv hcx hkt2
      by_cases hz0 : z3 < 0
      · have hd0 : decide (z3 < 0) = true := decide_eq_true hz0
        have HZ0 := Lib.hid hz0
        clear hz0
        go_wp2_with ((go_at_call 44; refine (implPlaceOf_any b[kf].name b[kf].validity b[kf].next b[kf].msgs _ _ us[k] _ (HRM.out.ext bxt) z3 HZ3).mono ?_; rintro e w4 ⟨rfl, hb4⟩))
        go_roundw
        case rel => exact ⟨k + 1, ⟨zs1.map PBox.box, l1, gv1⟩, x, by omega, by go_num, Lib.hid (HST.out.ext bxt), HG, HCA, Lib.hid (by have h := HC.out; rw [drop_cons us k hlt, hits_miss (by rw [HZ3.out]; exact HZ0.out)] at h; exact h)⟩
        case measure => simp [intOf]; omega
      have hd0 : decide (z3 < 0) = false := decide_eq_false hz0
      have hzl : z3 < (b[kf].msgs.length : Int) := by
        have h := (firstI_range (fun m : DMsg => decide (m.uid = us[k])) b[kf].msgs).2
        rw [← HZ3.out]
        exact h
      obtain ⟨j, hj⟩ : ∃ j : Nat, z3 = j := ⟨z3.toNat, by omega⟩
      subst hj
      have hjl : j < b[kf].msgs.length := by omega
      have j1 : (j : Int) < (b[kf].msgs.length : Int) := by omega
      obtain ⟨mb, mo, hma, hmb, hatm⟩ := HRM.out.ptr (by omega)
      have HRM2 := HRM.out
      rw [hma] at x3 HRM2
      have HRM := Lib.hid HRM2
      obtain ⟨m0, m1, m2⟩ := DMsg.at hatm j hjl
      have hmt : b[kf].msgs[j].text.size ≤ 9223372036854775807 := HGD.out.1.2.2.2 b[kf].box (List.mem_map_of_mem (List.getElem_mem hkf1)) _ (List.getElem_mem hjl)
      have HMT := Lib.hid hmt
      have HGN1 := Lib.hid (good_to HG.out.1).2.2.1
      have HGT1 := Lib.hid (good_to HG.out.1).2.2.2
      obtain ⟨r, hr⟩ := boolOf (ComP ⟨zs1.map PBox.box, l1, gv1⟩ (⟨4, zs1[kt].validity, zs1[kt].next, b[kf].msgs[j].flags, ⟨#[]⟩, b[kf].msgs[j].text⟩ : DCommit))
      obtain ⟨rs6, hrs6⟩ : ∃ x, (if r then comD ⟨zs1.map PBox.box, l1, gv1⟩ (⟨4, zs1[kt].validity, zs1[kt].next, b[kf].msgs[j].flags, ⟨#[]⟩, b[kf].msgs[j].text⟩ : DCommit) else ⟨zs1.map PBox.box, l1, gv1⟩) = x := ⟨_, rfl⟩
      have HCT : Hid (CmtRel ⟨zs1.map PBox.box, l1, gv1⟩ (⟨4, zs1[kt].validity, zs1[kt].next, b[kf].msgs[j].flags, ⟨#[]⟩, b[kf].msgs[j].text⟩ : DCommit) rs6 r) := Lib.hid ⟨hr, hrs6⟩
      have HCC : Hid ((if r then cmtAll rs6 (cpLog b[kt].validity (x + 1) (hitsOf b[kf].msgs (us.drop (k + 1)))) else (⟨zs1.map PBox.box, l1, gv1⟩, false)) = (tt, rk)) := Lib.hid (by
        have h := HC.out
        rw [drop_cons us k hlt, hits_hit hjl HZ3.out, cpLog, ← HCV.out, ← HCX.out, cmtAll_cons _ _ _ hr] at h
        rw [← h, ← hrs6, ← HCV.out, ← HCX.out]
        cases r <;> rfl)
      clear hzl hatm HRM2 hmt hz0 hma hr hrs6
      cases r with
      | true =>
        have HCA2 : Hid (CurAt rs6 kt b[kt].validity (x + 1)) := Lib.hid (by
          have hcp := HCT.out.1.1 rfl
          have hrs : comD ⟨zs1.map PBox.box, l1, gv1⟩ (⟨4, zs1[kt].validity, zs1[kt].next, b[kf].msgs[j].flags, ⟨#[]⟩, b[kf].msgs[j].text⟩ : DCommit) = rs6 := HCT.out.2
          obtain ⟨h3, h4, h5, -⟩ := put_next (i := kt) (by simpa using hktz) (by simp [PBox.box]) hcp
          rw [← hrs]
          exact ⟨h3, h4.trans HCV.out, h5.trans (by rw [HCX.out])⟩)
        go_wp2_with ((go_at_call 44; refine (implPlaceOf_any b[kf].name b[kf].validity b[kf].next b[kf].msgs (some ⟨mb, mo, none⟩) _ us[k] _ (HRM.out.ext bxt) (j : Int) HZ3).mono ?_; rintro e w4 ⟨rfl, hb4⟩; have hx4 : Below wr.heap.size wr w4 := bxt; have n0 := (hx4.cell (p := ⟨mb, mo + j * 3, none⟩) hmb).trans m0; have n1 := (hx4.cell (p := ⟨mb, mo + j * 3 + 1, none⟩) hmb).trans m1; have n2 := (hx4.cell (p := ⟨mb, mo + j * 3 + 2, none⟩) hmb).trans m2; have ksb4 := (hx4.cell (p := ⟨sb, 0, none⟩) hsbr).trans ksb; have x34 := (hx4.cell (p := ⟨bb, bo + kf * 4 + 3, none⟩) hbb).trans x3; have c04 := (hx4.cell (p := ⟨G, 0, none⟩) hGr).trans c0; have y04 := (hx4.cell (p := ⟨gb, go + kt * 4, none⟩) hgb).trans y0; have y14 := (hx4.cell (p := ⟨gb, go + kt * 4 + 1, none⟩) hgb).trans y1; have y24 := (hx4.cell (p := ⟨gb, go + kt * 4 + 2, none⟩) hgb).trans y2; have y34 := (hx4.cell (p := ⟨gb, go + kt * 4 + 3, none⟩) hgb).trans y3; have sG4 : G < w4.heap.size := Nat.lt_of_lt_of_le hGr hx4.size; have sg4 : gb < w4.heap.size := Nat.lt_of_lt_of_le hgb hx4.size))
        first
        | go_region_law (go_simp; go_at_call 100; refine (append2_any zs1 (some ⟨gb, go, none⟩) q1 l1 la1 lc1 gv1 G B zs1[kt].name zs1[kt].validity zs1[kt].next zs1[kt].ma zs1[kt].msgs.length zs1[kt].mc b[kf].msgs[j].flags b[kf].msgs[j].text _ (Lib.hid (StB.ext HSB.out (Below.ext hx4 (show Ext w4 _ from bxt)))) (Nat.le_trans HBWR.out (Below.ext hx4 (show Ext w4 _ from bxt)).size) (HMXR.out.ext (Below.ext hx4 (show Ext w4 _ from bxt))) HGN1.out HGT1.out HMT.out rs6 true HCT).mono ?_; rintro e w6 ⟨rfl, hst6⟩; have HST6 := Lib.hid (StTo.step HCH.out HRW.out HSG.out (Below.ext hx4 (show Ext w4 _ from bxt)) hst6); clear hst6)
        | fail
        all_goals
          go_wp2_with fail
          go_roundw
          case rel => exact ⟨k + 1, rs6, x + 1, by omega, by go_num, HST6, Lib.hid (good_cmt HCT.out HG.out (Nat.zero_le _) HMT.out), HCA2, HCC⟩
          case measure => simp [intOf]; omega
      | false =>
        obtain rfl : (⟨zs1.map PBox.box, l1, gv1⟩ : DStore) = rs6 := HCT.out.2
        obtain ⟨rfl, rfl⟩ : (⟨zs1.map PBox.box, l1, gv1⟩ : DStore) = tt ∧ false = rk := Prod.mk.inj HCC.out
        go_wp2_with ((go_at_call 44; refine (implPlaceOf_any b[kf].name b[kf].validity b[kf].next b[kf].msgs (some ⟨mb, mo, none⟩) _ us[k] _ (HRM.out.ext bxt) (j : Int) HZ3).mono ?_; rintro e w4 ⟨rfl, hb4⟩; have hx4 : Below wr.heap.size wr w4 := bxt; have n0 := (hx4.cell (p := ⟨mb, mo + j * 3, none⟩) hmb).trans m0; have n1 := (hx4.cell (p := ⟨mb, mo + j * 3 + 1, none⟩) hmb).trans m1; have n2 := (hx4.cell (p := ⟨mb, mo + j * 3 + 2, none⟩) hmb).trans m2; have ksb4 := (hx4.cell (p := ⟨sb, 0, none⟩) hsbr).trans ksb; have x34 := (hx4.cell (p := ⟨bb, bo + kf * 4 + 3, none⟩) hbb).trans x3; have c04 := (hx4.cell (p := ⟨G, 0, none⟩) hGr).trans c0; have y04 := (hx4.cell (p := ⟨gb, go + kt * 4, none⟩) hgb).trans y0; have y14 := (hx4.cell (p := ⟨gb, go + kt * 4 + 1, none⟩) hgb).trans y1; have y24 := (hx4.cell (p := ⟨gb, go + kt * 4 + 2, none⟩) hgb).trans y2; have y34 := (hx4.cell (p := ⟨gb, go + kt * 4 + 3, none⟩) hgb).trans y3; have sG4 : G < w4.heap.size := Nat.lt_of_lt_of_le hGr hx4.size; have sg4 : gb < w4.heap.size := Nat.lt_of_lt_of_le hgb hx4.size))
        first
        | go_region_law (go_simp; go_at_call 100; refine (append2_any zs1 (some ⟨gb, go, none⟩) q1 l1 la1 lc1 gv1 G B zs1[kt].name zs1[kt].validity zs1[kt].next zs1[kt].ma zs1[kt].msgs.length zs1[kt].mc b[kf].msgs[j].flags b[kf].msgs[j].text _ (Lib.hid (StB.ext HSB.out (Below.ext hx4 (show Ext w4 _ from bxt)))) (Nat.le_trans HBWR.out (Below.ext hx4 (show Ext w4 _ from bxt)).size) (HMXR.out.ext (Below.ext hx4 (show Ext w4 _ from bxt))) HGN1.out HGT1.out HMT.out _ false HCT).mono ?_; rintro e w6 ⟨rfl, hst6⟩; have HST6 := Lib.hid (StTo.step HCH.out HRW.out HSG.out (Below.ext hx4 (show Ext w4 _ from bxt)) hst6); clear hst6)
        | fail
        all_goals go_wp2_with fail
        all_goals go_ret
        all_goals exact ⟨⟨zs1.map PBox.box, l1, gv1⟩, 2, rfl, HST6.out, by rw [HB.out]; rfl⟩
    · have hkk : k = us.length := by omega
      have h5 := HC.out
      rw [hkk, List.drop_length, hitsOf, cpLog, cmtAll] at h5
      obtain ⟨rfl, rfl⟩ := Prod.mk.inj h5
      clear h5
      have HKK := Lib.hid hkk
      clear hkk
      go_wp2_with fail
      go_ret
      exact ⟨cur, 0, rfl, HST.out, by rw [HB.out]; rfl⟩
end Go.Proofs.YtjcnhkmhcfmoeaaGreat
