/-
  The law FnPutMsg: its walk.
-/
import Derived.Test.YtjcnhkmhcfmoeaaGreatDraw15
import Derived.Test.YtjcnhkmhcfmoeaaGreatXPut
import Derived.Test.YtjcnhkmhcfmoeaaGreatWBoxIdx
import Derived.Test.YtjcnhkmhcfmoeaaGreatXSq
import Derived.Test.YtjcnhkmhcfmoeaaGreatXDr
import Derived.Deep.RegionHeld3
import Derived.BigQuiet
namespace Go.Proofs.YtjcnhkmhcfmoeaaGreat
open Go.RowKit
set_option linter.unusedVariables false
set_option linter.unusedSimpArgs false

theorem implPutMsg_sq (zs : List PBox) (ba : Option Addr) (bc : Nat) (lg : List DCommit) (la : Option Addr) (lc : Nat) (gv : Int) (n : ByteArray) (f : Int) (t : ByteArray) (w : World) (h : Sq w ba bc zs la lc lg) (hn : n.size ≤ 100) (ht : t.size ≤ 100) (hm : MaxLen w) (rs : DStore) (rok : Int) (H : Hid (putD ⟨zs.map PBox.box, lg, gv⟩ n f t = (rs, rok))) : Calls Tryz.prog 36 #[.agg #[.slice ba zs.length bc, .slice la lg.length lc, .int .i64 gv], .string n, .int .i64 f, .string t] w (fun e w' => ∃ g q z2 g2 q2, e = .returned (.tuple #[.agg #[.slice g z2.length q, .slice g2 rs.log.length q2, .int .i64 rs.given], .int .i64 rok]) ∧ OwnSt w' w.heap.size 49 66 41 g q z2 g2 q2 rs.log ∧ z2.map PBox.box = rs.boxes ∧ Ext w w') :=
  implPutMsg_law zs ba bc lg la lc gv n f t w h.rd h.rdm h.rl (by have := h.len; omega) (fun y hy => by have := (h.sm y hy).2.1; omega) (by have := h.ll; omega) (fun y hy => by have := (h.sm y hy).1; omega) (fun y hy t ht => by have := (h.sm y hy).2.2 t ht; omega) (fun y hy => by have := h.sl y hy; exact ⟨by omega, by omega⟩) (by omega) (by omega) hm rs rok H
theorem specPutMsg_sq (zs : List PBox) (ba : Option Addr) (bc : Nat) (lg : List DCommit) (la : Option Addr) (lc : Nat) (gv : Int) (n : ByteArray) (f : Int) (t : ByteArray) (w : World) (h : Sq w ba bc zs la lc lg) (hn : n.size ≤ 100) (ht : t.size ≤ 100) (rs : DStore) (rok : Int) (H : Hid (putD ⟨zs.map PBox.box, lg, gv⟩ n f t = (rs, rok))) : Calls Tryz.prog 37 #[.agg #[.slice ba zs.length bc, .slice la lg.length lc, .int .i64 gv], .string n, .int .i64 f, .string t] w (fun e w' => ∃ g q z2 g2 q2, e = .returned (.tuple #[.agg #[.slice g z2.length q, .slice g2 rs.log.length q2, .int .i64 rs.given], .int .i64 rok]) ∧ OwnSt w' w.heap.size 49 66 41 g q z2 g2 q2 rs.log ∧ z2.map PBox.box = rs.boxes ∧ Ext w w') :=
  specPutMsg_law zs ba bc lg la lc gv n f t w h.rd h.rdm h.rl (by have := h.len; omega) (fun y hy => by have := (h.sm y hy).2.1; omega) (by have := h.ll; omega) (fun y hy => by have := (h.sm y hy).1; omega) (fun y hy t ht => by have := (h.sm y hy).2.2 t ht; omega) (fun y hy => by have := h.sl y hy; exact ⟨by omega, by omega⟩) (by omega) (by omega) rs rok H
def CutM (m : DMsg) (W : World) (v : Value) (wx : World) : Prop := ∃ β, v = .pointer (some ⟨β, 0, none⟩) ∧ β < wx.heap.size ∧ At wx β 0 m.cells ∧ Ext W wx
theorem sMkM {W w : World} (h3 : Below W.heap.size W w) : Below W.heap.size W w ∧ (∀ b o, b < W.heap.size → w.cell? ⟨b, o, none⟩ = W.cell? ⟨b, o, none⟩) := ⟨h3, (bcell h3).1⟩
set_option maxRecDepth 100000 in
set_option maxHeartbeats 16000000 in
theorem fnPutMsg_walk (l : List Int) (a : Option Addr) (c : Nat) (w : World) : MaxLen w → Rd w a c 1 l.length (l.flatMap byteCells) → (∀ y ∈ l, 0 ≤ y ∧ y ≤ 255) →
    Calls Tryz.prog 7 #[.slice a l.length c] w fun e w' => e = .returned (.bool true) ∧ Below w.heap.size w w' := by
  intro hmx R hb
  have hln : l.length ≤ 9223372036854775807 := Nat.le_trans R.nc R.cm
  have HMX := Lib.hid hmx
  have HR := Lib.hid R
  have HB := Lib.hid hb
  clear R hb hmx
  obtain ⟨d, hd⟩ := boolOf (1048576 < l.length)
  have HDB := Lib.hid hd
  clear hd
  go_enter Tryz.func7, Tryz.ntmps7
  go_wp2_with fail
  refine (big_any l.length a c _ hln d HDB).mono ?_
  rintro e w1 ⟨rfl, rfl⟩
  cases d
  rotate_left
  · go_wp2_with fail
    go_ret
    exact ⟨rfl, bxt⟩
  have hl : l.length ≤ 1048576 := by have := no_of HDB.out; omega
  go_wp2_with fail
  refine (drawPutMsg_any l a c _ (HR.out.ext bxt) HB.out hl).mono ?_
  rintro e w1 ⟨ba, bc, zs, la, lc, lg, gv, n, f, t, hn, ht, hzl, hsm, hll, hsl, rfl, ho, hb1⟩
  have HS := Lib.hid (ho.sq hzl hsm hll hsl)
  clear ho hsm hsl
  have hzz1 := hb1.size; (try simp at hzz1)
  obtain ⟨hc1, hf1⟩ := bcell hb1
  obtain ⟨rs, rok, hrel⟩ : ∃ rs rok, putD ⟨zs.map PBox.box, lg, gv⟩ n f t = (rs, rok) := ⟨_, _, rfl⟩
  have hor : rs = ⟨zs.map PBox.box, lg, gv⟩ ∨ StoreP rs := by (by_cases h0 : rok = 0; (subst h0; exact Or.inr ((fun h => (put_zero h).1) hrel)); exact Or.inl (put_ref hrel h0))
  have HOR := Lib.hid hor
  have HREL := Lib.hid hrel
  clear hrel hor
  go_wp2_with fail
  refine (implPutMsg_sq zs ba bc lg la lc gv n f t _ (HS.out.ext bxt) (by omega) (by omega) (HMX.out.ext bxt) rs rok HREL).mono ?_
  rintro e w2 ⟨g2, q2, z2, a2, d2, rfl, ho2, hz2, hb2⟩
  have HS2 := Lib.hid (ho2.sq hz2 HS.out HOR.out)
  have HZ2 := Lib.hid hz2
  clear ho2 hz2
  have hzz2 := hb2.size; (try simp at hzz2)
  obtain ⟨hc2, hf2⟩ := bcell hb2
  have hs2_0 : w1.heap.size < w2.heap.size := by (have hss := hb2.size; first | omega | (simp at hss <;> omega))
  go_wp2_with fail
  refine (specPutMsg_sq zs ba bc lg la lc gv n f t _ (HS.out.ext bxt) (by omega) (by omega) rs rok HREL).mono ?_
  rintro e w3 ⟨g3, q3, z3, a3, d3, rfl, ho3, hz3, hb3⟩
  have HS3 := Lib.hid (ho3.sq hz3 HS.out HOR.out)
  have HZ3 := Lib.hid hz3
  clear ho3 hz3
  have hzz3 := hb3.size; (try simp at hzz3)
  obtain ⟨hc3, hf3⟩ := bcell hb3
  have hs3_0 : w1.heap.size < w3.heap.size := by (have hss := hb3.size; first | omega | (simp at hss <;> omega))
  have hs3_1 : w2.heap.size < w3.heap.size := by (have hss := hb3.size; first | omega | (simp at hss <;> omega))
  have hdd : (rok != rok) = false := by simp
  by_cases h0 : rok = 0
  rotate_left
  · skip
    have e0 : (rok != 0) = true := by simpa using h0
    have HRS := Lib.hid (show rs = ⟨zs.map PBox.box, lg, gv⟩ from put_ref HREL.out h0)
    clear h0
    go_wp2_with fail
    refine (specSameStore_sq z2 g2 q2 rs.log a2 d2 rs.given zs ba bc lg la lc gv _ (HS2.out.ext bxt) (HS.out.ext bxt) true (Lib.hid (by simp [HZ2.out, HRS.out]))).mono ?_
    rintro e w4 ⟨rfl, hb4⟩
    have hzz4 := hb4.size; (try simp at hzz4)
    obtain ⟨hc4, hf4⟩ := bcell hb4
    have hs4_0 : w1.heap.size < w4.heap.size := by (have hss := hb4.size; first | omega | (simp at hss <;> omega))
    have hs4_1 : w2.heap.size < w4.heap.size := by (have hss := hb4.size; first | omega | (simp at hss <;> omega))
    go_wp2_with fail
    go_ret
    exact ⟨rfl, bxt⟩
  subst h0
  obtain ⟨hsp, k, hk, hkn, hkn2, hbx⟩ := put_zero HREL.out
  have hkz : k < zs.length := by simpa using hk
  have hkl : k < z2.length := by (have h := congrArg List.length (HZ2.out.trans hbx); simp at h; omega)
  have hbz : z2[k].box = ⟨zs[k].name, zs[k].validity, zs[k].next + 1, zs[k].msgs ++ [⟨zs[k].next, f, t⟩]⟩ := by (have h : (z2.map PBox.box)[k]'(by simpa using hkl) = ⟨zs[k].name, zs[k].validity, zs[k].next + 1, zs[k].msgs ++ [⟨zs[k].next, f, t⟩]⟩ := (by simp only [HZ2.out.trans hbx, List.getElem_set_self]; simp [PBox.box]); simpa using h)
  have hms : z2[k].msgs = zs[k].msgs ++ [⟨zs[k].next, f, t⟩] := congrArg DBox.msgs hbz
  have hml : z2[k].msgs.length = zs[k].msgs.length + 1 := by rw [hms]; simp
  have hmL : z2[k].msgs.length ≤ 6 := (HS2.out.sm _ (List.getElem_mem hkl)).2.1
  have hbn : boxNamed n (z2.map PBox.box) = (k : Int) := by rw [HZ2.out]; exact hkn2
  have HSP := Lib.hid hsp
  have HBN := Lib.hid hbn
  have HMS := Lib.hid hms
  have hmp : 0 < z2[k].msgs.length := by omega
  clear hsp hkn hkn2 hbx hk hbz hms hbn hml
  go_wp2_with fail
  refine (specBoxNamed_any z2 g2 q2 n _ (HS2.out.rd.ext bxt) (k : Int) HBN).mono ?_
  rintro e w5 ⟨rfl, hw5⟩
  have hb5 := same_ext hw5
  clear hw5
  have hzz5 := hb5.size; (try simp at hzz5)
  obtain ⟨hc5, hf5⟩ := bcell hb5
  have hs5_0 : w1.heap.size < w5.heap.size := by (have hss := hb5.size; first | omega | (simp at hss <;> omega))
  have hs5_1 : w2.heap.size < w5.heap.size := by (have hss := hb5.size; first | omega | (simp at hss <;> omega))
  have hs5_2 : w3.heap.size < w5.heap.size := by (have hss := hb5.size; first | omega | (simp at hss <;> omega))
  obtain ⟨b2, o2, rfl, hbb2, hat2⟩ := HS2.out.rd.ptr (by omega)
  have hE25 : Hid (Ext w2 w5) := bxt
  have HAT2 := Lib.hid (hat2.ext hbb2 hE25.out)
  have hbw2 : b2 < w5.heap.size := Nat.lt_of_lt_of_le hbb2 hE25.out.size
  clear hat2
  obtain ⟨y0, y1, y2, y3⟩ := PBox.at HAT2.out k hkl
  have k0 : decide ((k : Int) < 0) = false := decide_eq_false (by omega)
  have k1 : (0 : Int) ≤ (k : Int) := by omega
  have k2 : (k : Int) < (z2.length : Int) := by omega
  have m0 : ((z2[k].msgs.length : Int) == 0) = false := beq_eq_false_iff_ne.2 (by omega)
  have m1 : (z2[k].msgs.length == 0) = false := beq_eq_false_iff_ne.2 (by omega)
  go_wp2_with fail
  refine (specStoreOk_sq z2 _ q2 rs.log a2 d2 rs.given _ (HS2.out.ext bxt) true (Lib.hid (⟨fun _ => (by rw [HZ2.out]; exact HSP.out), fun _ => rfl⟩))).mono ?_
  rintro e w6 ⟨rfl, hb6⟩
  have hzz6 := hb6.size; (try simp at hzz6)
  obtain ⟨hc6, hf6⟩ := bcell hb6
  have hs6_0 : w1.heap.size < w6.heap.size := by (have hss := hb6.size; first | omega | (simp at hss <;> omega))
  have hs6_1 : w2.heap.size < w6.heap.size := by (have hss := hb6.size; first | omega | (simp at hss <;> omega))
  have hs6_2 : w3.heap.size < w6.heap.size := by (have hss := hb6.size; first | omega | (simp at hss <;> omega))
  have hbx2 : b2 < w6.heap.size := Nat.lt_of_lt_of_le hbw2 hb6.size
  clear y0 y1 y2 y3
  obtain ⟨y0, y1, y2, y3⟩ := PBox.at (HAT2.out.ext hbw2 hb6) k hkl
  obtain ⟨bm, om, hma, hbbm, hatm⟩ := (HS2.out.rdm _ (List.getElem_mem hkl)).ptr (by omega)
  rw [hma] at y3
  have hE26 : Hid (Ext w2 w6) := bxt
  have hbmw : bm < w6.heap.size := Nat.lt_of_lt_of_le hbbm hE26.out.size
  obtain ⟨p, hpe⟩ : ∃ p, zs[k].msgs.length = p := ⟨_, rfl⟩
  have hp : z2[k].msgs.length = p + 1 := by rw [HMS.out, ← hpe]; simp
  rw [hp] at y3
  have hlt : p < z2[k].msgs.length := by omega
  obtain ⟨x0, x1, x2⟩ := DMsg.at (hatm.ext hbbm hE26.out) p hlt
  have hlast : z2[k].msgs[p] = ⟨zs[k].next, f, t⟩ := by (subst hpe; simp only [HMS.out]; simp)
  rw [hlast] at x0 x1 x2
  have p6 : p ≤ 5 := by omega
  clear hp hpe hlast
  have p0 : (0 : Int) ≤ (p : Int) := by omega
  have p1 : (p : Int) < (p : Int) + 1 := by omega
  have hwi : IntKind.i64.wrap ((p : Int) + 1 - 1) = (p : Int) := by (rw [IntWalk.i64_in _ (by omega)]; omega)
  have hwj : (p : Int) + 1 - 1 = (p : Int) := by omega
  have hwk : IntKind.i64.wrap (p : Int) = (p : Int) := IntWalk.i64_in _ (by omega)
  clear hatm hma
  obtain ⟨bs, os, rfl, hbs, hats⟩ := HS.out.rd.ptr (by omega)
  have cS06 : w6.cell? ⟨w1.heap.size, 0, none⟩ = some (.slice (some ⟨bs, os, none⟩) zs.length bc) := kpx
  have cX06 : w6.cell? ⟨w2.heap.size, 0, none⟩ = some (.slice (some ⟨b2, o2, none⟩) z2.length q2) := kpx
  have HATS0 := Lib.hid hats
  clear hats
  go_wp2_with fail
  clear hc6 hf6 hc5 hf5 hc3 hf3 hc2 hf2
  go_cut [12] (fun u wx => CutM (⟨zs[k].next, f, t⟩ : DMsg) w6 u wx)
  case first =>
    first
    | go_region_held3 (fun w' => Below w6.heap.size w6 w' ∧ (∀ b o, b < w6.heap.size → w'.cell? ⟨b, o, none⟩ = w6.cell? ⟨b, o, none⟩)) (first | with_reducible exact sBeg _ | with_reducible exact sExt (by assumption) (by assumption) | (refine sMkM ?_; exact bxt)) (fail)
    | fail
    all_goals go_wp2_with fail
    all_goals go_meet
    all_goals refine ⟨_, rfl, smx, at_cons (by simp [go_sem, *]) (at_cons (by simp [go_sem, *]) (at_cons (by simp [go_sem, *]) at_nil)), ?_⟩
    all_goals exact bxt
  case rest =>
    obtain ⟨wx, hwx⟩ : ∃ x, x = wc := ⟨_, rfl⟩
    subst hwx
    obtain ⟨β, rfl, hβ, hatb, hx⟩ := hcut
    clear x0 x1 x2 y0 y1 y2 y3
    have hE1 : Hid (Ext w1 wx) := bxt
    have HATS := Lib.hid (HATS0.out.ext hbs hE1.out)
    have hbsw : bs < wx.heap.size := Nat.lt_of_lt_of_le hbs hE1.out.size
    have hLS : w1.heap.size < wx.heap.size := Nat.lt_of_lt_of_le hs6_0 hx.size
    have cS0 : wx.cell? ⟨w1.heap.size, 0, none⟩ = some (.slice (some ⟨bs, os, none⟩) zs.length bc) := (hx.cell (p := ⟨w1.heap.size, 0, none⟩) hs6_0).trans cS06
    have k4 : (k : Int) < (zs.length : Int) := by omega
    have HATB := Lib.hid hatb
    clear hatb
    have qM0 := fun y : ExtW wx => (y.h.cell (p := ⟨β, 0, none⟩) hβ).trans (show wx.cell? ⟨β, 0, none⟩ = some _ from by simpa using HATB.out 0 _ rfl)
    have qM1 := fun y : ExtW wx => (y.h.cell (p := ⟨β, 1, none⟩) hβ).trans (show wx.cell? ⟨β, 1, none⟩ = some _ from by simpa using HATB.out 1 _ rfl)
    have qM2 := fun y : ExtW wx => (y.h.cell (p := ⟨β, 2, none⟩) hβ).trans (show wx.cell? ⟨β, 2, none⟩ = some _ from by simpa using HATB.out 2 _ rfl)
    have qcS0 := fun y : ExtW wx => (y.h.cell (p := ⟨w1.heap.size, 0, none⟩) hLS).trans cS0
    have qrS2 := fun y : ExtW wx => (PBox.at (HATS.out.ext hbsw y.h) k hkz).2.2.1
    go_wp2_with fail
    refine wp_region_ext (by kernel_rfl) (by kernel_rfl) ?_
    repeat (go_big_quiet_step (fail))
    refine wpQuiet_nil ?_
    rintro wq ⟨⟨wqx, hwq⟩, hxwq⟩
    have hywq : wq = wqx := hxwq
    subst hywq
    clear hxwq
    clear qM0 qM1 qM2 qcS0 qrS2
    go_wp2_with fail
    go_ret
    exact ⟨rfl, bxt⟩
end Go.Proofs.YtjcnhkmhcfmoeaaGreat
