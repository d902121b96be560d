/-
  The law FnCommitted: its walk.
-/
import Derived.Test.YtjcnhkmhcfmoeaaGreatDraw14
import Derived.Test.YtjcnhkmhcfmoeaaGreatWCommitted
import Derived.Test.YtjcnhkmhcfmoeaaGreatWComS
import Derived.Test.YtjcnhkmhcfmoeaaGreatWBoxesAt
import Derived.Test.YtjcnhkmhcfmoeaaGreatWStoreOkI
import Derived.Test.YtjcnhkmhcfmoeaaGreatWSameBoxes
import Derived.Test.YtjcnhkmhcfmoeaaGreatXSq
import Derived.Test.YtjcnhkmhcfmoeaaGreatXDr
import Derived.Deep.RegionHeld3
import Derived.BigQuiet
namespace Go.Proofs.YtjcnhkmhcfmoeaaGreat
open Go.RowKit
set_option linter.unusedVariables false
set_option linter.unusedSimpArgs false

theorem implCommitted_sq (zs : List PBox) (ba : Option Addr) (bc : Nat) (lg : List DCommit) (la : Option Addr) (lc : Nat) (gv : Int) (m : DCommit) (w : World) (h : Sq w ba bc zs la lc lg) (g1 : m.name.size ≤ 41) (g2 : m.text.size ≤ 41) (hm : MaxLen w) (rs : DStore) (rok : Bool) (H : Hid (CmtRel ⟨zs.map PBox.box, lg, gv⟩ m rs rok)) : Calls Tryz.prog 25 #[.agg #[.slice ba zs.length bc, .slice la lg.length lc, .int .i64 gv], .agg #[.int .i64 m.kind, .int .i64 m.validity, .int .i64 m.uid, .int .i64 m.flags, .string m.name, .string m.text]] w (fun e w' => ∃ g q z2 g2 q2, e = .returned (.tuple #[.agg #[.slice g z2.length q, .slice g2 rs.log.length q2, .int .i64 rs.given], .bool rok]) ∧ OwnSt w' w.heap.size 49 66 41 g q z2 g2 q2 rs.log ∧ z2.map PBox.box = rs.boxes ∧ Ext w w') :=
  implCommitted_law zs ba bc lg la lc gv m w h.rd h.rdm h.rl (by have := h.len; omega) (fun y hy => by have := (h.sm y hy).2.1; omega) (by have := h.ll; omega) (fun y hy => by have := (h.sm y hy).1; omega) (fun y hy t ht => by have := (h.sm y hy).2.2 t ht; omega) (by omega) (by omega) hm rs rok H
theorem specCommitted_sq (zs : List PBox) (ba : Option Addr) (bc : Nat) (lg : List DCommit) (la : Option Addr) (lc : Nat) (gv : Int) (m : DCommit) (w : World) (h : Sq w ba bc zs la lc lg) (g1 : m.name.size ≤ 41) (g2 : m.text.size ≤ 41) (rs : DStore) (rok : Bool) (H : Hid (CmtRel ⟨zs.map PBox.box, lg, gv⟩ m rs rok)) : Calls Tryz.prog 26 #[.agg #[.slice ba zs.length bc, .slice la lg.length lc, .int .i64 gv], .agg #[.int .i64 m.kind, .int .i64 m.validity, .int .i64 m.uid, .int .i64 m.flags, .string m.name, .string m.text]] w (fun e w' => ∃ g q z2 g2 q2, e = .returned (.tuple #[.agg #[.slice g z2.length q, .slice g2 rs.log.length q2, .int .i64 rs.given], .bool rok]) ∧ OwnSt w' w.heap.size 49 66 41 g q z2 g2 q2 rs.log ∧ z2.map PBox.box = rs.boxes ∧ Ext w w') :=
  specCommitted_law zs ba bc lg la lc gv m w h.rd h.rdm h.rl (by have := h.len; omega) (fun y hy => by have := (h.sm y hy).2.1; omega) (by have := h.ll; omega) (fun y hy => by have := (h.sm y hy).1; omega) (fun y hy t ht => by have := (h.sm y hy).2.2 t ht; omega) (by omega) (by omega) rs rok H
theorem implStoreOk_sq (zs : List PBox) (ba : Option Addr) (bc : Nat) (lg : List DCommit) (la : Option Addr) (lc : Nat) (gv : Int) (w : World) (h : Sq w ba bc zs la lc lg) (hm : MaxLen w) (r : Bool) (Hr : Hid (Tells r (StoreP ⟨zs.map PBox.box, lg, gv⟩))) : Calls Tryz.prog 18 #[.agg #[.slice ba zs.length bc, .slice la lg.length lc, .int .i64 gv]] w fun e w' => e = .returned (.bool r) ∧ Ext w w' :=
  implStoreOk_any zs ba bc lg la lc gv w h.rd h.rdm h.rl (by have := h.len; omega) (fun y hy => by have := (h.sm y hy).2.1; omega) (by have := h.ll; omega) (fun y hy => by have := (h.sm y hy).1; omega) (fun y hy t ht => by have := (h.sm y hy).2.2 t ht; omega) (fun y hy => by have := h.sl y hy; exact ⟨by omega, by omega⟩) hm r Hr
theorem implBoxesAt_sq (zs : List PBox) (ba : Option Addr) (bc : Nat) (lg : List DCommit) (la : Option Addr) (lc : Nat) (gv : Int) (x : Int) (w : World) (h : Sq w ba bc zs la lc lg) (hm : MaxLen w) (rr : List DBox) (H : Hid (BoxesRel ⟨zs.map PBox.box, lg, gv⟩ x rr)) : Calls Tryz.prog 21 #[.agg #[.slice ba zs.length bc, .slice la lg.length lc, .int .i64 gv], .int .i64 x] w (fun e w' => ∃ g q l', e = .returned (.slice g l'.length q) ∧ OwnBs w' w.heap.size 49 66 g q l' ∧ l'.map PBox.box = rr ∧ Ext w w') :=
  implBoxesAt_law zs ba bc lg la lc gv x w h.rd h.rdm h.rl (by have := h.len; omega) (fun y hy => by have := (h.sm y hy).2.1; omega) (by have := h.ll; omega) (fun y hy => by have := (h.sm y hy).1; omega) (fun y hy t ht => by have := (h.sm y hy).2.2 t ht; omega) (fun y hy => by have := h.sl y hy; exact ⟨by omega, by omega⟩) hm rr H
theorem specBoxesAt_sq (zs : List PBox) (ba : Option Addr) (bc : Nat) (lg : List DCommit) (la : Option Addr) (lc : Nat) (gv : Int) (x : Int) (w : World) (h : Sq w ba bc zs la lc lg) (rr : List DBox) (H : Hid (BoxesRel ⟨zs.map PBox.box, lg, gv⟩ x rr)) : Calls Tryz.prog 22 #[.agg #[.slice ba zs.length bc, .slice la lg.length lc, .int .i64 gv], .int .i64 x] w (fun e w' => ∃ g q l', e = .returned (.slice g l'.length q) ∧ OwnBs w' w.heap.size 49 66 g q l' ∧ l'.map PBox.box = rr ∧ Ext w w') :=
  specBoxesAt_law zs ba bc lg la lc gv x w h.rd h.rdm h.rl (by have := h.len; omega) (fun y hy => by have := (h.sm y hy).2.1; omega) (by have := h.ll; omega) (fun y hy => by have := (h.sm y hy).1; omega) (fun y hy t ht => by have := (h.sm y hy).2.2 t ht; omega) (fun y hy => by have := h.sl y hy; exact ⟨by omega, by omega⟩) rr H
theorem OwnSt.sqc {w w0 : World} {B E EM EC q q2 : Nat} {g g2 : Option Addr} {z2 : List PBox} {rs : DStore} (h : OwnSt w B E EM EC g q z2 g2 q2 rs.log) (hz : z2.map PBox.box = rs.boxes) {zs : List PBox} {ba la : Option Addr} {bc lc : Nat} {lg : List DCommit} {gv : Int} (h0 : Sq w0 ba bc zs la lc lg) {m : DCommit} {rok : Bool} (hr : CmtRel ⟨zs.map PBox.box, lg, gv⟩ m rs rok) (h1 : m.name.size ≤ 41) (h2 : m.text.size ≤ 41) : Sq w g q z2 g2 q2 rs.log := by
  obtain ⟨t1, t2, t3, t4⟩ := cmt_small hr (N := 5) (by omega) (by simpa using h0.len) (smD_map.2 h0.sm) h0.sl h1 h2
  have hl : rs.log.length ≤ 320 := by
    obtain ⟨ht, he⟩ := hr
    cases rok with
    | false => rw [← he]; exact h0.ll
    | true => have := (yes_of ht).2.1; have e : rs.log.length = lg.length + 1 := (by rw [← he]; simp [comD]); have h3 : lg.length < 300 := this; omega
  exact ⟨h.box.rd, h.box.rdm, Rd.of_Own h.log, by rw [map_len hz]; exact t1, smD_map.1 (by rw [hz]; exact t2), hl, t4⟩
set_option maxRecDepth 100000 in
set_option maxHeartbeats 16000000 in
theorem fnCommitted_walk (l : List Int) (a : Option Addr) (c : Nat) (w : World) : MaxLen w → Rd w a c 1 l.length (l.flatMap byteCells) → (∀ y ∈ l, 0 ≤ y ∧ y ≤ 255) →
    Calls Tryz.prog 5 #[.slice a l.length c] w fun e w' => e = .returned (.bool true) ∧ Below w.heap.size w w' := by
  intro hmx R hb
  have hln : l.length ≤ 9223372036854775807 := Nat.le_trans R.nc R.cm
  have HMX := Lib.hid hmx
  have HR := Lib.hid R
  have HB := Lib.hid hb
  clear R hb hmx
  obtain ⟨d, hd⟩ := boolOf (1048576 < l.length)
  have HDB := Lib.hid hd
  clear hd
  go_enter Tryz.func5, Tryz.ntmps5
  go_wp2_with fail
  refine (big_any l.length a c _ hln d HDB).mono ?_
  rintro e w1 ⟨rfl, rfl⟩
  cases d
  rotate_left
  · go_wp2_with fail
    go_ret
    exact ⟨rfl, bxt⟩
  have hl : l.length ≤ 1048576 := by have := no_of HDB.out; omega
  go_wp2_with fail
  refine (drawCommitted_any l a c _ (HR.out.ext bxt) HB.out hl).mono ?_
  rintro e w1 ⟨ba, bc, zs, la, lc, lg, gv, m, hmn, hmt, hzl, hsm, hll, hsl, rfl, ho, hb1⟩
  have HS := Lib.hid (ho.sq hzl hsm hll hsl)
  clear ho hsm hsl
  have hzz1 := hb1.size; (try simp at hzz1)
  obtain ⟨hc1, hf1⟩ := bcell hb1
  obtain ⟨rs, rok, hrel⟩ := cmtRel_ex ⟨zs.map PBox.box, lg, gv⟩ m
  have HREL := Lib.hid hrel
  clear hrel
  cases rok
  · skip
    go_wp2_with fail
    refine (implCommitted_sq zs ba bc lg la lc gv m _ (HS.out.ext bxt) hmn hmt (HMX.out.ext bxt) rs false HREL).mono ?_
    rintro e w2 ⟨g2, q2, z2, a2, d2, rfl, ho2, hz2, hb2⟩
    have HS2 := Lib.hid (ho2.sqc hz2 HS.out HREL.out hmn hmt)
    have HZ2 := Lib.hid hz2
    clear ho2 hz2
    have hzz2 := hb2.size; (try simp at hzz2)
    obtain ⟨hc2, hf2⟩ := bcell hb2
    have hs2_0 : w1.heap.size < w2.heap.size := by (have hss := hb2.size; first | omega | (simp at hss <;> omega))
    have hs2_1 : w1.heap.size + 1 < w2.heap.size := by (have hss := hb2.size; first | omega | (simp at hss <;> omega))
    go_wp2_with fail
    refine (specCommitted_sq zs ba bc lg la lc gv m _ (HS.out.ext bxt) hmn hmt rs false HREL).mono ?_
    rintro e w3 ⟨g3, q3, z3, a3, d3, rfl, ho3, hz3, hb3⟩
    have HS3 := Lib.hid (ho3.sqc hz3 HS.out HREL.out hmn hmt)
    have HZ3 := Lib.hid hz3
    clear ho3 hz3
    have hzz3 := hb3.size; (try simp at hzz3)
    obtain ⟨hc3, hf3⟩ := bcell hb3
    have hs3_0 : w1.heap.size < w3.heap.size := by (have hss := hb3.size; first | omega | (simp at hss <;> omega))
    have hs3_1 : w1.heap.size + 1 < w3.heap.size := by (have hss := hb3.size; first | omega | (simp at hss <;> omega))
    have hs3_2 : w2.heap.size < w3.heap.size := by (have hss := hb3.size; first | omega | (simp at hss <;> omega))
    go_wp2_with fail
    refine (specSameStore_sq z2 g2 q2 rs.log a2 d2 rs.given z3 g3 q3 rs.log a3 d3 rs.given _ (HS2.out.ext bxt) (HS3.out.ext bxt) true (Lib.hid (by simp [HZ2.out, HZ3.out]))).mono ?_
    rintro e w4 ⟨rfl, hb4⟩
    have hzz4 := hb4.size; (try simp at hzz4)
    obtain ⟨hc4, hf4⟩ := bcell hb4
    have hs4_0 : w1.heap.size < w4.heap.size := by (have hss := hb4.size; first | omega | (simp at hss <;> omega))
    have hs4_1 : w1.heap.size + 1 < w4.heap.size := by (have hss := hb4.size; first | omega | (simp at hss <;> omega))
    have hs4_2 : w2.heap.size < w4.heap.size := by (have hss := hb4.size; first | omega | (simp at hss <;> omega))
    have hs4_3 : w3.heap.size < w4.heap.size := by (have hss := hb4.size; first | omega | (simp at hss <;> omega))
    go_wp2_with fail
    refine (specSameStore_sq z2 g2 q2 rs.log a2 d2 rs.given zs ba bc lg la lc gv _ (HS2.out.ext bxt) (HS.out.ext bxt) true (Lib.hid (by (have h := HREL.out.2; simp at h; simp [HZ2.out, ← h])))).mono ?_
    rintro e w5 ⟨rfl, hb5⟩
    have hzz5 := hb5.size; (try simp at hzz5)
    obtain ⟨hc5, hf5⟩ := bcell hb5
    have hs5_0 : w1.heap.size < w5.heap.size := by (have hss := hb5.size; first | omega | (simp at hss <;> omega))
    have hs5_1 : w1.heap.size + 1 < w5.heap.size := by (have hss := hb5.size; first | omega | (simp at hss <;> omega))
    have hs5_2 : w2.heap.size < w5.heap.size := by (have hss := hb5.size; first | omega | (simp at hss <;> omega))
    go_wp2_with fail
    go_ret
    exact ⟨rfl, bxt⟩
  · skip
    go_wp2_with fail
    refine (implCommitted_sq zs ba bc lg la lc gv m _ (HS.out.ext bxt) hmn hmt (HMX.out.ext bxt) rs true HREL).mono ?_
    rintro e w2 ⟨g2, q2, z2, a2, d2, rfl, ho2, hz2, hb2⟩
    have HS2 := Lib.hid (ho2.sqc hz2 HS.out HREL.out hmn hmt)
    have HZ2 := Lib.hid hz2
    clear ho2 hz2
    have hzz2 := hb2.size; (try simp at hzz2)
    obtain ⟨hc2, hf2⟩ := bcell hb2
    have hs2_0 : w1.heap.size < w2.heap.size := by (have hss := hb2.size; first | omega | (simp at hss <;> omega))
    have hs2_1 : w1.heap.size + 1 < w2.heap.size := by (have hss := hb2.size; first | omega | (simp at hss <;> omega))
    go_wp2_with fail
    refine (specCommitted_sq zs ba bc lg la lc gv m _ (HS.out.ext bxt) hmn hmt rs true HREL).mono ?_
    rintro e w3 ⟨g3, q3, z3, a3, d3, rfl, ho3, hz3, hb3⟩
    have HS3 := Lib.hid (ho3.sqc hz3 HS.out HREL.out hmn hmt)
    have HZ3 := Lib.hid hz3
    clear ho3 hz3
    have hzz3 := hb3.size; (try simp at hzz3)
    obtain ⟨hc3, hf3⟩ := bcell hb3
    have hs3_0 : w1.heap.size < w3.heap.size := by (have hss := hb3.size; first | omega | (simp at hss <;> omega))
    have hs3_1 : w1.heap.size + 1 < w3.heap.size := by (have hss := hb3.size; first | omega | (simp at hss <;> omega))
    have hs3_2 : w2.heap.size < w3.heap.size := by (have hss := hb3.size; first | omega | (simp at hss <;> omega))
    go_wp2_with fail
    refine (specSameStore_sq z2 g2 q2 rs.log a2 d2 rs.given z3 g3 q3 rs.log a3 d3 rs.given _ (HS2.out.ext bxt) (HS3.out.ext bxt) true (Lib.hid (by simp [HZ2.out, HZ3.out]))).mono ?_
    rintro e w4 ⟨rfl, hb4⟩
    have hzz4 := hb4.size; (try simp at hzz4)
    obtain ⟨hc4, hf4⟩ := bcell hb4
    have hs4_0 : w1.heap.size < w4.heap.size := by (have hss := hb4.size; first | omega | (simp at hss <;> omega))
    have hs4_1 : w1.heap.size + 1 < w4.heap.size := by (have hss := hb4.size; first | omega | (simp at hss <;> omega))
    have hs4_2 : w2.heap.size < w4.heap.size := by (have hss := hb4.size; first | omega | (simp at hss <;> omega))
    have hs4_3 : w3.heap.size < w4.heap.size := by (have hss := hb4.size; first | omega | (simp at hss <;> omega))
    have hcm := yes_of HREL.out.1
    have hre : rs = comD ⟨zs.map PBox.box, lg, gv⟩ m := by (have h := HREL.out.2; simpa using h.symm)
    have HCM := Lib.hid hcm
    have HRE := Lib.hid hre
    have hlr : rs.log.length = lg.length + 1 := by rw [hre]; simp [comD]
    have HLR := Lib.hid hlr
    have hlq : ((rs.log.length : Int) == (lg.length : Int) + 1) = true := by simp; omega
    have hlq2 : (rs.log.length == lg.length + 1) = true := by simp; omega
    clear hcm hre hlr
    go_wp2_with fail
    obtain ⟨av, hav⟩ : ∃ av, at0V l 2 = av := ⟨_, rfl⟩
    obtain ⟨av0, av1⟩ : 0 ≤ av ∧ av ≤ 255 := by (rw [← hav]; exact at0V_range l 2 HB.out)
    have HAV := Lib.hid hav
    clear hav
    obtain ⟨kk, hkk, hke⟩ : ∃ kk : Nat, kk ≤ lg.length ∧ av.tmod ((lg.length : Int) + 1) = (kk : Int) := ⟨(av.tmod ((lg.length : Int) + 1)).toNat, by (have h1 := Int.tmod_nonneg ((lg.length : Int) + 1) av0; have h2 := Int.tmod_lt_of_pos av (show (0 : Int) < (lg.length : Int) + 1 by omega); omega), by (have h1 := Int.tmod_nonneg ((lg.length : Int) + 1) av0; omega)⟩
    have hke2 : av % ((lg.length : Int) + 1) = (kk : Int) := by rw [← Int.tmod_eq_emod_of_nonneg av0]; exact hke
    have hnz : ¬ ((lg.length : Int) + 1 = 0) := by omega
    have hE14 : Hid (Ext w1 w4) := bxt
    have cL : w4.cell? ⟨w1.heap.size, 1, none⟩ = some (.slice la lg.length lc) := kpx
    have qL := fun y : ExtW w4 => (y.h.cell (p := ⟨w1.heap.size, 1, none⟩) hs4_0).trans cL
    refine wp_region_ext (by kernel_rfl) (by kernel_rfl) ?_
    repeat (go_big_quiet_step ((go_at_call 27; refine (at0_eq l a c 2 _ (HR.out.ext (Below.ext (show Ext w w4 from bxt) (ExtW.h _))) HB.out hl (by omega) av HAV).mono ?_; rintro e w5 ⟨rfl, rfl⟩; exact ⟨rfl, ⟨_, rfl⟩⟩)))
    refine wpQuiet_nil ?_
    rintro wq ⟨⟨wqx, hwq⟩, hxwq⟩
    have hywq : wq = wqx := hxwq
    subst hywq
    clear hxwq
    clear qL cL
    have hzz5 := hwq.size
    obtain ⟨hc5, hf5⟩ := bcell hwq
    have hs5_0 : w1.heap.size < wq.heap.size := by omega
    have hs5_1 : w1.heap.size + 1 < wq.heap.size := by omega
    have hs5_2 : w2.heap.size < wq.heap.size := by omega
    have cW0 : wq.cell? ⟨w1.heap.size, 0, none⟩ = some (.slice ba zs.length bc) := kpx
    have cW1 : wq.cell? ⟨w1.heap.size, 1, none⟩ = some (.slice la lg.length lc) := kpx
    have cW2 : wq.cell? ⟨w1.heap.size, 2, none⟩ = some (.int .i64 gv) := kpx
    have cW3 : wq.cell? ⟨w2.heap.size, 0, none⟩ = some (.slice g2 z2.length q2) := kpx
    have cW4 : wq.cell? ⟨w2.heap.size, 1, none⟩ = some (.slice a2 rs.log.length d2) := kpx
    have cW5 : wq.cell? ⟨w2.heap.size, 2, none⟩ = some (.int .i64 rs.given) := kpx
    obtain ⟨D, hD⟩ := boxesRel_ex ⟨zs.map PBox.box, lg, gv⟩ (kk : Int)
    have HD := Lib.hid hD
    have e1 : atN lg (kk : Int) = kk := by (unfold atN; omega)
    have e2 : atN rs.log (kk : Int) = kk := by (have h := HLR.out; unfold atN; omega)
    have hD' : (allD [] (lg.take (atN lg (kk : Int)))).1 = D := hD
    rw [e1] at hD'
    have HD2 : Hid (BoxesRel (⟨z2.map PBox.box, rs.log, rs.given⟩ : DStore) (kk : Int) D) := Lib.hid (show (allD [] (rs.log.take (atN rs.log (kk : Int)))).1 = D from by rw [e2, HRE.out, take_com _ _ _ hkk]; exact hD')
    clear e1 e2 hD'
    clear hD
    obtain ⟨r, hr⟩ := boolOf (StoreP ⟨zs.map PBox.box, lg, gv⟩)
    have HRR := Lib.hid hr
    clear hr hke hke2
    have hw1 : IntKind.i64.wrap ((lg.length : Int) + 1) = (lg.length : Int) + 1 := IntWalk.i64_in _ (by omega)
    cases r
    · skip
      go_wp2_with fail
      have hU : (undef : Value) = .tuple #[] := rfl
      first | (go_region_law ((first | (go_simp; go_at_call 19; refine (specStoreOk_sq zs ba bc lg la lc gv _ (HS.out.ext bxt) false HRR).mono ?_; rintro e w6 ⟨rfl, hb6⟩; have cB6_0 : w6.cell? ⟨w1.heap.size, 0, none⟩ = some (.slice ba zs.length bc) := ((hb6.cell (p := ⟨w1.heap.size, 0, none⟩) smx).trans kpx); have cB6_1 : w6.cell? ⟨w1.heap.size, 1, none⟩ = some (.slice la lg.length lc) := ((hb6.cell (p := ⟨w1.heap.size, 1, none⟩) smx).trans kpx); have cB6_2 : w6.cell? ⟨w1.heap.size, 2, none⟩ = some (.int .i64 gv) := ((hb6.cell (p := ⟨w1.heap.size, 2, none⟩) smx).trans kpx); have cB6_3 : w6.cell? ⟨w2.heap.size, 0, none⟩ = some (.slice g2 z2.length q2) := ((hb6.cell (p := ⟨w2.heap.size, 0, none⟩) smx).trans kpx); have cB6_4 : w6.cell? ⟨w2.heap.size, 1, none⟩ = some (.slice a2 rs.log.length d2) := ((hb6.cell (p := ⟨w2.heap.size, 1, none⟩) smx).trans kpx); have cB6_5 : w6.cell? ⟨w2.heap.size, 2, none⟩ = some (.int .i64 rs.given) := ((hb6.cell (p := ⟨w2.heap.size, 2, none⟩) smx).trans kpx); have hzz6 := hb6.size; (try simp at hzz6); obtain ⟨hc6, hf6⟩ := bcell hb6; have hs6_0 : w1.heap.size < w6.heap.size := (by (have hss := hb6.size; first | omega | (simp at hss <;> omega))); have hs6_1 : w1.heap.size + 1 < w6.heap.size := (by (have hss := hb6.size; first | omega | (simp at hss <;> omega))); have hs6_2 : w2.heap.size < w6.heap.size := (by (have hss := hb6.size; first | omega | (simp at hss <;> omega)))) | (go_simp; go_at_call 21; refine (implBoxesAt_sq z2 g2 q2 rs.log a2 d2 rs.given (kk : Int) _ (HS2.out.ext bxt) (HMX.out.ext bxt) D HD2).mono ?_; rintro e w8 ⟨g8, q8, z8, rfl, ho8, hz8, hb8⟩; have HO8 := Lib.hid ho8; have HZ8 := Lib.hid hz8; clear ho8 hz8; have cB8_0 : w8.cell? ⟨w1.heap.size, 0, none⟩ = some (.slice ba zs.length bc) := ((hb8.cell (p := ⟨w1.heap.size, 0, none⟩) smx).trans kpx); have cB8_1 : w8.cell? ⟨w1.heap.size, 1, none⟩ = some (.slice la lg.length lc) := ((hb8.cell (p := ⟨w1.heap.size, 1, none⟩) smx).trans kpx); have cB8_2 : w8.cell? ⟨w1.heap.size, 2, none⟩ = some (.int .i64 gv) := ((hb8.cell (p := ⟨w1.heap.size, 2, none⟩) smx).trans kpx); have cB8_3 : w8.cell? ⟨w2.heap.size, 0, none⟩ = some (.slice g2 z2.length q2) := ((hb8.cell (p := ⟨w2.heap.size, 0, none⟩) smx).trans kpx); have cB8_4 : w8.cell? ⟨w2.heap.size, 1, none⟩ = some (.slice a2 rs.log.length d2) := ((hb8.cell (p := ⟨w2.heap.size, 1, none⟩) smx).trans kpx); have cB8_5 : w8.cell? ⟨w2.heap.size, 2, none⟩ = some (.int .i64 rs.given) := ((hb8.cell (p := ⟨w2.heap.size, 2, none⟩) smx).trans kpx); have hzz8 := hb8.size; (try simp at hzz8); obtain ⟨hc8, hf8⟩ := bcell hb8; have hs8_0 : w1.heap.size < w8.heap.size := (by (have hss := hb8.size; first | omega | (simp at hss <;> omega))); have hs8_1 : w1.heap.size + 1 < w8.heap.size := (by (have hss := hb8.size; first | omega | (simp at hss <;> omega))); have hs8_2 : w2.heap.size < w8.heap.size := (by (have hss := hb8.size; first | omega | (simp at hss <;> omega)))) | (go_simp; go_at_call 22; refine (specBoxesAt_sq zs ba bc lg la lc gv (kk : Int) _ (HS.out.ext bxt) D HD).mono ?_; rintro e w9 ⟨g9, q9, z9, rfl, ho9, hz9, hb9⟩; have HO9 := Lib.hid ho9; have HZ9 := Lib.hid hz9; clear ho9 hz9; have cB9_0 : w9.cell? ⟨w1.heap.size, 0, none⟩ = some (.slice ba zs.length bc) := ((hb9.cell (p := ⟨w1.heap.size, 0, none⟩) smx).trans kpx); have cB9_1 : w9.cell? ⟨w1.heap.size, 1, none⟩ = some (.slice la lg.length lc) := ((hb9.cell (p := ⟨w1.heap.size, 1, none⟩) smx).trans kpx); have cB9_2 : w9.cell? ⟨w1.heap.size, 2, none⟩ = some (.int .i64 gv) := ((hb9.cell (p := ⟨w1.heap.size, 2, none⟩) smx).trans kpx); have cB9_3 : w9.cell? ⟨w2.heap.size, 0, none⟩ = some (.slice g2 z2.length q2) := ((hb9.cell (p := ⟨w2.heap.size, 0, none⟩) smx).trans kpx); have cB9_4 : w9.cell? ⟨w2.heap.size, 1, none⟩ = some (.slice a2 rs.log.length d2) := ((hb9.cell (p := ⟨w2.heap.size, 1, none⟩) smx).trans kpx); have cB9_5 : w9.cell? ⟨w2.heap.size, 2, none⟩ = some (.int .i64 rs.given) := ((hb9.cell (p := ⟨w2.heap.size, 2, none⟩) smx).trans kpx); have hzz9 := hb9.size; (try simp at hzz9); obtain ⟨hc9, hf9⟩ := bcell hb9; have hs9_0 : w1.heap.size < w9.heap.size := (by (have hss := hb9.size; first | omega | (simp at hss <;> omega))); have hs9_1 : w1.heap.size + 1 < w9.heap.size := (by (have hss := hb9.size; first | omega | (simp at hss <;> omega))); have hs9_2 : w2.heap.size < w9.heap.size := (by (have hss := hb9.size; first | omega | (simp at hss <;> omega)))) | (go_simp; go_at_call 20; refine (specSameBoxes_any z8 z9 _ _ _ _ _ ((HO8.out.ext bxt).rd) ((HO8.out.ext bxt).rdm) ((HO9.out.ext bxt).rd) ((HO9.out.ext bxt).rdm) true (Lib.hid (by simp [HZ8.out, HZ9.out]))).mono ?_; rintro e w10 ⟨rfl, hb10⟩)))) | fail
      all_goals go_wp2_with fail
      all_goals go_ret
      all_goals exact ⟨rfl, bxt⟩
    · skip
      go_wp2_with fail
      go_region_held3 (fun w' => Below wq.heap.size wq w' ∧ (∀ b o, b < wq.heap.size → w'.cell? ⟨b, o, none⟩ = wq.cell? ⟨b, o, none⟩)) (first | exact sBeg _ | exact sExt (by assumption) (by assumption)) ((first | (go_at_call 19; refine (specStoreOk_sq zs ba bc lg la lc gv _ (HS.out.ext bxt) true HRR).mono ?_; rintro e w6 ⟨rfl, hb6⟩) | (go_at_call 18; refine (implStoreOk_sq z2 g2 q2 rs.log a2 d2 rs.given _ (HS2.out.ext bxt) (HMX.out.ext bxt) true (Lib.hid (⟨fun _ => (by rw [HZ2.out]; exact (by (rw [HRE.out]; exact storeP_com (yes_of HRR.out) HCM.out))), fun _ => rfl⟩))).mono ?_; rintro e w7 ⟨rfl, hb7⟩) | (go_at_call 21; refine (implBoxesAt_sq z2 g2 q2 rs.log a2 d2 rs.given (kk : Int) _ (HS2.out.ext bxt) (HMX.out.ext bxt) D HD2).mono ?_; rintro e w8 ⟨g8, q8, z8, rfl, ho8, hz8, hb8⟩; have HO8 := Lib.hid ho8; have HZ8 := Lib.hid hz8; clear ho8 hz8) | (go_at_call 22; refine (specBoxesAt_sq zs ba bc lg la lc gv (kk : Int) _ (HS.out.ext bxt) D HD).mono ?_; rintro e w9 ⟨g9, q9, z9, rfl, ho9, hz9, hb9⟩; have HO9 := Lib.hid ho9; have HZ9 := Lib.hid hz9; clear ho9 hz9) | (go_at_call 20; refine (specSameBoxes_any z8 z9 _ _ _ _ _ ((HO8.out.ext bxt).rd) ((HO8.out.ext bxt).rdm) ((HO9.out.ext bxt).rd) ((HO9.out.ext bxt).rdm) true (Lib.hid (by simp [HZ8.out, HZ9.out]))).mono ?_; rintro e w10 ⟨rfl, hb10⟩)))
      go_wp2_with fail
      go_ret
      exact ⟨rfl, bxt⟩
end Go.Proofs.YtjcnhkmhcfmoeaaGreat
