/-
  SetFlags: the action's closure, and the operation's.
  SetFlags: the reference's function.
  SetFlags: change at its closure.
  SetFlags: the program's function at an operation that is not right.
  SetFlags: the program's function, whole.
-/
import Derived.Test.YtjcnhkmhcfmoeaaGreatXEach
import Derived.Test.YtjcnhkmhcfmoeaaGreatWComS
import Derived.Test.YtjcnhkmhcfmoeaaGreatXOps
import Derived.IntWalk
import Derived.Test.YtjcnhkmhcfmoeaaGreatWCutS
namespace Go.Proofs.YtjcnhkmhcfmoeaaGreat
open Go.RowKit
set_option linter.unusedVariables false
set_option linter.unusedSimpArgs false

set_option maxRecDepth 100000 in
set_option maxHeartbeats 8000000 in
theorem actSet_any (zs : List PBox) (ga : Option Addr) (q : Nat) (l : List DCommit) (la : Option Addr) (lc : Nat) (gv : Int) (G B : Nat) (v op b : Int) (m : DMsg) (opb bb ob vb : Nat) (w : World) (HS : Hid (StB w G B 49 66 41 ga q zs la lc l gv)) (hB : B ≤ w.heap.size) (hm : MaxLen w) (gn : ∀ y ∈ zs, y.name.size ≤ 9223372036854775807) (gt : ∀ y ∈ zs, ∀ m ∈ y.msgs, m.text.size ≤ 9223372036854775807) (hmt : m.text.size ≤ 9223372036854775807) (hopb : opb < w.heap.size) (copb : w.cell? ⟨opb, 0, none⟩ = some (.int .i64 op)) (hbb : bb < w.heap.size) (cbb : w.cell? ⟨bb, 0, none⟩ = some (.int .i64 b)) (hob : ob < w.heap.size) (cob : w.cell? ⟨ob, 0, none⟩ = some (.pointer (some ⟨G, 0, none⟩))) (hvb : vb < w.heap.size) (cvb : w.cell? ⟨vb, 0, none⟩ = some (.int .i64 v)) :
    Calls Tryz.prog 120 #[.agg #[.int .i64 m.uid, .int .i64 m.flags, .string m.text], .pointer (some ⟨opb, 0, none⟩), .pointer (some ⟨bb, 0, none⟩), .pointer (some ⟨ob, 0, none⟩), .pointer (some ⟨vb, 0, none⟩)] w fun e w' => ∃ r2 ok, e = .returned (.bool ok) ∧ StTo (fun k => k = G ∨ rowsS ga q zs la lc l.length k) w G B 49 66 41 r2 w' ∧ ActRel (gSet v op b) (⟨zs.map PBox.box, l, gv⟩ : DStore) m r2 ok := by
  have HGN := Lib.hid gn
  have HGT := Lib.hid gt
  have HMX := Lib.hid hm
  clear gn gt hm
  obtain ⟨r, hr⟩ : ∃ r, chgF op m.flags b = r := ⟨_, rfl⟩
  have HR := Lib.hid hr
  clear hr
  by_cases hf : r = m.flags
  · have hd : (r == m.flags) = true := by simp [hf]
    have HF := Lib.hid hf
    clear hf
    go_enter Tryz.func120, Tryz.ntmps120
    go_wp2_with (go_at_call 121; refine (implChanged_any op m.flags b _ r HR).mono ?_; rintro e wx ⟨rfl, hwx⟩; subst wx)
    go_ret
    exact ⟨(⟨zs.map PBox.box, l, gv⟩ : DStore), true, rfl, HS.out.same bxt, act_none (gSet_none (HR.out.trans HF.out))⟩
  · have hd : (r == m.flags) = false := by simp [hf]
    have HF := Lib.hid hf
    clear hf
    obtain ⟨rb, hrb⟩ := boolOf (ComP (⟨zs.map PBox.box, l, gv⟩ : DStore) (⟨5, v, m.uid, r, ⟨#[]⟩, ⟨#[]⟩⟩ : DCommit))
    obtain ⟨rs6, hrs6⟩ : ∃ x, (if rb then comD (⟨zs.map PBox.box, l, gv⟩ : DStore) (⟨5, v, m.uid, r, ⟨#[]⟩, ⟨#[]⟩⟩ : DCommit) else (⟨zs.map PBox.box, l, gv⟩ : DStore)) = x := ⟨_, rfl⟩
    have HCT : Hid (CmtRel (⟨zs.map PBox.box, l, gv⟩ : DStore) (⟨5, v, m.uid, r, ⟨#[]⟩, ⟨#[]⟩⟩ : DCommit) rs6 rb) := Lib.hid ⟨hrb, hrs6⟩
    obtain ⟨c6, hc6⟩ : ∃ c, (if rb then (0 : Int) else 2) = c := ⟨_, rfl⟩
    have HC6 := Lib.hid hc6
    clear hrb hrs6 hc6
    have GM1 : (⟨5, v, m.uid, r, ⟨#[]⟩, ⟨#[]⟩⟩ : DCommit).name.size ≤ 9223372036854775807 := Nat.zero_le _
    have GM2 : (⟨5, v, m.uid, r, ⟨#[]⟩, ⟨#[]⟩⟩ : DCommit).text.size ≤ 9223372036854775807 := Nat.zero_le _
    go_enter Tryz.func120, Tryz.ntmps120
    go_wp2_with (first | (go_at_call 121; refine (implChanged_any op m.flags b _ r HR).mono ?_; rintro e wx ⟨rfl, hwx⟩; subst wx) | (go_at_call 67; refine (commit_any zs ga q l la lc gv G B (⟨5, v, m.uid, r, ⟨#[]⟩, ⟨#[]⟩⟩ : DCommit) _ (Lib.hid (StB.ext HS.out (show Ext w _ from bxt))) (Nat.le_trans hB (show Ext w _ from bxt).size) (HMX.out.ext bxt) HGN.out HGT.out GM1 GM2 rs6 rb HCT).mono ?_; rintro e w6 ⟨rfl, hst6⟩; have HST := Lib.hid (StTo.pre (show Ext w _ from bxt) hst6); clear hst6))
    go_ret
    exact ⟨rs6, rb, rfl, HST.out, act_some (gSet_some HR.out HF.out) HCT.out⟩

set_option maxRecDepth 100000 in
set_option maxHeartbeats 8000000 in
theorem clSet_any (zs : List PBox) (ga : Option Addr) (q : Nat) (l : List DCommit) (la : Option Addr) (lc : Nat) (gv : Int) (G B : Nat) (v op b : Int) (us : List Int) (ua : Option Addr) (uc : Nat) (Bx vb ub opb bb : Nat) (w : World) (HS : Hid (StB w G B 49 66 41 ga q zs la lc l gv)) (hB : B ≤ w.heap.size) (hm : MaxLen w) (gn : ∀ y ∈ zs, y.name.size ≤ 9223372036854775807) (gt : ∀ y ∈ zs, ∀ m ∈ y.msgs, m.text.size ≤ 9223372036854775807) (gd : GoodS (⟨zs.map PBox.box, l, gv⟩ : DStore)) (hvb : vb < Bx) (cvb : w.cell? ⟨vb, 0, none⟩ = some (.int .i64 v)) (hub : ub < Bx) (cub : w.cell? ⟨ub, 0, none⟩ = some (.slice ua us.length uc)) (hopb : opb < Bx) (copb : w.cell? ⟨opb, 0, none⟩ = some (.int .i64 op)) (hbb : bb < Bx) (cbb : w.cell? ⟨bb, 0, none⟩ = some (.int .i64 b)) (RU : Rd w ua uc 1 us.length (us.flatMap intCells)) (hul : us.length ≤ 1048576) (hub2 : ∀ b o, ua = some ⟨b, o, none⟩ → 0 < us.length → b < Bx) (hB0 : 0 < Bx) (hBB : Bx ≤ B) (hBG : Bx ≤ G) :
    Calls Tryz.prog 119 #[.pointer (some ⟨G, 0, none⟩), .pointer (some ⟨vb, 0, none⟩), .pointer (some ⟨ub, 0, none⟩), .pointer (some ⟨opb, 0, none⟩), .pointer (some ⟨bb, 0, none⟩)] w fun e w' => ∃ r2 c, e = .returned (.int .i64 c) ∧ StTo (fun k => k = G ∨ rowsS ga q zs la lc l.length k) w G B 49 66 41 r2 w' ∧ stepsB v (gSet v op b) (⟨zs.map PBox.box, l, gv⟩ : DStore) us = (if c = 0 then r2 else (⟨zs.map PBox.box, l, gv⟩ : DStore), c) := by
  have HGN := Lib.hid gn
  have HGT := Lib.hid gt
  have HMX := Lib.hid hm
  have HGD := Lib.hid gd
  have HRU := Lib.hid RU
  have HUB := Lib.hid hub2
  clear gn gt hm gd RU hub2
  obtain ⟨z, hz⟩ : ∃ z, boxWith v (zs.map PBox.box) = z := ⟨_, rfl⟩
  have HZ := Lib.hid hz
  clear hz
  have hG := HS.out.lt
  have hBw : Bx ≤ w.heap.size := by omega
  have HOR : Hid (¬ rowsS ga q zs la lc l.length w.heap.size) := Lib.hid (fun hr => by have := (HS.out.own.rows_lt _ hr).2; omega)
  by_cases hz0 : z < 0
  · have hd0 : decide (z < 0) = true := decide_eq_true hz0
    have HZ0 := Lib.hid hz0
    clear hz0
    go_enter Tryz.func119, Tryz.ntmps119
    go_wp2_with fail
    refine wp_world (fun W hW => ?_)
    have hwW : Ext w W := by (rw [hW]; exact bxt)
    have bob : W.cell? ⟨w.heap.size, 0, none⟩ = some (.pointer (some ⟨G, 0, none⟩)) := by (rw [hW]; exact kpx)
    have sW : w.heap.size < W.heap.size := by (rw [hW]; simp)
    clear hW
    have q0 := fun y : ExtW W => (y.h.cell (p := ⟨w.heap.size, 0, none⟩) sW).trans bob
    have q1 := fun y : ExtW W => ((Below.ext hwW y.h).cell (p := ⟨G, 0, none⟩) hG).trans HS.out.c0
    have q2 := fun y : ExtW W => ((Below.ext hwW y.h).cell (p := ⟨vb, 0, none⟩) (show vb < w.heap.size by omega)).trans cvb
    go_wp2_with fail
    refine wp_region_ext (by kernel_rfl) (by kernel_rfl) ?_
    repeat (go_big_quiet_step ((go_at_call 85; refine (implBoxWith_any zs ga q v _ (HS.out.own.box.rd.ext (ExtW.of hwW _)) z HZ).mono ?_; rintro e w4 ⟨rfl, hb4⟩; exact ⟨rfl, ExtW.on _ hb4⟩)))
    refine wpQuiet_nil ?_
    rintro w3 ⟨⟨w3x, hw3⟩, hx3⟩
    have hx3' : w3 = w3x := hx3
    subst hx3'
    clear hx3 q0 q1 q2
    go_wp2_with fail
    go_ret
    exact ⟨(⟨zs.map PBox.box, l, gv⟩ : DStore), 1, rfl, HS.out.same (Below.ext hwW hw3), by rw [stepsB, if_pos (show boxWith v (zs.map PBox.box) < 0 by rw [HZ.out]; exact HZ0.out)]; rfl⟩
  · have hd0 : decide (z < 0) = false := decide_eq_false hz0
    have hzl : z < (zs.length : Int) := by
      have h := (firstI_range (fun y : DBox => decide (y.validity = v)) (zs.map PBox.box)).2
      rw [List.length_map] at h
      rw [← HZ.out]
      exact h
    obtain ⟨kb, hkb⟩ : ∃ kb : Nat, z = kb := ⟨z.toNat, by omega⟩
    subst hkb
    have hkl : kb < zs.length := by omega
    have HKL := Lib.hid hkl
    clear hzl hz0 hkl
    obtain ⟨⟨rr, rb⟩, hrr⟩ : ∃ x, stepsD v (gSet v op b) (⟨zs.map PBox.box, l, gv⟩ : DStore) us = x := ⟨_, rfl⟩
    have HRR := Lib.hid hrr
    obtain ⟨c6, hc6⟩ : ∃ c, (if rb then (0 : Int) else 2) = c := ⟨_, rfl⟩
    have HC6 := Lib.hid hc6
    clear hrr hc6
    go_enter Tryz.func119, Tryz.ntmps119
    go_wp2_with fail
    refine wp_world (fun W hW => ?_)
    have hwW : Ext w W := by (rw [hW]; exact bxt)
    have bob : W.cell? ⟨w.heap.size, 0, none⟩ = some (.pointer (some ⟨G, 0, none⟩)) := by (rw [hW]; exact kpx)
    have sW : w.heap.size < W.heap.size := by (rw [hW]; simp)
    clear hW
    have q0 := fun y : ExtW W => (y.h.cell (p := ⟨w.heap.size, 0, none⟩) sW).trans bob
    have q1 := fun y : ExtW W => ((Below.ext hwW y.h).cell (p := ⟨G, 0, none⟩) hG).trans HS.out.c0
    have q2 := fun y : ExtW W => ((Below.ext hwW y.h).cell (p := ⟨vb, 0, none⟩) (show vb < w.heap.size by omega)).trans cvb
    go_wp2_with fail
    refine wp_region_ext (by kernel_rfl) (by kernel_rfl) ?_
    repeat (go_big_quiet_step ((go_at_call 85; refine (implBoxWith_any zs ga q v _ (HS.out.own.box.rd.ext (ExtW.of hwW _)) (kb : Int) HZ).mono ?_; rintro e w4 ⟨rfl, hb4⟩; exact ⟨rfl, ExtW.on _ hb4⟩)))
    refine wpQuiet_nil ?_
    rintro w3 ⟨⟨w3x, hw3⟩, hx3⟩
    have hx3' : w3 = w3x := hx3
    subst hx3'
    clear hx3 q0 q1 q2
    have hx3 : Ext w w3 := Below.ext hwW hw3
    have kob : w3.cell? ⟨w.heap.size, 0, none⟩ = some (.pointer (some ⟨G, 0, none⟩)) := (hw3.cell (p := ⟨w.heap.size, 0, none⟩) sW).trans bob
    have kvb : w3.cell? ⟨vb, 0, none⟩ = some (.int .i64 v) := (hx3.cell (p := ⟨vb, 0, none⟩) (show vb < w.heap.size by omega)).trans cvb
    have kub : w3.cell? ⟨ub, 0, none⟩ = some (.slice ua us.length uc) := (hx3.cell (p := ⟨ub, 0, none⟩) (show ub < w.heap.size by omega)).trans cub
    have kopb : w3.cell? ⟨opb, 0, none⟩ = some (.int .i64 op) := (hx3.cell (p := ⟨opb, 0, none⟩) (show opb < w.heap.size by omega)).trans copb
    have kbb : w3.cell? ⟨bb, 0, none⟩ = some (.int .i64 b) := (hx3.cell (p := ⟨bb, 0, none⟩) (show bb < w.heap.size by omega)).trans cbb
    have s3 : w.heap.size < w3.heap.size := Nat.lt_of_lt_of_le sW hw3.size
    clear sW bob hw3
    go_wp2_with (first | (go_at_call 105; refine (each_any zs ga q l la lc gv G B v us ua uc 120 #[.pointer (some ⟨opb, 0, none⟩), .pointer (some ⟨bb, 0, none⟩), .pointer (some ⟨w.heap.size, 0, none⟩), .pointer (some ⟨vb, 0, none⟩)] (gSet v op b) Bx w.heap.size kb _ (Lib.hid (StB.ext HS.out (show Ext w _ from bxt))) (Nat.le_trans hB (show Ext w _ from bxt).size) (HMX.out.ext bxt) HGN.out HGT.out (HRU.out.ext bxt) hul HUB.out hB0 hBB hBG (Nat.le_trans hBw (show Ext w _ from bxt).size) s3 (by omega) HOR.out HGD.out (gSet_act v op b) HZ.out HKL.out (callFunc_in Tryz.func120 (by kernel_rfl) (by kernel_rfl)) ?_ rr rb HRR).mono ?_; rotate_left; rintro e w6 ⟨rfl, hst6⟩; have HST := Lib.hid (StTo.pre (show Ext w _ from bxt) hst6); clear hst6; rotate_left; (exact fun wx zs1 ga1 q1 l1 la1 lc1 gv1 hs1 hB1 hm1 hg1 hcell hsz m hmt => actSet_any zs1 ga1 q1 l1 la1 lc1 gv1 G B v op b m opb bb w.heap.size vb wx hs1 hB1 hm1 (good_to hg1.1).2.2.1 (good_to hg1.1).2.2.2 hmt (by omega) ((hcell opb 0 (Or.inl hopb)).trans kopb) (by omega) ((hcell bb 0 (Or.inl hbb)).trans kbb) (by omega) ((hcell w.heap.size 0 (Or.inr rfl)).trans kob) (by omega) ((hcell vb 0 (Or.inl hvb)).trans kvb))) | (go_at_call 99; refine (fullUnless_any rb c6 _ HC6).mono ?_; rintro e wx ⟨rfl, hwx⟩; subst wx))
    go_ret
    exact ⟨rr, c6, rfl, HST.out, by
      rw [stepsB, if_neg (show ¬ boxWith v (zs.map PBox.box) < 0 by rw [HZ.out]; omega), HRR.out, ← HC6.out]
      cases rb <;> rfl⟩
end Go.Proofs.YtjcnhkmhcfmoeaaGreat

namespace Go.Proofs.YtjcnhkmhcfmoeaaGreat
open Go.RowKit
set_option linter.unusedVariables false
set_option linter.unusedSimpArgs false

set_option maxRecDepth 100000 in
set_option maxHeartbeats 16000000 in
theorem specSetFlags_law (b : List PBox) (ba : Option Addr) (bc : Nat) (l : List DCommit) (la : Option Addr) (lc : Nat) (gv : Int) (v : Int) (us : List Int) (ua : Option Addr) (uc : Nat) (op bi : Int) (w : World) (R : Rd w ba bc 4 b.length (b.flatMap PBox.cells)) (M : RdM w b) (RL : Rd w la lc 6 l.length (l.flatMap DCommit.cells)) (hl : b.length ≤ 1048576) (hlm : ∀ y ∈ b, y.msgs.length ≤ 1048576) (hll : l.length ≤ 1048576) (gn : ∀ y ∈ b, y.name.size ≤ 9223372036854775807) (gt : ∀ y ∈ b, ∀ m ∈ y.msgs, m.text.size ≤ 9223372036854775807) (gl : ∀ y ∈ l, y.name.size ≤ 9223372036854775807 ∧ y.text.size ≤ 9223372036854775807) (RU : Rd w ua uc 1 us.length (us.flatMap intCells)) (hul : us.length ≤ 1048576) (rs : DStore) (rok : Int) (H : Hid (setD ⟨b.map PBox.box, l, gv⟩ v us op bi = (rs, rok))) :
    Calls Tryz.prog 59 #[.agg #[.slice ba b.length bc, .slice la l.length lc, .int .i64 gv], .int .i64 v, .slice ua us.length uc, .int .i64 op, .int .i64 bi] w fun e w' => ∃ g q zs g2 q2, e = .returned (.tuple #[.agg #[.slice g zs.length q, .slice g2 rs.log.length q2, .int .i64 rs.given], .int .i64 rok]) ∧ OwnSt w' w.heap.size 49 66 41 g q zs g2 q2 rs.log ∧ zs.map PBox.box = rs.boxes ∧ Ext w w' := by
  have HG0 := Lib.hid (good_S (gv := gv) hl hlm hll gn gt gl)
  have HR := Lib.hid R
  have HM := Lib.hid M
  have HRL := Lib.hid RL
  have HLM := Lib.hid hlm
  have HGN := Lib.hid gn
  have HGT := Lib.hid gt
  have HGL := Lib.hid gl
  clear R M RL hlm gn gt gl
  have HRU := Lib.hid RU
  clear RU
  obtain ⟨ok, hok⟩ := boolOf (StoreP ⟨b.map PBox.box, l, gv⟩)
  have HSK := Lib.hid hok
  clear hok
  obtain ⟨z, hz⟩ : ∃ z, boxWith v (b.map PBox.box) = z := ⟨_, rfl⟩
  have HZ := Lib.hid hz
  clear hz
  cases ok with
  | false =>
    obtain ⟨rfl, rfl⟩ : (⟨b.map PBox.box, l, gv⟩ : DStore) = rs ∧ (4 : Int) = rok := by
      have h := H.out
      rw [setD, opD_no (fun h => no_of HSK.out h.1)] at h
      exact Prod.mk.inj h
    go_enter Tryz.func59, Tryz.ntmps59
    go_wp2_with (first | (go_at_call 19; refine (specStoreOk_any b ba bc l la lc gv _ (HR.out.ext bxt) (RdM.ext HM.out (show Below w.heap.size w _ from bxt)) (HRL.out.ext bxt) hl HLM.out hll HGN.out HGT.out HGL.out false HSK).mono ?_; rintro e w2 ⟨rfl, hb2⟩; have cp0_0 : w2.cell? ⟨w.heap.size, 0, none⟩ = some (.slice ba b.length bc) := (hb2.cell (p := ⟨w.heap.size, 0, none⟩) smx).trans kpx; have fp0_0 : w2.frozen? ⟨w.heap.size, 0, none⟩ = false := (hb2.frozen (p := ⟨w.heap.size, 0, none⟩) smx).trans kfx; have cp0_1 : w2.cell? ⟨w.heap.size, 1, none⟩ = some (.slice la l.length lc) := (hb2.cell (p := ⟨w.heap.size, 1, none⟩) smx).trans kpx; have fp0_1 : w2.frozen? ⟨w.heap.size, 1, none⟩ = false := (hb2.frozen (p := ⟨w.heap.size, 1, none⟩) smx).trans kfx; have cp0_2 : w2.cell? ⟨w.heap.size, 2, none⟩ = some (.int .i64 gv) := (hb2.cell (p := ⟨w.heap.size, 2, none⟩) smx).trans kpx; have fp0_2 : w2.frozen? ⟨w.heap.size, 2, none⟩ = false := (hb2.frozen (p := ⟨w.heap.size, 2, none⟩) smx).trans kfx; have sp0 : w.heap.size < w2.heap.size := (by have hss := hb2.size; first | omega | (simp at hss; omega)); have cp1_0 : w2.cell? ⟨(w.heap.size + 1), 0, none⟩ = some (.slice none 0 0) := (hb2.cell (p := ⟨(w.heap.size + 1), 0, none⟩) smx).trans kpx; have fp1_0 : w2.frozen? ⟨(w.heap.size + 1), 0, none⟩ = false := (hb2.frozen (p := ⟨(w.heap.size + 1), 0, none⟩) smx).trans kfx; have cp1_1 : w2.cell? ⟨(w.heap.size + 1), 1, none⟩ = some (.slice none 0 0) := (hb2.cell (p := ⟨(w.heap.size + 1), 1, none⟩) smx).trans kpx; have fp1_1 : w2.frozen? ⟨(w.heap.size + 1), 1, none⟩ = false := (hb2.frozen (p := ⟨(w.heap.size + 1), 1, none⟩) smx).trans kfx; have cp1_2 : w2.cell? ⟨(w.heap.size + 1), 2, none⟩ = some (.int .i64 0) := (hb2.cell (p := ⟨(w.heap.size + 1), 2, none⟩) smx).trans kpx; have fp1_2 : w2.frozen? ⟨(w.heap.size + 1), 2, none⟩ = false := (hb2.frozen (p := ⟨(w.heap.size + 1), 2, none⟩) smx).trans kfx; have sp1 : (w.heap.size + 1) < w2.heap.size := (by have hss := hb2.size; first | omega | (simp at hss; omega))) | (go_at_call 42; refine (specBoxWith_any b ba bc v _ (HR.out.ext bxt) z HZ).mono ?_; rintro e wx ⟨rfl, hwx⟩; subst wx) | (go_at_call 68; refine (specCopySt_any b ba bc l la lc gv _ (HR.out.ext bxt) (RdM.ext HM.out (show Below w.heap.size w _ from bxt)) (HRL.out.ext bxt) hl HLM.out hll).mono ?_; rintro e w7 ⟨gb7, q7, zs7, g7, q8, rfl, hown7, hzb7, hb7⟩; have HO7 := Lib.hid hown7; have HZ7 := Lib.hid hzb7; clear hown7 hzb7; have cu0_0 : w7.cell? ⟨(w.heap.size + 1), 0, none⟩ = some (.slice none 0 0) := (hb7.cell (p := ⟨(w.heap.size + 1), 0, none⟩) smx).trans kpx; have fu0_0 : w7.frozen? ⟨(w.heap.size + 1), 0, none⟩ = false := (hb7.frozen (p := ⟨(w.heap.size + 1), 0, none⟩) smx).trans kfx; have cu0_1 : w7.cell? ⟨(w.heap.size + 1), 1, none⟩ = some (.slice none 0 0) := (hb7.cell (p := ⟨(w.heap.size + 1), 1, none⟩) smx).trans kpx; have fu0_1 : w7.frozen? ⟨(w.heap.size + 1), 1, none⟩ = false := (hb7.frozen (p := ⟨(w.heap.size + 1), 1, none⟩) smx).trans kfx; have cu0_2 : w7.cell? ⟨(w.heap.size + 1), 2, none⟩ = some (.int .i64 0) := (hb7.cell (p := ⟨(w.heap.size + 1), 2, none⟩) smx).trans kpx; have fu0_2 : w7.frozen? ⟨(w.heap.size + 1), 2, none⟩ = false := (hb7.frozen (p := ⟨(w.heap.size + 1), 2, none⟩) smx).trans kfx; have su0 : (w.heap.size + 1) < w7.heap.size := (by have hss := hb7.size; first | omega | (simp at hss; omega))))
    refine bodyPost_ret (v := .tuple #[.agg #[.slice gb7 zs7.length q7, .slice g7 l.length q8, .int .i64 gv], .int .i64 4]) (by simp [results, Tryz.results59, go_sem, *]) rfl ⟨gb7, q7, zs7, g7, q8, rfl, ?_, HZ7.out, ?_⟩
    · exact (by (repeat' (first | with_reducible refine OwnSt.set_at ?_ HO7.out (by (first | omega | (simp <;> omega))) _ | with_reducible refine OwnSt.alloc1 ?_ _ | with_reducible refine OwnSt.drew1 ?_)); exact OwnSt.le HO7.out (by (first | omega | (simp <;> omega))))
    · exact bxt
  | true =>
  obtain ⟨co, hco⟩ := boolOf (1 ≤ op ∧ op ≤ 3)
  have HCO := Lib.hid hco
  clear hco
  cases co with
  | false =>
    obtain ⟨rfl, rfl⟩ : (⟨b.map PBox.box, l, gv⟩ : DStore) = rs ∧ (4 : Int) = rok := by
      have h := H.out
      rw [setD, opD_no (fun h => no_of HCO.out h.2.1)] at h
      exact Prod.mk.inj h
    go_enter Tryz.func59, Tryz.ntmps59
    go_wp2_with (first | (go_at_call 19; refine (specStoreOk_any b ba bc l la lc gv _ (HR.out.ext bxt) (RdM.ext HM.out (show Below w.heap.size w _ from bxt)) (HRL.out.ext bxt) hl HLM.out hll HGN.out HGT.out HGL.out true HSK).mono ?_; rintro e w2 ⟨rfl, hb2⟩; have cp0_0 : w2.cell? ⟨w.heap.size, 0, none⟩ = some (.slice ba b.length bc) := (hb2.cell (p := ⟨w.heap.size, 0, none⟩) smx).trans kpx; have fp0_0 : w2.frozen? ⟨w.heap.size, 0, none⟩ = false := (hb2.frozen (p := ⟨w.heap.size, 0, none⟩) smx).trans kfx; have cp0_1 : w2.cell? ⟨w.heap.size, 1, none⟩ = some (.slice la l.length lc) := (hb2.cell (p := ⟨w.heap.size, 1, none⟩) smx).trans kpx; have fp0_1 : w2.frozen? ⟨w.heap.size, 1, none⟩ = false := (hb2.frozen (p := ⟨w.heap.size, 1, none⟩) smx).trans kfx; have cp0_2 : w2.cell? ⟨w.heap.size, 2, none⟩ = some (.int .i64 gv) := (hb2.cell (p := ⟨w.heap.size, 2, none⟩) smx).trans kpx; have fp0_2 : w2.frozen? ⟨w.heap.size, 2, none⟩ = false := (hb2.frozen (p := ⟨w.heap.size, 2, none⟩) smx).trans kfx; have sp0 : w.heap.size < w2.heap.size := (by have hss := hb2.size; first | omega | (simp at hss; omega)); have cp1_0 : w2.cell? ⟨(w.heap.size + 1), 0, none⟩ = some (.slice none 0 0) := (hb2.cell (p := ⟨(w.heap.size + 1), 0, none⟩) smx).trans kpx; have fp1_0 : w2.frozen? ⟨(w.heap.size + 1), 0, none⟩ = false := (hb2.frozen (p := ⟨(w.heap.size + 1), 0, none⟩) smx).trans kfx; have cp1_1 : w2.cell? ⟨(w.heap.size + 1), 1, none⟩ = some (.slice none 0 0) := (hb2.cell (p := ⟨(w.heap.size + 1), 1, none⟩) smx).trans kpx; have fp1_1 : w2.frozen? ⟨(w.heap.size + 1), 1, none⟩ = false := (hb2.frozen (p := ⟨(w.heap.size + 1), 1, none⟩) smx).trans kfx; have cp1_2 : w2.cell? ⟨(w.heap.size + 1), 2, none⟩ = some (.int .i64 0) := (hb2.cell (p := ⟨(w.heap.size + 1), 2, none⟩) smx).trans kpx; have fp1_2 : w2.frozen? ⟨(w.heap.size + 1), 2, none⟩ = false := (hb2.frozen (p := ⟨(w.heap.size + 1), 2, none⟩) smx).trans kfx; have sp1 : (w.heap.size + 1) < w2.heap.size := (by have hss := hb2.size; first | omega | (simp at hss; omega))) | (go_at_call 42; refine (specBoxWith_any b ba bc v _ (HR.out.ext bxt) z HZ).mono ?_; rintro e wx ⟨rfl, hwx⟩; subst wx) | (go_at_call 74; refine (l1In_any op 1 3 _ false HCO).mono ?_; rintro e wx ⟨rfl, hwx⟩; subst wx) | (go_at_call 68; refine (specCopySt_any b ba bc l la lc gv _ (HR.out.ext bxt) (RdM.ext HM.out (show Below w.heap.size w _ from bxt)) (HRL.out.ext bxt) hl HLM.out hll).mono ?_; rintro e w7 ⟨gb7, q7, zs7, g7, q8, rfl, hown7, hzb7, hb7⟩; have HO7 := Lib.hid hown7; have HZ7 := Lib.hid hzb7; clear hown7 hzb7; have cu0_0 : w7.cell? ⟨(w.heap.size + 1), 0, none⟩ = some (.slice none 0 0) := (hb7.cell (p := ⟨(w.heap.size + 1), 0, none⟩) smx).trans kpx; have fu0_0 : w7.frozen? ⟨(w.heap.size + 1), 0, none⟩ = false := (hb7.frozen (p := ⟨(w.heap.size + 1), 0, none⟩) smx).trans kfx; have cu0_1 : w7.cell? ⟨(w.heap.size + 1), 1, none⟩ = some (.slice none 0 0) := (hb7.cell (p := ⟨(w.heap.size + 1), 1, none⟩) smx).trans kpx; have fu0_1 : w7.frozen? ⟨(w.heap.size + 1), 1, none⟩ = false := (hb7.frozen (p := ⟨(w.heap.size + 1), 1, none⟩) smx).trans kfx; have cu0_2 : w7.cell? ⟨(w.heap.size + 1), 2, none⟩ = some (.int .i64 0) := (hb7.cell (p := ⟨(w.heap.size + 1), 2, none⟩) smx).trans kpx; have fu0_2 : w7.frozen? ⟨(w.heap.size + 1), 2, none⟩ = false := (hb7.frozen (p := ⟨(w.heap.size + 1), 2, none⟩) smx).trans kfx; have su0 : (w.heap.size + 1) < w7.heap.size := (by have hss := hb7.size; first | omega | (simp at hss; omega))))
    refine bodyPost_ret (v := .tuple #[.agg #[.slice gb7 zs7.length q7, .slice g7 l.length q8, .int .i64 gv], .int .i64 4]) (by simp [results, Tryz.results59, go_sem, *]) rfl ⟨gb7, q7, zs7, g7, q8, rfl, ?_, HZ7.out, ?_⟩
    · exact (by (repeat' (first | with_reducible refine OwnSt.set_at ?_ HO7.out (by (first | omega | (simp <;> omega))) _ | with_reducible refine OwnSt.alloc1 ?_ _ | with_reducible refine OwnSt.drew1 ?_)); exact OwnSt.le HO7.out (by (first | omega | (simp <;> omega))))
    · exact bxt
  | true =>
  obtain ⟨cf, hcf⟩ := boolOf (0 ≤ bi ∧ bi ≤ 31)
  have HCF := Lib.hid hcf
  clear hcf
  cases cf with
  | false =>
    obtain ⟨rfl, rfl⟩ : (⟨b.map PBox.box, l, gv⟩ : DStore) = rs ∧ (4 : Int) = rok := by
      have h := H.out
      rw [setD, opD_no (fun h => no_of HCF.out h.2.2)] at h
      exact Prod.mk.inj h
    go_enter Tryz.func59, Tryz.ntmps59
    go_wp2_with (first | (go_at_call 19; refine (specStoreOk_any b ba bc l la lc gv _ (HR.out.ext bxt) (RdM.ext HM.out (show Below w.heap.size w _ from bxt)) (HRL.out.ext bxt) hl HLM.out hll HGN.out HGT.out HGL.out true HSK).mono ?_; rintro e w2 ⟨rfl, hb2⟩; have cp0_0 : w2.cell? ⟨w.heap.size, 0, none⟩ = some (.slice ba b.length bc) := (hb2.cell (p := ⟨w.heap.size, 0, none⟩) smx).trans kpx; have fp0_0 : w2.frozen? ⟨w.heap.size, 0, none⟩ = false := (hb2.frozen (p := ⟨w.heap.size, 0, none⟩) smx).trans kfx; have cp0_1 : w2.cell? ⟨w.heap.size, 1, none⟩ = some (.slice la l.length lc) := (hb2.cell (p := ⟨w.heap.size, 1, none⟩) smx).trans kpx; have fp0_1 : w2.frozen? ⟨w.heap.size, 1, none⟩ = false := (hb2.frozen (p := ⟨w.heap.size, 1, none⟩) smx).trans kfx; have cp0_2 : w2.cell? ⟨w.heap.size, 2, none⟩ = some (.int .i64 gv) := (hb2.cell (p := ⟨w.heap.size, 2, none⟩) smx).trans kpx; have fp0_2 : w2.frozen? ⟨w.heap.size, 2, none⟩ = false := (hb2.frozen (p := ⟨w.heap.size, 2, none⟩) smx).trans kfx; have sp0 : w.heap.size < w2.heap.size := (by have hss := hb2.size; first | omega | (simp at hss; omega)); have cp1_0 : w2.cell? ⟨(w.heap.size + 1), 0, none⟩ = some (.slice none 0 0) := (hb2.cell (p := ⟨(w.heap.size + 1), 0, none⟩) smx).trans kpx; have fp1_0 : w2.frozen? ⟨(w.heap.size + 1), 0, none⟩ = false := (hb2.frozen (p := ⟨(w.heap.size + 1), 0, none⟩) smx).trans kfx; have cp1_1 : w2.cell? ⟨(w.heap.size + 1), 1, none⟩ = some (.slice none 0 0) := (hb2.cell (p := ⟨(w.heap.size + 1), 1, none⟩) smx).trans kpx; have fp1_1 : w2.frozen? ⟨(w.heap.size + 1), 1, none⟩ = false := (hb2.frozen (p := ⟨(w.heap.size + 1), 1, none⟩) smx).trans kfx; have cp1_2 : w2.cell? ⟨(w.heap.size + 1), 2, none⟩ = some (.int .i64 0) := (hb2.cell (p := ⟨(w.heap.size + 1), 2, none⟩) smx).trans kpx; have fp1_2 : w2.frozen? ⟨(w.heap.size + 1), 2, none⟩ = false := (hb2.frozen (p := ⟨(w.heap.size + 1), 2, none⟩) smx).trans kfx; have sp1 : (w.heap.size + 1) < w2.heap.size := (by have hss := hb2.size; first | omega | (simp at hss; omega))) | (go_at_call 42; refine (specBoxWith_any b ba bc v _ (HR.out.ext bxt) z HZ).mono ?_; rintro e wx ⟨rfl, hwx⟩; subst wx) | (go_at_call 74; refine (l1In_any op 1 3 _ true HCO).mono ?_; rintro e wx ⟨rfl, hwx⟩; subst wx) | (go_at_call 101; refine (sFlagsOk_any bi _ false HCF).mono ?_; rintro e wx ⟨rfl, hwx⟩; subst wx) | (go_at_call 68; refine (specCopySt_any b ba bc l la lc gv _ (HR.out.ext bxt) (RdM.ext HM.out (show Below w.heap.size w _ from bxt)) (HRL.out.ext bxt) hl HLM.out hll).mono ?_; rintro e w7 ⟨gb7, q7, zs7, g7, q8, rfl, hown7, hzb7, hb7⟩; have HO7 := Lib.hid hown7; have HZ7 := Lib.hid hzb7; clear hown7 hzb7; have cu0_0 : w7.cell? ⟨(w.heap.size + 1), 0, none⟩ = some (.slice none 0 0) := (hb7.cell (p := ⟨(w.heap.size + 1), 0, none⟩) smx).trans kpx; have fu0_0 : w7.frozen? ⟨(w.heap.size + 1), 0, none⟩ = false := (hb7.frozen (p := ⟨(w.heap.size + 1), 0, none⟩) smx).trans kfx; have cu0_1 : w7.cell? ⟨(w.heap.size + 1), 1, none⟩ = some (.slice none 0 0) := (hb7.cell (p := ⟨(w.heap.size + 1), 1, none⟩) smx).trans kpx; have fu0_1 : w7.frozen? ⟨(w.heap.size + 1), 1, none⟩ = false := (hb7.frozen (p := ⟨(w.heap.size + 1), 1, none⟩) smx).trans kfx; have cu0_2 : w7.cell? ⟨(w.heap.size + 1), 2, none⟩ = some (.int .i64 0) := (hb7.cell (p := ⟨(w.heap.size + 1), 2, none⟩) smx).trans kpx; have fu0_2 : w7.frozen? ⟨(w.heap.size + 1), 2, none⟩ = false := (hb7.frozen (p := ⟨(w.heap.size + 1), 2, none⟩) smx).trans kfx; have su0 : (w.heap.size + 1) < w7.heap.size := (by have hss := hb7.size; first | omega | (simp at hss; omega))))
    refine bodyPost_ret (v := .tuple #[.agg #[.slice gb7 zs7.length q7, .slice g7 l.length q8, .int .i64 gv], .int .i64 4]) (by simp [results, Tryz.results59, go_sem, *]) rfl ⟨gb7, q7, zs7, g7, q8, rfl, ?_, HZ7.out, ?_⟩
    · exact (by (repeat' (first | with_reducible refine OwnSt.set_at ?_ HO7.out (by (first | omega | (simp <;> omega))) _ | with_reducible refine OwnSt.alloc1 ?_ _ | with_reducible refine OwnSt.drew1 ?_)); exact OwnSt.le HO7.out (by (first | omega | (simp <;> omega))))
    · exact bxt
  | true =>
  have HB0 : Hid (stepsB v (gSet v op bi) ⟨b.map PBox.box, l, gv⟩ us = (rs, rok)) := Lib.hid (by
    have h := H.out
    rwa [setD, opD_yes (yes_of HSK.out) ⟨yes_of HCO.out, yes_of HCF.out⟩] at h)
  by_cases hs0 : z < 0
  · have hd1 : decide (z < 0) = true := decide_eq_true hs0
    obtain ⟨rfl, rfl⟩ : (⟨b.map PBox.box, l, gv⟩ : DStore) = rs ∧ (1 : Int) = rok := by
      have h := HB0.out
      rw [stepsB, if_pos (show boxWith v (b.map PBox.box) < 0 by rw [HZ.out]; exact hs0)] at h
      exact Prod.mk.inj h
    have HS0 := Lib.hid hs0
    clear hs0
    go_enter Tryz.func59, Tryz.ntmps59
    go_wp2_with (first | (go_at_call 19; refine (specStoreOk_any b ba bc l la lc gv _ (HR.out.ext bxt) (RdM.ext HM.out (show Below w.heap.size w _ from bxt)) (HRL.out.ext bxt) hl HLM.out hll HGN.out HGT.out HGL.out true HSK).mono ?_; rintro e w2 ⟨rfl, hb2⟩; have cp0_0 : w2.cell? ⟨w.heap.size, 0, none⟩ = some (.slice ba b.length bc) := (hb2.cell (p := ⟨w.heap.size, 0, none⟩) smx).trans kpx; have fp0_0 : w2.frozen? ⟨w.heap.size, 0, none⟩ = false := (hb2.frozen (p := ⟨w.heap.size, 0, none⟩) smx).trans kfx; have cp0_1 : w2.cell? ⟨w.heap.size, 1, none⟩ = some (.slice la l.length lc) := (hb2.cell (p := ⟨w.heap.size, 1, none⟩) smx).trans kpx; have fp0_1 : w2.frozen? ⟨w.heap.size, 1, none⟩ = false := (hb2.frozen (p := ⟨w.heap.size, 1, none⟩) smx).trans kfx; have cp0_2 : w2.cell? ⟨w.heap.size, 2, none⟩ = some (.int .i64 gv) := (hb2.cell (p := ⟨w.heap.size, 2, none⟩) smx).trans kpx; have fp0_2 : w2.frozen? ⟨w.heap.size, 2, none⟩ = false := (hb2.frozen (p := ⟨w.heap.size, 2, none⟩) smx).trans kfx; have sp0 : w.heap.size < w2.heap.size := (by have hss := hb2.size; first | omega | (simp at hss; omega)); have cp1_0 : w2.cell? ⟨(w.heap.size + 1), 0, none⟩ = some (.slice none 0 0) := (hb2.cell (p := ⟨(w.heap.size + 1), 0, none⟩) smx).trans kpx; have fp1_0 : w2.frozen? ⟨(w.heap.size + 1), 0, none⟩ = false := (hb2.frozen (p := ⟨(w.heap.size + 1), 0, none⟩) smx).trans kfx; have cp1_1 : w2.cell? ⟨(w.heap.size + 1), 1, none⟩ = some (.slice none 0 0) := (hb2.cell (p := ⟨(w.heap.size + 1), 1, none⟩) smx).trans kpx; have fp1_1 : w2.frozen? ⟨(w.heap.size + 1), 1, none⟩ = false := (hb2.frozen (p := ⟨(w.heap.size + 1), 1, none⟩) smx).trans kfx; have cp1_2 : w2.cell? ⟨(w.heap.size + 1), 2, none⟩ = some (.int .i64 0) := (hb2.cell (p := ⟨(w.heap.size + 1), 2, none⟩) smx).trans kpx; have fp1_2 : w2.frozen? ⟨(w.heap.size + 1), 2, none⟩ = false := (hb2.frozen (p := ⟨(w.heap.size + 1), 2, none⟩) smx).trans kfx; have sp1 : (w.heap.size + 1) < w2.heap.size := (by have hss := hb2.size; first | omega | (simp at hss; omega))) | (go_at_call 42; refine (specBoxWith_any b ba bc v _ (HR.out.ext bxt) z HZ).mono ?_; rintro e wx ⟨rfl, hwx⟩; subst wx) | (go_at_call 74; refine (l1In_any op 1 3 _ true HCO).mono ?_; rintro e wx ⟨rfl, hwx⟩; subst wx) | (go_at_call 101; refine (sFlagsOk_any bi _ true HCF).mono ?_; rintro e wx ⟨rfl, hwx⟩; subst wx) | (go_at_call 68; refine (specCopySt_any b ba bc l la lc gv _ (HR.out.ext bxt) (RdM.ext HM.out (show Below w.heap.size w _ from bxt)) (HRL.out.ext bxt) hl HLM.out hll).mono ?_; rintro e w7 ⟨gb7, q7, zs7, g7, q8, rfl, hown7, hzb7, hb7⟩; have HO7 := Lib.hid hown7; have HZ7 := Lib.hid hzb7; clear hown7 hzb7; have cu0_0 : w7.cell? ⟨(w.heap.size + 1), 0, none⟩ = some (.slice none 0 0) := (hb7.cell (p := ⟨(w.heap.size + 1), 0, none⟩) smx).trans kpx; have fu0_0 : w7.frozen? ⟨(w.heap.size + 1), 0, none⟩ = false := (hb7.frozen (p := ⟨(w.heap.size + 1), 0, none⟩) smx).trans kfx; have cu0_1 : w7.cell? ⟨(w.heap.size + 1), 1, none⟩ = some (.slice none 0 0) := (hb7.cell (p := ⟨(w.heap.size + 1), 1, none⟩) smx).trans kpx; have fu0_1 : w7.frozen? ⟨(w.heap.size + 1), 1, none⟩ = false := (hb7.frozen (p := ⟨(w.heap.size + 1), 1, none⟩) smx).trans kfx; have cu0_2 : w7.cell? ⟨(w.heap.size + 1), 2, none⟩ = some (.int .i64 0) := (hb7.cell (p := ⟨(w.heap.size + 1), 2, none⟩) smx).trans kpx; have fu0_2 : w7.frozen? ⟨(w.heap.size + 1), 2, none⟩ = false := (hb7.frozen (p := ⟨(w.heap.size + 1), 2, none⟩) smx).trans kfx; have su0 : (w.heap.size + 1) < w7.heap.size := (by have hss := hb7.size; first | omega | (simp at hss; omega))))
    refine bodyPost_ret (v := .tuple #[.agg #[.slice gb7 zs7.length q7, .slice g7 l.length q8, .int .i64 gv], .int .i64 1]) (by simp [results, Tryz.results59, go_sem, *]) rfl ⟨gb7, q7, zs7, g7, q8, rfl, ?_, HZ7.out, ?_⟩
    · exact (by (repeat' (first | with_reducible refine OwnSt.set_at ?_ HO7.out (by (first | omega | (simp <;> omega))) _ | with_reducible refine OwnSt.alloc1 ?_ _ | with_reducible refine OwnSt.drew1 ?_)); exact OwnSt.le HO7.out (by (first | omega | (simp <;> omega))))
    · exact bxt
  have hd1 : decide (z < 0) = false := decide_eq_false hs0
  have hzl : z < (b.length : Int) := by
    have h := (firstI_range (fun y : DBox => decide (y.validity = v)) (b.map PBox.box)).2
    rw [List.length_map] at h
    rw [← HZ.out]
    exact h
  obtain ⟨kb, hkb⟩ : ∃ kb : Nat, z = kb := ⟨z.toNat, by omega⟩
  subst hkb
  have HKB : Hid (kb < (b.map PBox.box).length) := Lib.hid (by rw [List.length_map]; omega)
  obtain ⟨⟨tt, rk⟩, htt⟩ : ∃ x, stepsD v (gSet v op bi) ⟨b.map PBox.box, l, gv⟩ us = x := ⟨_, rfl⟩
  have HTT := Lib.hid htt
  have HRS : Hid ((if rk = true then (tt, (0 : Int)) else (⟨b.map PBox.box, l, gv⟩, 2)) = (rs, rok)) := Lib.hid (by
    have h := HB0.out
    rw [stepsB, if_neg (show ¬ boxWith v (b.map PBox.box) < 0 by rw [HZ.out]; exact hs0), htt] at h
    exact h)
  have HMA := Lib.hid (gSet_act v op bi)
  clear htt hzl hs0 HB0 H
  go_enter Tryz.func59, Tryz.ntmps59
  go_wp2_with (first | (go_at_call 19; refine (specStoreOk_any b ba bc l la lc gv _ (HR.out.ext bxt) (RdM.ext HM.out (show Below w.heap.size w _ from bxt)) (HRL.out.ext bxt) hl HLM.out hll HGN.out HGT.out HGL.out true HSK).mono ?_; rintro e w2 ⟨rfl, hb2⟩; have cp0_0 : w2.cell? ⟨w.heap.size, 0, none⟩ = some (.slice ba b.length bc) := (hb2.cell (p := ⟨w.heap.size, 0, none⟩) smx).trans kpx; have fp0_0 : w2.frozen? ⟨w.heap.size, 0, none⟩ = false := (hb2.frozen (p := ⟨w.heap.size, 0, none⟩) smx).trans kfx; have cp0_1 : w2.cell? ⟨w.heap.size, 1, none⟩ = some (.slice la l.length lc) := (hb2.cell (p := ⟨w.heap.size, 1, none⟩) smx).trans kpx; have fp0_1 : w2.frozen? ⟨w.heap.size, 1, none⟩ = false := (hb2.frozen (p := ⟨w.heap.size, 1, none⟩) smx).trans kfx; have cp0_2 : w2.cell? ⟨w.heap.size, 2, none⟩ = some (.int .i64 gv) := (hb2.cell (p := ⟨w.heap.size, 2, none⟩) smx).trans kpx; have fp0_2 : w2.frozen? ⟨w.heap.size, 2, none⟩ = false := (hb2.frozen (p := ⟨w.heap.size, 2, none⟩) smx).trans kfx; have sp0 : w.heap.size < w2.heap.size := (by have hss := hb2.size; first | omega | (simp at hss; omega)); have cp1_0 : w2.cell? ⟨(w.heap.size + 1), 0, none⟩ = some (.slice none 0 0) := (hb2.cell (p := ⟨(w.heap.size + 1), 0, none⟩) smx).trans kpx; have fp1_0 : w2.frozen? ⟨(w.heap.size + 1), 0, none⟩ = false := (hb2.frozen (p := ⟨(w.heap.size + 1), 0, none⟩) smx).trans kfx; have cp1_1 : w2.cell? ⟨(w.heap.size + 1), 1, none⟩ = some (.slice none 0 0) := (hb2.cell (p := ⟨(w.heap.size + 1), 1, none⟩) smx).trans kpx; have fp1_1 : w2.frozen? ⟨(w.heap.size + 1), 1, none⟩ = false := (hb2.frozen (p := ⟨(w.heap.size + 1), 1, none⟩) smx).trans kfx; have cp1_2 : w2.cell? ⟨(w.heap.size + 1), 2, none⟩ = some (.int .i64 0) := (hb2.cell (p := ⟨(w.heap.size + 1), 2, none⟩) smx).trans kpx; have fp1_2 : w2.frozen? ⟨(w.heap.size + 1), 2, none⟩ = false := (hb2.frozen (p := ⟨(w.heap.size + 1), 2, none⟩) smx).trans kfx; have sp1 : (w.heap.size + 1) < w2.heap.size := (by have hss := hb2.size; first | omega | (simp at hss; omega))) | (go_at_call 42; refine (specBoxWith_any b ba bc v _ (HR.out.ext bxt) (kb : Int) HZ).mono ?_; rintro e wx ⟨rfl, hwx⟩; subst wx) | (go_at_call 74; refine (l1In_any op 1 3 _ true HCO).mono ?_; rintro e wx ⟨rfl, hwx⟩; subst wx) | (go_at_call 101; refine (sFlagsOk_any bi _ true HCF).mono ?_; rintro e wx ⟨rfl, hwx⟩; subst wx) | (go_at_call 68; refine (specCopySt_any b ba bc l la lc gv _ (HR.out.ext bxt) (RdM.ext HM.out (show Below w.heap.size w _ from bxt)) (HRL.out.ext bxt) hl HLM.out hll).mono ?_; rintro e w4 ⟨gb0, q, zs, g2, q2, rfl, hown, hzb, hb4⟩; have HO : Hid (OwnSt w4 (w.heap.size + 2) 49 66 41 gb0 q zs g2 q2 l) := OwnSt.le hown (by first | omega | (simp; done) | (simp; omega)); have HZB := Lib.hid hzb; clear hown hzb; have cp0_0 : w4.cell? ⟨w.heap.size, 0, none⟩ = some (.slice ba b.length bc) := (hb4.cell (p := ⟨w.heap.size, 0, none⟩) smx).trans kpx; have fp0_0 : w4.frozen? ⟨w.heap.size, 0, none⟩ = false := (hb4.frozen (p := ⟨w.heap.size, 0, none⟩) smx).trans kfx; have cp0_1 : w4.cell? ⟨w.heap.size, 1, none⟩ = some (.slice la l.length lc) := (hb4.cell (p := ⟨w.heap.size, 1, none⟩) smx).trans kpx; have fp0_1 : w4.frozen? ⟨w.heap.size, 1, none⟩ = false := (hb4.frozen (p := ⟨w.heap.size, 1, none⟩) smx).trans kfx; have cp0_2 : w4.cell? ⟨w.heap.size, 2, none⟩ = some (.int .i64 gv) := (hb4.cell (p := ⟨w.heap.size, 2, none⟩) smx).trans kpx; have fp0_2 : w4.frozen? ⟨w.heap.size, 2, none⟩ = false := (hb4.frozen (p := ⟨w.heap.size, 2, none⟩) smx).trans kfx; have sp0 : w.heap.size < w4.heap.size := (by have hss := hb4.size; first | omega | (simp at hss; omega)); have cp1_0 : w4.cell? ⟨(w.heap.size + 1), 0, none⟩ = some (.slice none 0 0) := (hb4.cell (p := ⟨(w.heap.size + 1), 0, none⟩) smx).trans kpx; have fp1_0 : w4.frozen? ⟨(w.heap.size + 1), 0, none⟩ = false := (hb4.frozen (p := ⟨(w.heap.size + 1), 0, none⟩) smx).trans kfx; have cp1_1 : w4.cell? ⟨(w.heap.size + 1), 1, none⟩ = some (.slice none 0 0) := (hb4.cell (p := ⟨(w.heap.size + 1), 1, none⟩) smx).trans kpx; have fp1_1 : w4.frozen? ⟨(w.heap.size + 1), 1, none⟩ = false := (hb4.frozen (p := ⟨(w.heap.size + 1), 1, none⟩) smx).trans kfx; have cp1_2 : w4.cell? ⟨(w.heap.size + 1), 2, none⟩ = some (.int .i64 0) := (hb4.cell (p := ⟨(w.heap.size + 1), 2, none⟩) smx).trans kpx; have fp1_2 : w4.frozen? ⟨(w.heap.size + 1), 2, none⟩ = false := (hb4.frozen (p := ⟨(w.heap.size + 1), 2, none⟩) smx).trans kfx; have sp1 : (w.heap.size + 1) < w4.heap.size := (by have hss := hb4.size; first | omega | (simp at hss; omega))))
  have hbw4 : Below w.heap.size w w4 := bxt
  have hs24 : w.heap.size + 2 ≤ w4.heap.size := by omega
  go_loopw [14] (StepLoopS v (gSet v op bi) us (tt, rk) kb 49 66 41 w4.heap.size (w.heap.size + 2) w4) (fun i _ => us.length - (intOf i).toNat)
  case atStart => exact ⟨0, ⟨b.map PBox.box, l, gv⟩, gb0, q, zs, g2, q2, Nat.zero_le _, rfl, Lib.hid (StB.new HO.out), HZB, HG0, HZ, HKB, HTT, Below.alloc (Below.refl _ _) hs24 _⟩
  case round =>
    obtain ⟨k, cur, ga, q, zs, la2, lc2, hk, rfl, HS, HZB2, HG, HBK, HKL, HC, hbe⟩ := hrel
    have hbw : Below w.heap.size w wr := hbw4.trans (hbe.mono (by omega))
    have hws : w4.heap.size ≤ wr.heap.size := hbe.size
    have e0 := HS.out.c0
    have e1 := HS.out.c1
    have e2 := HS.out.c2
    have hGs := HS.out.lt
    have ca0_0 : wr.cell? ⟨w.heap.size, 0, none⟩ = some (.slice ba b.length bc) := (hbe.cell (p := ⟨w.heap.size, 0, none⟩) smx).trans kpx
    have fa0_0 : wr.frozen? ⟨w.heap.size, 0, none⟩ = false := (hbe.frozen (p := ⟨w.heap.size, 0, none⟩) smx).trans kfx
    have ca0_1 : wr.cell? ⟨w.heap.size, 1, none⟩ = some (.slice la l.length lc) := (hbe.cell (p := ⟨w.heap.size, 1, none⟩) smx).trans kpx
    have fa0_1 : wr.frozen? ⟨w.heap.size, 1, none⟩ = false := (hbe.frozen (p := ⟨w.heap.size, 1, none⟩) smx).trans kfx
    have ca0_2 : wr.cell? ⟨w.heap.size, 2, none⟩ = some (.int .i64 gv) := (hbe.cell (p := ⟨w.heap.size, 2, none⟩) smx).trans kpx
    have fa0_2 : wr.frozen? ⟨w.heap.size, 2, none⟩ = false := (hbe.frozen (p := ⟨w.heap.size, 2, none⟩) smx).trans kfx
    have sa0 : w.heap.size < wr.heap.size := (by have hss := hbe.size; first | omega | (simp at hss; omega))
    have ca1_0 : wr.cell? ⟨(w.heap.size + 1), 0, none⟩ = some (.slice none 0 0) := (hbe.cell (p := ⟨(w.heap.size + 1), 0, none⟩) smx).trans kpx
    have fa1_0 : wr.frozen? ⟨(w.heap.size + 1), 0, none⟩ = false := (hbe.frozen (p := ⟨(w.heap.size + 1), 0, none⟩) smx).trans kfx
    have ca1_1 : wr.cell? ⟨(w.heap.size + 1), 1, none⟩ = some (.slice none 0 0) := (hbe.cell (p := ⟨(w.heap.size + 1), 1, none⟩) smx).trans kpx
    have fa1_1 : wr.frozen? ⟨(w.heap.size + 1), 1, none⟩ = false := (hbe.frozen (p := ⟨(w.heap.size + 1), 1, none⟩) smx).trans kfx
    have ca1_2 : wr.cell? ⟨(w.heap.size + 1), 2, none⟩ = some (.int .i64 0) := (hbe.cell (p := ⟨(w.heap.size + 1), 2, none⟩) smx).trans kpx
    have fa1_2 : wr.frozen? ⟨(w.heap.size + 1), 2, none⟩ = false := (hbe.frozen (p := ⟨(w.heap.size + 1), 2, none⟩) smx).trans kfx
    have sa1 : (w.heap.size + 1) < wr.heap.size := (by have hss := hbe.size; first | omega | (simp at hss; omega))
    by_cases hlt : k < us.length
    · obtain ⟨cb, cl, cg⟩ := cur
      dsimp only at HS HZB2 HKL HBK e0 e1 e2
      obtain rfl := HZB2.out
      have hkb1 : kb < zs.length := by simpa using HKL.out
      obtain ⟨ub, uo, rfl, hubl, hatu⟩ := HRU.out.ptr (by omega)
      have cu := intCells_at (hatu.ext hubl hbw) k hlt
      have hub2 : ub < wr.heap.size := Nat.lt_of_lt_of_le hubl hbw.size
      obtain ⟨gb, go, rfl, hgb, hat⟩ := HS.out.own.box.rd.ptr (by omega)
      obtain ⟨x0, x1, x2, x3⟩ := PBox.at hat kb hkb1
      have i1 : (kb : Int) < (zs.length : Int) := by omega
      have hk1 : (k : Int) < (us.length : Int) := by omega
      obtain ⟨z2, hz2⟩ : ∃ z2, placeOf us[k] zs[kb].msgs = z2 := ⟨_, rfl⟩
      have HZ2 := Lib.hid hz2
      have HPZ : Hid (placeOf us[k] ((zs.map PBox.box)[kb]'HKL.out).msgs = z2) := Lib.hid (by rw [List.getElem_map]; exact hz2)
      have HAT := Lib.hid hat
      clear hat hatu hz2
      have q0 := fun y : ExtW wr => (y.h.cell (p := ⟨w4.heap.size, 0, none⟩) hGs).trans e0
      have q1 := fun y : ExtW wr => (y.h.cell (p := ⟨ub, uo + k, none⟩) hub2).trans cu
      have q2 := fun y : ExtW wr => (y.h.cell (p := ⟨gb, go + kb * 4, none⟩) hgb).trans x0
      have q3 := fun y : ExtW wr => (y.h.cell (p := ⟨gb, go + kb * 4 + 1, none⟩) hgb).trans x1
      have q4 := fun y : ExtW wr => (y.h.cell (p := ⟨gb, go + kb * 4 + 2, none⟩) hgb).trans x2
      have q5 := fun y : ExtW wr => (y.h.cell (p := ⟨gb, go + kb * 4 + 3, none⟩) hgb).trans x3
      go_wp2_with fail
      refine wp_region_ext (by kernel_rfl) (by kernel_rfl) ?_
      repeat (go_big_quiet_step ((go_at_call 48; refine (specPlaceOf_any zs[kb].name zs[kb].validity zs[kb].next zs[kb].msgs _ _ us[k] _ ((HS.out.own.box.rdm _ (List.getElem_mem hkb1)).ext (ExtW.of (Below.refl _ _) _)) z2 HZ2).mono ?_; rintro e w5 ⟨rfl, hb5⟩; exact ⟨rfl, ExtW.on _ hb5⟩)))
      refine wpQuiet_nil ?_
      rintro w3 ⟨⟨w3x, hw3⟩, hx3⟩
      have hx3' : w3 = w3x := hx3
      subst hx3'
      clear hx3 q0 q1 q2 q3 q4 q5
      have HSW := Lib.hid (HS.out.ext hw3)
      have hbe3 : Below (w.heap.size + 2) w4 w3 := Below.extB hbe hw3 (by omega)
      have hbw3 : Below w.heap.size w w3 := Below.ext hbw hw3
      by_cases hz0 : z2 < 0
      · have hd0 : decide (z2 < 0) = true := decide_eq_true hz0
        have HZ0 := Lib.hid hz0
        clear hz0
        go_wp2_with fail
        go_roundw
        case rel => exact StepLoopS.mk (m := ⟨0, 0, ByteArray.empty⟩) HMA.out hlt HG.out HBK.out HKL.out HC.out (Or.inr rfl) (steps_skip (stepM_none HKL.out HBK.out (by rw [HPZ.out]; exact HZ0.out))) HSW.out rfl hbe3
        case measure => simp [intOf]; omega
      have hd0 : decide (z2 < 0) = false := decide_eq_false hz0
      have hzl : z2 < (zs[kb].msgs.length : Int) := by
        have h := (firstI_range (fun m : DMsg => decide (m.uid = us[k])) zs[kb].msgs).2
        rw [← HZ2.out]
        exact h
      obtain ⟨j, hj⟩ : ∃ j : Nat, z2 = j := ⟨z2.toNat, by omega⟩
      subst hj
      have hjl : j < zs[kb].msgs.length := by omega
      have j1 : (j : Int) < (zs[kb].msgs.length : Int) := by omega
      have HUID := Lib.hid (uid_at hjl HZ2.out)
      obtain ⟨mb, mo, hma, hmb, hatm⟩ := (HSW.out.own.box.rdm _ (List.getElem_mem hkb1)).ptr (by omega)
      obtain ⟨m0, m1, m2⟩ := DMsg.at hatm j hjl
      have hgb3 : gb < w3.heap.size := Nat.lt_of_lt_of_le hgb hw3.size
      have y0 : w3.cell? ⟨w4.heap.size, 0, none⟩ = _ := (hw3.cell (p := ⟨w4.heap.size, 0, none⟩) hGs).trans e0
      have y1 : w3.cell? ⟨w4.heap.size, 1, none⟩ = _ := (hw3.cell (p := ⟨w4.heap.size, 1, none⟩) hGs).trans e1
      have y2 : w3.cell? ⟨w4.heap.size, 2, none⟩ = _ := (hw3.cell (p := ⟨w4.heap.size, 2, none⟩) hGs).trans e2
      have y3 : w3.cell? ⟨gb, go + kb * 4 + 3, none⟩ = _ := (hw3.cell (p := ⟨gb, go + kb * 4 + 3, none⟩) hgb).trans x3
      have y4 : w3.cell? ⟨ub, uo + k, none⟩ = _ := (hw3.cell (p := ⟨ub, uo + k, none⟩) hub2).trans cu
      have hG3 : w4.heap.size < w3.heap.size := Nat.lt_of_lt_of_le hGs hw3.size
      have hu3 : ub < w3.heap.size := Nat.lt_of_lt_of_le hub2 hw3.size
      rw [hma] at y3
      have hbx0 : w.heap.size < w3.heap.size := by (have := hbe3.size; omega)
      have hbx1 : w.heap.size + 1 < w3.heap.size := by (have := hbe3.size; omega)
      have cb0_0 : w3.cell? ⟨w.heap.size, 0, none⟩ = some (.slice ba b.length bc) := (hbe3.cell (p := ⟨w.heap.size, 0, none⟩) smx).trans kpx
      have fb0_0 : w3.frozen? ⟨w.heap.size, 0, none⟩ = false := (hbe3.frozen (p := ⟨w.heap.size, 0, none⟩) smx).trans kfx
      have cb0_1 : w3.cell? ⟨w.heap.size, 1, none⟩ = some (.slice la l.length lc) := (hbe3.cell (p := ⟨w.heap.size, 1, none⟩) smx).trans kpx
      have fb0_1 : w3.frozen? ⟨w.heap.size, 1, none⟩ = false := (hbe3.frozen (p := ⟨w.heap.size, 1, none⟩) smx).trans kfx
      have cb0_2 : w3.cell? ⟨w.heap.size, 2, none⟩ = some (.int .i64 gv) := (hbe3.cell (p := ⟨w.heap.size, 2, none⟩) smx).trans kpx
      have fb0_2 : w3.frozen? ⟨w.heap.size, 2, none⟩ = false := (hbe3.frozen (p := ⟨w.heap.size, 2, none⟩) smx).trans kfx
      have sb0 : w.heap.size < w3.heap.size := (by have hss := hbe3.size; first | omega | (simp at hss; omega))
      have cb1_0 : w3.cell? ⟨(w.heap.size + 1), 0, none⟩ = some (.slice none 0 0) := (hbe3.cell (p := ⟨(w.heap.size + 1), 0, none⟩) smx).trans kpx
      have fb1_0 : w3.frozen? ⟨(w.heap.size + 1), 0, none⟩ = false := (hbe3.frozen (p := ⟨(w.heap.size + 1), 0, none⟩) smx).trans kfx
      have cb1_1 : w3.cell? ⟨(w.heap.size + 1), 1, none⟩ = some (.slice none 0 0) := (hbe3.cell (p := ⟨(w.heap.size + 1), 1, none⟩) smx).trans kpx
      have fb1_1 : w3.frozen? ⟨(w.heap.size + 1), 1, none⟩ = false := (hbe3.frozen (p := ⟨(w.heap.size + 1), 1, none⟩) smx).trans kfx
      have cb1_2 : w3.cell? ⟨(w.heap.size + 1), 2, none⟩ = some (.int .i64 0) := (hbe3.cell (p := ⟨(w.heap.size + 1), 2, none⟩) smx).trans kpx
      have fb1_2 : w3.frozen? ⟨(w.heap.size + 1), 2, none⟩ = false := (hbe3.frozen (p := ⟨(w.heap.size + 1), 2, none⟩) smx).trans kfx
      have sb1 : (w.heap.size + 1) < w3.heap.size := (by have hss := hbe3.size; first | omega | (simp at hss; omega))
      have HCB : Hid (w3.cell? ⟨w.heap.size, 0, none⟩ = _) := Lib.hid cb0_0
      clear e0 e1 e2 x0 x1 x2 x3 cu hatm hz0 hzl hma
      obtain ⟨r0, hr0⟩ : ∃ r, chgF op zs[kb].msgs[j].flags bi = r := ⟨_, rfl⟩
      have HR0 := Lib.hid hr0
      clear hr0
      by_cases hq : r0 = zs[kb].msgs[j].flags
      · have hd2 : (r0 == zs[kb].msgs[j].flags) = true := by simp [hq]
        have HQ := Lib.hid hq
        clear hq
        go_wp2_with (go_at_call 60; refine (specChanged_any op zs[kb].msgs[j].flags bi _ r0 HR0).mono ?_; rintro e wx ⟨rfl, hwx⟩; subst wx)
        go_roundw
        case rel => exact StepLoopS.mk HMA.out hlt HG.out HBK.out HKL.out HC.out (Or.inl (act_none (m := zs[kb].msgs[j]) (gSet_none (HR0.out.trans HQ.out)))) (by have h := steps_act (us := us.drop (k + 1)) (u := us[k]) HKL.out HBK.out (by simpa [PBox.box] using hjl) HPZ.out (show ActRel (gSet v op bi) ⟨zs.map PBox.box, cl, cg⟩ _ ⟨zs.map PBox.box, cl, cg⟩ true from act_none (by simpa [PBox.box] using (gSet_none (HR0.out.trans HQ.out)))); simpa using h) HSW.out rfl hbe3
        case measure => simp [intOf]; omega
      have hd2 : (r0 == zs[kb].msgs[j].flags) = false := by simp [hq]
      have HQ := Lib.hid hq
      clear hq
      obtain ⟨r, hr⟩ := boolOf (ComP ⟨zs.map PBox.box, cl, cg⟩ (⟨5, v, us[k], r0, ⟨#[]⟩, ⟨#[]⟩⟩ : DCommit))
      obtain ⟨rs6, hrs6⟩ : ∃ x, (if r then comD ⟨zs.map PBox.box, cl, cg⟩ (⟨5, v, us[k], r0, ⟨#[]⟩, ⟨#[]⟩⟩ : DCommit) else ⟨zs.map PBox.box, cl, cg⟩) = x := ⟨_, rfl⟩
      have HT : Hid (CmtRel ⟨zs.map PBox.box, cl, cg⟩ (⟨5, v, us[k], r0, ⟨#[]⟩, ⟨#[]⟩⟩ : DCommit) rs6 r) := Lib.hid ⟨hr, hrs6⟩
      have HAR : Hid (ActRel (gSet v op bi) ⟨zs.map PBox.box, cl, cg⟩ zs[kb].msgs[j] rs6 r) := Lib.hid (act_some (by rw [gSet_some HR0.out HQ.out, HUID.out]) HT.out)
      have HSE := Lib.hid (steps_act (us := us.drop (k + 1)) (u := us[k]) HKL.out HBK.out (by simpa [PBox.box] using hjl) HPZ.out (show ActRel (gSet v op bi) ⟨zs.map PBox.box, cl, cg⟩ _ rs6 r by simpa [PBox.box] using HAR.out))
      have GM1 : ((⟨5, v, us[k], r0, ⟨#[]⟩, ⟨#[]⟩⟩ : DCommit)).name.size ≤ 9223372036854775807 := Nat.zero_le _
      have GM2 : ((⟨5, v, us[k], r0, ⟨#[]⟩, ⟨#[]⟩⟩ : DCommit)).text.size ≤ 9223372036854775807 := Nat.zero_le _
      obtain ⟨hl5, hlm5', hgn5', hgt5'⟩ := good_to HG.out.1
      have hll5 := HG.out.2.1
      have hlm5 := Lib.hid hlm5'
      have hgn5 := Lib.hid hgn5'
      have hgt5 := Lib.hid hgt5'
      clear hlm5' hgn5' hgt5' hr hrs6
      go_upto_region 15 with ((go_at_call 60; refine (specChanged_any op zs[kb].msgs[j].flags bi _ r0 HR0).mono ?_; rintro e wx ⟨rfl, hwx⟩; subst wx))
      go_cut [18, 19] (fun v u wx => CutS 49 66 41 rs6 w3 v wx ∧ u = .bool r)
      case first =>
        go_region_held3 (fun w' => Below w3.heap.size w3 w' ∧ (∀ b o, b < w3.heap.size → w'.cell? ⟨b, o, none⟩ = w3.cell? ⟨b, o, none⟩)) (first | with_reducible exact sBeg _ | with_reducible exact sExt (by assumption) (by assumption) | (refine sMk3 ?_; exact bxt)) ((go_at_call 26; refine (specCommitted_law zs (some ⟨gb, go, none⟩) q cl la2 lc2 cg (⟨5, v, us[k], r0, ⟨#[]⟩, ⟨#[]⟩⟩ : DCommit) _ ((HSW.out.own.box.rd).ext bxt) (RdM.ext HSW.out.own.box.rdm (show Below w3.heap.size w3 _ from bxt)) ((Rd.of_Own HSW.out.own.log).ext bxt) hl5 hlm5.out hll5 hgn5.out hgt5.out GM1 GM2 rs6 r HT).mono ?_; rintro e w6 ⟨ga6, qa6, zs6, gc6, qc6, rfl, hown, hqz, hb6⟩; have HX6 := Lib.hid hown; have HZ6 := Lib.hid hqz; clear hown hqz; have hzz6 := hb6.size; (try simp at hzz6); (try (have hx6 : w3.heap.size < w6.heap.size := hzz6; (first | have hy6_0 : w6.cell? ⟨w3.heap.size, 0, none⟩ = some (.slice none 0 0) := (hb6.cell (p := ⟨w3.heap.size, 0, none⟩) (by simp)).trans (keep_new rfl) | have hy6_0 : w6.cell? ⟨w3.heap.size, 0, none⟩ = some (.slice none 0 0) := (hb6.cell (p := ⟨w3.heap.size, 0, none⟩) (by simp)).trans (keep_newd rfl)); (first | have hv6_0 : w6.frozen? ⟨w3.heap.size, 0, none⟩ = false := (hb6.frozen (p := ⟨w3.heap.size, 0, none⟩) (by simp)).trans (keepf_new (by simp)) | have hv6_0 : w6.frozen? ⟨w3.heap.size, 0, none⟩ = false := (hb6.frozen (p := ⟨w3.heap.size, 0, none⟩) (by simp)).trans (keepf_newd (by simp))); (first | have hy6_1 : w6.cell? ⟨w3.heap.size, 1, none⟩ = some (.slice none 0 0) := (hb6.cell (p := ⟨w3.heap.size, 1, none⟩) (by simp)).trans (keep_new rfl) | have hy6_1 : w6.cell? ⟨w3.heap.size, 1, none⟩ = some (.slice none 0 0) := (hb6.cell (p := ⟨w3.heap.size, 1, none⟩) (by simp)).trans (keep_newd rfl)); (first | have hv6_1 : w6.frozen? ⟨w3.heap.size, 1, none⟩ = false := (hb6.frozen (p := ⟨w3.heap.size, 1, none⟩) (by simp)).trans (keepf_new (by simp)) | have hv6_1 : w6.frozen? ⟨w3.heap.size, 1, none⟩ = false := (hb6.frozen (p := ⟨w3.heap.size, 1, none⟩) (by simp)).trans (keepf_newd (by simp))); (first | have hy6_2 : w6.cell? ⟨w3.heap.size, 2, none⟩ = some (.int .i64 0) := (hb6.cell (p := ⟨w3.heap.size, 2, none⟩) (by simp)).trans (keep_new rfl) | have hy6_2 : w6.cell? ⟨w3.heap.size, 2, none⟩ = some (.int .i64 0) := (hb6.cell (p := ⟨w3.heap.size, 2, none⟩) (by simp)).trans (keep_newd rfl)); (first | have hv6_2 : w6.frozen? ⟨w3.heap.size, 2, none⟩ = false := (hb6.frozen (p := ⟨w3.heap.size, 2, none⟩) (by simp)).trans (keepf_new (by simp)) | have hv6_2 : w6.frozen? ⟨w3.heap.size, 2, none⟩ = false := (hb6.frozen (p := ⟨w3.heap.size, 2, none⟩) (by simp)).trans (keepf_newd (by simp)))))))
        all_goals go_wp2_with fail
        all_goals go_meet
        all_goals refine ⟨⟨_, ga6, qa6, zs6, gc6, qc6, rfl, (by (first | omega | (simp <;> omega))), (by (first | omega | (simp <;> omega))), (at_cons (by simp [go_sem, *]) (at_cons (by simp [go_sem, *]) (at_cons (by simp [go_sem, *]) at_nil))), ?_, ?_, HZ6.out, ?_⟩, rfl⟩
        all_goals first | with_reducible exact OwnSt.ne_at HX6.out (by (first | omega | (simp <;> omega))) | with_reducible exact (by (repeat' (first | with_reducible refine OwnSt.set_at ?_ HX6.out (by (first | omega | (simp <;> omega))) _ | with_reducible refine OwnSt.alloc1 ?_ _ | with_reducible refine OwnSt.drew1 ?_)); exact OwnSt.le HX6.out (by (first | omega | (simp <;> omega)))) | exact bxt
      case rest =>
        obtain ⟨⟨β, g5, q5, z5, la5, lc5, rfl, hβ, hβs, hat, hown5, hoff5, hd5, hb5⟩, rfl⟩ := hcut
        have y0 : wc.cell? ⟨β, 0, none⟩ = some (.slice g5 z5.length q5) := by simpa using hat 0 _ rfl
        have y1 : wc.cell? ⟨β, 1, none⟩ = some (.slice la5 rs6.log.length lc5) := by simpa using hat 1 _ rfl
        have y2 : wc.cell? ⟨β, 2, none⟩ = some (.int .i64 rs6.given) := by simpa using hat 2 _ rfl
        have HO5 := Lib.hid hown5
        have HD5 := Lib.hid hd5
        clear hat hown5 hoff5 hd5
        have hG5 : w4.heap.size < wc.heap.size := Nat.lt_of_lt_of_le hG3 hb5.size
        have HSX := Lib.hid (HSW.out.ext hb5)
        have z0 := HSX.out.c0
        have z1 := HSX.out.c1
        have z2 := HSX.out.c2
        have zf0 := HSX.out.f0
        have zf1 := HSX.out.f1
        have zf2 := HSX.out.f2
        have hbw6 : Below (w.heap.size + 2) w4 wc := Below.extB hbe3 hb5 (by omega)
        have cd0_0 : wc.cell? ⟨w.heap.size, 0, none⟩ = some (.slice ba b.length bc) := (hbw6.cell (p := ⟨w.heap.size, 0, none⟩) smx).trans kpx
        have fd0_0 : wc.frozen? ⟨w.heap.size, 0, none⟩ = false := (hbw6.frozen (p := ⟨w.heap.size, 0, none⟩) smx).trans kfx
        have cd0_1 : wc.cell? ⟨w.heap.size, 1, none⟩ = some (.slice la l.length lc) := (hbw6.cell (p := ⟨w.heap.size, 1, none⟩) smx).trans kpx
        have fd0_1 : wc.frozen? ⟨w.heap.size, 1, none⟩ = false := (hbw6.frozen (p := ⟨w.heap.size, 1, none⟩) smx).trans kfx
        have cd0_2 : wc.cell? ⟨w.heap.size, 2, none⟩ = some (.int .i64 gv) := (hbw6.cell (p := ⟨w.heap.size, 2, none⟩) smx).trans kpx
        have fd0_2 : wc.frozen? ⟨w.heap.size, 2, none⟩ = false := (hbw6.frozen (p := ⟨w.heap.size, 2, none⟩) smx).trans kfx
        have sd0 : w.heap.size < wc.heap.size := (by have hss := hbw6.size; first | omega | (simp at hss; omega))
        have cd1_0 : wc.cell? ⟨(w.heap.size + 1), 0, none⟩ = some (.slice none 0 0) := (hbw6.cell (p := ⟨(w.heap.size + 1), 0, none⟩) smx).trans kpx
        have fd1_0 : wc.frozen? ⟨(w.heap.size + 1), 0, none⟩ = false := (hbw6.frozen (p := ⟨(w.heap.size + 1), 0, none⟩) smx).trans kfx
        have cd1_1 : wc.cell? ⟨(w.heap.size + 1), 1, none⟩ = some (.slice none 0 0) := (hbw6.cell (p := ⟨(w.heap.size + 1), 1, none⟩) smx).trans kpx
        have fd1_1 : wc.frozen? ⟨(w.heap.size + 1), 1, none⟩ = false := (hbw6.frozen (p := ⟨(w.heap.size + 1), 1, none⟩) smx).trans kfx
        have cd1_2 : wc.cell? ⟨(w.heap.size + 1), 2, none⟩ = some (.int .i64 0) := (hbw6.cell (p := ⟨(w.heap.size + 1), 2, none⟩) smx).trans kpx
        have fd1_2 : wc.frozen? ⟨(w.heap.size + 1), 2, none⟩ = false := (hbw6.frozen (p := ⟨(w.heap.size + 1), 2, none⟩) smx).trans kfx
        have sd1 : (w.heap.size + 1) < wc.heap.size := (by have hss := hbw6.size; first | omega | (simp at hss; omega))
        cases r with
        | true =>
          go_wp2_with fail
          go_roundw
          case rel => exact StepLoopS.mk HMA.out hlt HG.out HBK.out HKL.out HC.out (Or.inl HAR.out) (by have h := HSE.out; simp only [Bool.false_eq_true, if_false, if_true] at h; exact h) (StB.put3 (HO5.out.le (by omega)) hG5 (fun x hx e => by have := (HO5.out.rows_lt x hx).1; omega) z0 z1 z2 zf0 zf1 zf2) HD5.out (Below.setCell (Below.setCell (Below.setCell hbw6 (by omega) _) (by omega) _) (by omega) _)
          case measure => simp [intOf]; omega
        | false =>
          have hrk : false = rk := by
            have h := HSE.out
            simp only [Bool.false_eq_true, if_false, if_true] at h
            have h2 := HC.out
            rw [drop_cons us k hlt, h] at h2
            exact (Prod.mk.inj h2).2
          subst hrk
          obtain ⟨hrs2, hro⟩ := Prod.mk.inj (show (⟨b.map PBox.box, l, gv⟩, (2 : Int)) = (rs, rok) from HRS.out)
          subst hro
          have HRS2 := Lib.hid hrs2
          clear hrs2
          have hbw7 : Below w.heap.size w wc := Below.ext hbw3 hb5
          go_wp2_with (go_at_call 68; refine (specCopySt_any b ba bc l la lc gv _ (HR.out.ext (Below.ext hbw7 bxt)) (RdM.ext HM.out (Below.ext hbw7 bxt)) (HRL.out.ext (Below.ext hbw7 bxt)) hl HLM.out hll).mono ?_; rintro e w7 ⟨gb7, q7, zs7, g7, q8, rfl, hown7, hzb7, hb7⟩; have HO7 := Lib.hid hown7; have HZ7 := Lib.hid hzb7; clear hown7 hzb7; have cu0_0 : w7.cell? ⟨(w.heap.size + 1), 0, none⟩ = some (.slice none 0 0) := (hb7.cell (p := ⟨(w.heap.size + 1), 0, none⟩) smx).trans kpx; have fu0_0 : w7.frozen? ⟨(w.heap.size + 1), 0, none⟩ = false := (hb7.frozen (p := ⟨(w.heap.size + 1), 0, none⟩) smx).trans kfx; have cu0_1 : w7.cell? ⟨(w.heap.size + 1), 1, none⟩ = some (.slice none 0 0) := (hb7.cell (p := ⟨(w.heap.size + 1), 1, none⟩) smx).trans kpx; have fu0_1 : w7.frozen? ⟨(w.heap.size + 1), 1, none⟩ = false := (hb7.frozen (p := ⟨(w.heap.size + 1), 1, none⟩) smx).trans kfx; have cu0_2 : w7.cell? ⟨(w.heap.size + 1), 2, none⟩ = some (.int .i64 0) := (hb7.cell (p := ⟨(w.heap.size + 1), 2, none⟩) smx).trans kpx; have fu0_2 : w7.frozen? ⟨(w.heap.size + 1), 2, none⟩ = false := (hb7.frozen (p := ⟨(w.heap.size + 1), 2, none⟩) smx).trans kfx; have su0 : (w.heap.size + 1) < w7.heap.size := (by have hss := hb7.size; first | omega | (simp at hss; omega)))
          refine bodyPost_ret (v := .tuple #[.agg #[.slice gb7 zs7.length q7, .slice g7 l.length q8, .int .i64 gv], .int .i64 2]) (by simp [results, Tryz.results59, go_sem, *]) rfl ⟨gb7, q7, zs7, g7, q8, by rw [← HRS2.out], ?_, by rw [← HRS2.out]; exact HZ7.out, ?_⟩
          · rw [← HRS2.out]
            exact (((HO7.out.setb smx _).setb smx _).setb smx _).le (by omega)
          · exact bxt
    · have hkk : k = us.length := by omega
      have h5 := HC.out
      rw [hkk, List.drop_length, stepsD] at h5
      obtain ⟨rfl, rfl⟩ := Prod.mk.inj h5
      obtain ⟨hrs2, hro⟩ := Prod.mk.inj (show (cur, (0 : Int)) = (rs, rok) by simpa using HRS.out)
      subst hro
      subst hrs2
      clear h5
      have HKK := Lib.hid hkk
      clear hkk
      go_wp2_with fail
      refine bodyPost_ret (v := .tuple #[.agg #[.slice ga zs.length q, .slice la2 cur.log.length lc2, .int .i64 cur.given], .int .i64 0]) (by simp [results, Tryz.results59, go_sem, *]) rfl ⟨ga, q, zs, la2, lc2, rfl, ?_, HZB2.out, ?_⟩
      · exact (((HS.out.own.setb smx _).setb smx _).setb smx _).le (by omega)
      · exact bxt
end Go.Proofs.YtjcnhkmhcfmoeaaGreat

namespace Go.Proofs.YtjcnhkmhcfmoeaaGreat
open Go.RowKit
set_option linter.unusedVariables false
set_option linter.unusedSimpArgs false

set_option maxRecDepth 100000 in
theorem chSet_any (b : List PBox) (ba : Option Addr) (bc : Nat) (l : List DCommit) (la : Option Addr) (lc : Nat) (gv : Int) (v : Int) (us : List Int) (ua : Option Addr) (uc : Nat) (op bi : Int) (vb ub opb bb : Nat) (w : World) (R : Rd w ba bc 4 b.length (b.flatMap PBox.cells)) (M : RdM w b) (RL : Rd w la lc 6 l.length (l.flatMap DCommit.cells)) (hl : b.length ≤ 1048576) (hlm : ∀ y ∈ b, y.msgs.length ≤ 1048576) (hll : l.length ≤ 1048576) (gn : ∀ y ∈ b, y.name.size ≤ 9223372036854775807) (gt : ∀ y ∈ b, ∀ m ∈ y.msgs, m.text.size ≤ 9223372036854775807) (gl : ∀ y ∈ l, y.name.size ≤ 9223372036854775807 ∧ y.text.size ≤ 9223372036854775807) (hm : MaxLen w) (ok : Bool) (HSK : Hid (Tells ok (StoreP ⟨b.map PBox.box, l, gv⟩))) (code : Int) (X : World) (hwX : Ext w X) (RU : Rd w ua uc 1 us.length (us.flatMap intCells)) (hul : us.length ≤ 1048576) (hvb : vb < X.heap.size) (cvb : X.cell? ⟨vb, 0, none⟩ = some (.int .i64 v)) (hub : ub < X.heap.size) (cub : X.cell? ⟨ub, 0, none⟩ = some (.slice ua us.length uc)) (hopb : opb < X.heap.size) (copb : X.cell? ⟨opb, 0, none⟩ = some (.int .i64 op)) (hbb : bb < X.heap.size) (cbb : X.cell? ⟨bb, 0, none⟩ = some (.int .i64 bi)) :
    Calls Tryz.prog 95 #[.agg #[.slice ba b.length bc, .slice la l.length lc, .int .i64 gv], .int .i64 code, .func (.func 119) #[] #[.pointer (some ⟨vb, 0, none⟩), .pointer (some ⟨ub, 0, none⟩), .pointer (some ⟨opb, 0, none⟩), .pointer (some ⟨bb, 0, none⟩)]] X fun e w' => ∃ g q zs g2 q2 rs rc, e = .returned (.tuple #[.agg #[.slice g zs.length q, .slice g2 rs.log.length q2, .int .i64 rs.given], .int .i64 rc]) ∧ OwnSt w' X.heap.size 49 66 41 g q zs g2 q2 rs.log ∧ zs.map PBox.box = rs.boxes ∧ Ext X w' ∧ ChRel ⟨b.map PBox.box, l, gv⟩ ok code (fun r2 c => stepsB v (gSet v op bi) ⟨b.map PBox.box, l, gv⟩ us = (if c = 0 then r2 else ⟨b.map PBox.box, l, gv⟩, c)) rs rc :=
  change_any b ba bc l la lc gv code 119 #[.pointer (some ⟨vb, 0, none⟩), .pointer (some ⟨ub, 0, none⟩), .pointer (some ⟨opb, 0, none⟩), .pointer (some ⟨bb, 0, none⟩)] (fun r2 c => stepsB v (gSet v op bi) ⟨b.map PBox.box, l, gv⟩ us = (if c = 0 then r2 else ⟨b.map PBox.box, l, gv⟩, c)) X (R.ext hwX) (M.ext hwX) (RL.ext hwX) hl hlm hll gn gt gl (hm.ext hwX) ok HSK (callFunc_in Tryz.func119 (by kernel_rfl) (by kernel_rfl)) (fun wx G B zs ga q la2 lc2 hx HS hwB hBx hwG hz hst hc0 => (clSet_any zs ga q l la2 lc2 gv G B v op bi us ua uc X.heap.size vb ub opb bb wx HS hBx ((hm.ext hwX).ext hx) (box_names hz.out gn) (box_texts hz.out gt) (by rw [hz.out]; exact good_S hl hlm hll gn gt gl) hvb ((hx.cell (p := ⟨vb, 0, none⟩) hvb).trans cvb) hub ((hx.cell (p := ⟨ub, 0, none⟩) hub).trans cub) hopb ((hx.cell (p := ⟨opb, 0, none⟩) hopb).trans copb) hbb ((hx.cell (p := ⟨bb, 0, none⟩) hbb).trans cbb) ((RU.ext hwX).ext hx) hul (RU.ext hwX).blk_lt (let ⟨_, _, h⟩ := hm.ext hwX; h) hwB hwG).mono fun e w' ⟨r2, c, he, hs, hm⟩ => ⟨r2, c, he, hs, by rw [hz.out] at hm; exact hm⟩)
end Go.Proofs.YtjcnhkmhcfmoeaaGreat

namespace Go.Proofs.YtjcnhkmhcfmoeaaGreat
open Go.RowKit
set_option linter.unusedVariables false
set_option linter.unusedSimpArgs false

set_option maxRecDepth 100000 in
set_option maxHeartbeats 8000000 in
theorem implSetFlags_no (b : List PBox) (ba : Option Addr) (bc : Nat) (l : List DCommit) (la : Option Addr) (lc : Nat) (gv : Int) (v : Int) (us : List Int) (ua : Option Addr) (uc : Nat) (op bi : Int) (w : World) (R : Rd w ba bc 4 b.length (b.flatMap PBox.cells)) (M : RdM w b) (RL : Rd w la lc 6 l.length (l.flatMap DCommit.cells)) (hl : b.length ≤ 1048576) (hlm : ∀ y ∈ b, y.msgs.length ≤ 1048576) (hll : l.length ≤ 1048576) (gn : ∀ y ∈ b, y.name.size ≤ 9223372036854775807) (gt : ∀ y ∈ b, ∀ m ∈ y.msgs, m.text.size ≤ 9223372036854775807) (gl : ∀ y ∈ l, y.name.size ≤ 9223372036854775807 ∧ y.text.size ≤ 9223372036854775807) (RU : Rd w ua uc 1 us.length (us.flatMap intCells)) (hul : us.length ≤ 1048576) (hm : MaxLen w) (HCO : Hid (Tells false (1 ≤ op ∧ op ≤ 3))) (rs : DStore) (rok : Int) (H : Hid (setD ⟨b.map PBox.box, l, gv⟩ v us op bi = (rs, rok))) :
    Calls Tryz.prog 58 #[.agg #[.slice ba b.length bc, .slice la l.length lc, .int .i64 gv], .int .i64 v, .slice ua us.length uc, .int .i64 op, .int .i64 bi] w fun e w' => ∃ g q zs g2 q2, e = .returned (.tuple #[.agg #[.slice g zs.length q, .slice g2 rs.log.length q2, .int .i64 rs.given], .int .i64 rok]) ∧ OwnSt w' w.heap.size 49 66 41 g q zs g2 q2 rs.log ∧ zs.map PBox.box = rs.boxes ∧ Ext w w' := by
  have HR := Lib.hid R
  have HM := Lib.hid M
  have HRL := Lib.hid RL
  have HLM := Lib.hid hlm
  have HGN := Lib.hid gn
  have HGT := Lib.hid gt
  have HGL := Lib.hid gl
  clear R M RL hlm gn gt gl
  have HRU := Lib.hid RU
  clear RU
  have HMX := Lib.hid hm
  clear hm
  obtain ⟨ok, hok⟩ := boolOf (StoreP ⟨b.map PBox.box, l, gv⟩)
  have HSK := Lib.hid hok
  clear hok
  go_enter Tryz.func58, Tryz.ntmps58
  go_wp2_with fail
  refine wp_world (fun W hW => ?_)
  have hwW : Ext w W := by (rw [hW]; exact bxt)
  have bx0_0 : W.cell? ⟨w.heap.size, 0, none⟩ = some (.slice ba b.length bc) := by (rw [hW]; simp [go_sem])
  have bx0_1 : W.cell? ⟨w.heap.size, 1, none⟩ = some (.slice la l.length lc) := by (rw [hW]; simp [go_sem])
  have bx0_2 : W.cell? ⟨w.heap.size, 2, none⟩ = some (.int .i64 gv) := by (rw [hW]; simp [go_sem])
  have bx1_0 : W.cell? ⟨(w.heap.size + 1), 0, none⟩ = some (.int .i64 v) := by (rw [hW]; simp [go_sem])
  have bx2_0 : W.cell? ⟨(w.heap.size + 2), 0, none⟩ = some (.slice ua us.length uc) := by (rw [hW]; simp [go_sem])
  have bx3_0 : W.cell? ⟨(w.heap.size + 3), 0, none⟩ = some (.int .i64 op) := by (rw [hW]; simp [go_sem])
  have bx4_0 : W.cell? ⟨(w.heap.size + 4), 0, none⟩ = some (.int .i64 bi) := by (rw [hW]; simp [go_sem])
  have bx5_0 : W.cell? ⟨(w.heap.size + 5), 0, none⟩ = some (.slice none 0 0) := by (rw [hW]; simp [go_sem])
  have bx5_1 : W.cell? ⟨(w.heap.size + 5), 1, none⟩ = some (.slice none 0 0) := by (rw [hW]; simp [go_sem])
  have bx5_2 : W.cell? ⟨(w.heap.size + 5), 2, none⟩ = some (.int .i64 0) := by (rw [hW]; simp [go_sem])
  have bf5_0 : W.frozen? ⟨(w.heap.size + 5), 0, none⟩ = false := by (rw [hW]; simp [go_sem])
  have bf5_1 : W.frozen? ⟨(w.heap.size + 5), 1, none⟩ = false := by (rw [hW]; simp [go_sem])
  have bf5_2 : W.frozen? ⟨(w.heap.size + 5), 2, none⟩ = false := by (rw [hW]; simp [go_sem])
  have sW : W.heap.size = w.heap.size + 6 := by (rw [hW]; simp)
  clear hW
  go_cut [11] (fun v wx => v = .int .i64 rok ∧ RBox 49 66 41 w (w.heap.size + 5) rs wx)
  case first =>
    first
    | go_region_law (first | (go_simp; go_at_call 118; refine (isOp_any op _ false HCO).mono ?_; rintro e wx ⟨rfl, hwx⟩; subst wx) | (go_simp; go_at_call 96; refine (wrongIf_any true 4 _ (Lib.hid rfl)).mono ?_; rintro e wx ⟨rfl, hwx⟩; subst wx) | (go_simp; go_at_call 95; refine (chSet_any b ba bc l la lc gv v us ua uc op bi (w.heap.size + 1) (w.heap.size + 2) (w.heap.size + 3) (w.heap.size + 4) w HR.out HM.out HRL.out hl HLM.out hll HGN.out HGT.out HGL.out HMX.out ok HSK 4 _ bxt HRU.out hul (Nat.lt_of_lt_of_le (show (w.heap.size + 1) < W.heap.size by omega) (show Below W.heap.size W _ from bxt).size) (((show Below W.heap.size W _ from bxt).cell (p := ⟨(w.heap.size + 1), 0, none⟩) (show (w.heap.size + 1) < W.heap.size by omega)).trans bx1_0) (Nat.lt_of_lt_of_le (show (w.heap.size + 2) < W.heap.size by omega) (show Below W.heap.size W _ from bxt).size) (((show Below W.heap.size W _ from bxt).cell (p := ⟨(w.heap.size + 2), 0, none⟩) (show (w.heap.size + 2) < W.heap.size by omega)).trans bx2_0) (Nat.lt_of_lt_of_le (show (w.heap.size + 3) < W.heap.size by omega) (show Below W.heap.size W _ from bxt).size) (((show Below W.heap.size W _ from bxt).cell (p := ⟨(w.heap.size + 3), 0, none⟩) (show (w.heap.size + 3) < W.heap.size by omega)).trans bx3_0) (Nat.lt_of_lt_of_le (show (w.heap.size + 4) < W.heap.size by omega) (show Below W.heap.size W _ from bxt).size) (((show Below W.heap.size W _ from bxt).cell (p := ⟨(w.heap.size + 4), 0, none⟩) (show (w.heap.size + 4) < W.heap.size by omega)).trans bx4_0)).mono ?_; rintro e w9 ⟨g9, q9, z9, g8, q8, rs9, rc9, rfl, hown9, hzb9, hb9, hch9⟩; have HO9 := Lib.hid hown9; have HZ9 := Lib.hid hzb9; have HC9 := Lib.hid hch9; clear hown9 hzb9 hch9; have cu0_0 : w9.cell? ⟨(w.heap.size + 5), 0, none⟩ = some (.slice none 0 0) := (hb9.cell (p := ⟨(w.heap.size + 5), 0, none⟩) smx).trans kpx; have fu0_0 : w9.frozen? ⟨(w.heap.size + 5), 0, none⟩ = false := (hb9.frozen (p := ⟨(w.heap.size + 5), 0, none⟩) smx).trans kfx; have cu0_1 : w9.cell? ⟨(w.heap.size + 5), 1, none⟩ = some (.slice none 0 0) := (hb9.cell (p := ⟨(w.heap.size + 5), 1, none⟩) smx).trans kpx; have fu0_1 : w9.frozen? ⟨(w.heap.size + 5), 1, none⟩ = false := (hb9.frozen (p := ⟨(w.heap.size + 5), 1, none⟩) smx).trans kfx; have cu0_2 : w9.cell? ⟨(w.heap.size + 5), 2, none⟩ = some (.int .i64 0) := (hb9.cell (p := ⟨(w.heap.size + 5), 2, none⟩) smx).trans kpx; have fu0_2 : w9.frozen? ⟨(w.heap.size + 5), 2, none⟩ = false := (hb9.frozen (p := ⟨(w.heap.size + 5), 2, none⟩) smx).trans kfx; have su0 : (w.heap.size + 5) < w9.heap.size := (by have hss := hb9.size; first | omega | (simp at hss; omega))))
    | fail
    all_goals go_wp2_with fail
    all_goals go_meet
    all_goals obtain ⟨rfl, rfl⟩ : rs9 = rs ∧ rc9 = rok := Prod.mk.inj ((ch_op HC9.out HSK.out (fun h => absurd h.1 (no_of HCO.out)) (fun _ => rfl)).symm.trans H.out)
    all_goals exact ⟨rfl, RBox.put HO9.out (by exact (Below.ext hwW (show Below W.heap.size W _ from bxt)).size) (by exact (Nat.lt_of_lt_of_le (show (w.heap.size + 5) < W.heap.size by omega) (show Below W.heap.size W _ from bxt).size)) (by omega) HZ9.out (Below.ext hwW (by exact bxt)) cu0_0 cu0_1 cu0_2⟩
  case rest =>
    obtain ⟨rfl, g9, q9, z9, g8, q8, e0, e1, e2, hown, hz, hx⟩ := hcut
    go_wp2_with fail
    refine bodyPost_ret (v := .tuple #[.agg #[.slice g9 z9.length q9, .slice g8 rs.log.length q8, .int .i64 rs.given], .int .i64 rok]) (by simp [results, Tryz.results58, go_sem, *]) rfl ⟨g9, q9, z9, g8, q8, rfl, hown, hz, hx⟩
end Go.Proofs.YtjcnhkmhcfmoeaaGreat

namespace Go.Proofs.YtjcnhkmhcfmoeaaGreat
open Go.RowKit
set_option linter.unusedVariables false
set_option linter.unusedSimpArgs false

set_option maxRecDepth 100000 in
set_option maxHeartbeats 8000000 in
theorem implSetFlags_law (b : List PBox) (ba : Option Addr) (bc : Nat) (l : List DCommit) (la : Option Addr) (lc : Nat) (gv : Int) (v : Int) (us : List Int) (ua : Option Addr) (uc : Nat) (op bi : Int) (w : World) (R : Rd w ba bc 4 b.length (b.flatMap PBox.cells)) (M : RdM w b) (RL : Rd w la lc 6 l.length (l.flatMap DCommit.cells)) (hl : b.length ≤ 1048576) (hlm : ∀ y ∈ b, y.msgs.length ≤ 1048576) (hll : l.length ≤ 1048576) (gn : ∀ y ∈ b, y.name.size ≤ 9223372036854775807) (gt : ∀ y ∈ b, ∀ m ∈ y.msgs, m.text.size ≤ 9223372036854775807) (gl : ∀ y ∈ l, y.name.size ≤ 9223372036854775807 ∧ y.text.size ≤ 9223372036854775807) (RU : Rd w ua uc 1 us.length (us.flatMap intCells)) (hul : us.length ≤ 1048576) (hm : MaxLen w) (rs : DStore) (rok : Int) (H : Hid (setD ⟨b.map PBox.box, l, gv⟩ v us op bi = (rs, rok))) :
    Calls Tryz.prog 58 #[.agg #[.slice ba b.length bc, .slice la l.length lc, .int .i64 gv], .int .i64 v, .slice ua us.length uc, .int .i64 op, .int .i64 bi] w fun e w' => ∃ g q zs g2 q2, e = .returned (.tuple #[.agg #[.slice g zs.length q, .slice g2 rs.log.length q2, .int .i64 rs.given], .int .i64 rok]) ∧ OwnSt w' w.heap.size 49 66 41 g q zs g2 q2 rs.log ∧ zs.map PBox.box = rs.boxes ∧ Ext w w' := by
  have HR := Lib.hid R
  have HM := Lib.hid M
  have HRL := Lib.hid RL
  have HLM := Lib.hid hlm
  have HGN := Lib.hid gn
  have HGT := Lib.hid gt
  have HGL := Lib.hid gl
  clear R M RL hlm gn gt gl
  have HRU := Lib.hid RU
  clear RU
  have HMX := Lib.hid hm
  clear hm
  obtain ⟨ok, hok⟩ := boolOf (StoreP ⟨b.map PBox.box, l, gv⟩)
  have HSK := Lib.hid hok
  clear hok
  obtain ⟨co, hco⟩ := boolOf (1 ≤ op ∧ op ≤ 3)
  have HCO := Lib.hid hco
  obtain ⟨cf, hcf⟩ := boolOf (0 ≤ bi ∧ bi ≤ 31)
  have HCF := Lib.hid hcf
  clear hco hcf
  cases co with
  | false =>
    exact implSetFlags_no b ba bc l la lc gv v us ua uc op bi w HR.out HM.out HRL.out hl HLM.out hll HGN.out HGT.out HGL.out HRU.out hul HMX.out HCO rs rok H
  | true =>
  cases cf with
  | false =>
    go_enter Tryz.func58, Tryz.ntmps58
    go_wp2_with fail
    refine wp_world (fun W hW => ?_)
    have hwW : Ext w W := by (rw [hW]; exact bxt)
    have bx0_0 : W.cell? ⟨w.heap.size, 0, none⟩ = some (.slice ba b.length bc) := by (rw [hW]; simp [go_sem])
    have bx0_1 : W.cell? ⟨w.heap.size, 1, none⟩ = some (.slice la l.length lc) := by (rw [hW]; simp [go_sem])
    have bx0_2 : W.cell? ⟨w.heap.size, 2, none⟩ = some (.int .i64 gv) := by (rw [hW]; simp [go_sem])
    have bx1_0 : W.cell? ⟨(w.heap.size + 1), 0, none⟩ = some (.int .i64 v) := by (rw [hW]; simp [go_sem])
    have bx2_0 : W.cell? ⟨(w.heap.size + 2), 0, none⟩ = some (.slice ua us.length uc) := by (rw [hW]; simp [go_sem])
    have bx3_0 : W.cell? ⟨(w.heap.size + 3), 0, none⟩ = some (.int .i64 op) := by (rw [hW]; simp [go_sem])
    have bx4_0 : W.cell? ⟨(w.heap.size + 4), 0, none⟩ = some (.int .i64 bi) := by (rw [hW]; simp [go_sem])
    have bx5_0 : W.cell? ⟨(w.heap.size + 5), 0, none⟩ = some (.slice none 0 0) := by (rw [hW]; simp [go_sem])
    have bx5_1 : W.cell? ⟨(w.heap.size + 5), 1, none⟩ = some (.slice none 0 0) := by (rw [hW]; simp [go_sem])
    have bx5_2 : W.cell? ⟨(w.heap.size + 5), 2, none⟩ = some (.int .i64 0) := by (rw [hW]; simp [go_sem])
    have bf5_0 : W.frozen? ⟨(w.heap.size + 5), 0, none⟩ = false := by (rw [hW]; simp [go_sem])
    have bf5_1 : W.frozen? ⟨(w.heap.size + 5), 1, none⟩ = false := by (rw [hW]; simp [go_sem])
    have bf5_2 : W.frozen? ⟨(w.heap.size + 5), 2, none⟩ = false := by (rw [hW]; simp [go_sem])
    have sW : W.heap.size = w.heap.size + 6 := by (rw [hW]; simp)
    clear hW
    first
    | go_region_held3 (fun w' => Below (w.heap.size + 5) W w' ∧ (∀ b o, b < w.heap.size + 5 → w'.cell? ⟨b, o, none⟩ = W.cell? ⟨b, o, none⟩)) ((refine iMkN ?_; exact (by repeat' (first | with_reducible exact Below.refl _ _ | with_reducible assumption | with_reducible refine Below.alloc ?_ ?_ _ | with_reducible refine Below.setCell ?_ ?_ _ | with_reducible refine Below.drew ?_ | with_reducible refine Below.extB ?_ (by assumption) ?_ | (simp <;> omega) | omega)))) ((first | (go_at_call 118; refine (isOp_any op _ true HCO).mono ?_; rintro e wx ⟨rfl, hwx⟩; subst wx) | (go_at_call 97; refine (flagsOk_any bi _ false HCF).mono ?_; rintro e wx ⟨rfl, hwx⟩; subst wx) | (go_at_call 96; refine (wrongIf_any true 4 _ (Lib.hid rfl)).mono ?_; rintro e wx ⟨rfl, hwx⟩; subst wx) | (go_at_call 95; refine (chSet_any b ba bc l la lc gv v us ua uc op bi (w.heap.size + 1) (w.heap.size + 2) (w.heap.size + 3) (w.heap.size + 4) w HR.out HM.out HRL.out hl HLM.out hll HGN.out HGT.out HGL.out HMX.out ok HSK 4 _ bxt HRU.out hul (Nat.lt_of_lt_of_le (show (w.heap.size + 1) < W.heap.size by omega) (show Below W.heap.size W _ from bxt).size) (((show Below W.heap.size W _ from bxt).cell (p := ⟨(w.heap.size + 1), 0, none⟩) (show (w.heap.size + 1) < W.heap.size by omega)).trans bx1_0) (Nat.lt_of_lt_of_le (show (w.heap.size + 2) < W.heap.size by omega) (show Below W.heap.size W _ from bxt).size) (((show Below W.heap.size W _ from bxt).cell (p := ⟨(w.heap.size + 2), 0, none⟩) (show (w.heap.size + 2) < W.heap.size by omega)).trans bx2_0) (Nat.lt_of_lt_of_le (show (w.heap.size + 3) < W.heap.size by omega) (show Below W.heap.size W _ from bxt).size) (((show Below W.heap.size W _ from bxt).cell (p := ⟨(w.heap.size + 3), 0, none⟩) (show (w.heap.size + 3) < W.heap.size by omega)).trans bx3_0) (Nat.lt_of_lt_of_le (show (w.heap.size + 4) < W.heap.size by omega) (show Below W.heap.size W _ from bxt).size) (((show Below W.heap.size W _ from bxt).cell (p := ⟨(w.heap.size + 4), 0, none⟩) (show (w.heap.size + 4) < W.heap.size by omega)).trans bx4_0)).mono ?_; rintro e w9 ⟨g9, q9, z9, g8, q8, rs9, rc9, rfl, hown9, hzb9, hb9, hch9⟩; have HO9 := Lib.hid hown9; have HZ9 := Lib.hid hzb9; have HC9 := Lib.hid hch9; clear hown9 hzb9 hch9; have cu0_0 : w9.cell? ⟨(w.heap.size + 5), 0, none⟩ = some (.slice none 0 0) := (hb9.cell (p := ⟨(w.heap.size + 5), 0, none⟩) smx).trans kpx; have fu0_0 : w9.frozen? ⟨(w.heap.size + 5), 0, none⟩ = false := (hb9.frozen (p := ⟨(w.heap.size + 5), 0, none⟩) smx).trans kfx; have cu0_1 : w9.cell? ⟨(w.heap.size + 5), 1, none⟩ = some (.slice none 0 0) := (hb9.cell (p := ⟨(w.heap.size + 5), 1, none⟩) smx).trans kpx; have fu0_1 : w9.frozen? ⟨(w.heap.size + 5), 1, none⟩ = false := (hb9.frozen (p := ⟨(w.heap.size + 5), 1, none⟩) smx).trans kfx; have cu0_2 : w9.cell? ⟨(w.heap.size + 5), 2, none⟩ = some (.int .i64 0) := (hb9.cell (p := ⟨(w.heap.size + 5), 2, none⟩) smx).trans kpx; have fu0_2 : w9.frozen? ⟨(w.heap.size + 5), 2, none⟩ = false := (hb9.frozen (p := ⟨(w.heap.size + 5), 2, none⟩) smx).trans kfx; have su0 : (w.heap.size + 5) < w9.heap.size := (by have hss := hb9.size; first | omega | (simp at hss; omega)))))
    | fail
    all_goals go_wp2_with fail
    all_goals obtain ⟨rfl, rfl⟩ : rs9 = rs ∧ rc9 = rok := Prod.mk.inj ((ch_op HC9.out HSK.out (fun h => absurd h.2 (no_of HCF.out)) (fun _ => rfl)).symm.trans H.out)
    all_goals refine bodyPost_ret (v := .tuple #[.agg #[.slice g9 z9.length q9, .slice g8 rs9.log.length q8, .int .i64 rs9.given], .int .i64 rc9]) (by simp [results, Tryz.results58, go_sem, *]) rfl ⟨g9, q9, z9, g8, q8, rfl, ?_, HZ9.out, ?_⟩
    all_goals first | exact bxt | exact (by (repeat' (first | with_reducible refine OwnSt.set_at ?_ HO9.out (by (first | omega | (simp <;> omega))) _ | with_reducible refine OwnSt.alloc1 ?_ _ | with_reducible refine OwnSt.drew1 ?_)); exact OwnSt.le HO9.out (by (first | omega | (simp <;> omega))))
  | true =>
    go_enter Tryz.func58, Tryz.ntmps58
    go_wp2_with fail
    refine wp_world (fun W hW => ?_)
    have hwW : Ext w W := by (rw [hW]; exact bxt)
    have bx0_0 : W.cell? ⟨w.heap.size, 0, none⟩ = some (.slice ba b.length bc) := by (rw [hW]; simp [go_sem])
    have bx0_1 : W.cell? ⟨w.heap.size, 1, none⟩ = some (.slice la l.length lc) := by (rw [hW]; simp [go_sem])
    have bx0_2 : W.cell? ⟨w.heap.size, 2, none⟩ = some (.int .i64 gv) := by (rw [hW]; simp [go_sem])
    have bx1_0 : W.cell? ⟨(w.heap.size + 1), 0, none⟩ = some (.int .i64 v) := by (rw [hW]; simp [go_sem])
    have bx2_0 : W.cell? ⟨(w.heap.size + 2), 0, none⟩ = some (.slice ua us.length uc) := by (rw [hW]; simp [go_sem])
    have bx3_0 : W.cell? ⟨(w.heap.size + 3), 0, none⟩ = some (.int .i64 op) := by (rw [hW]; simp [go_sem])
    have bx4_0 : W.cell? ⟨(w.heap.size + 4), 0, none⟩ = some (.int .i64 bi) := by (rw [hW]; simp [go_sem])
    have bx5_0 : W.cell? ⟨(w.heap.size + 5), 0, none⟩ = some (.slice none 0 0) := by (rw [hW]; simp [go_sem])
    have bx5_1 : W.cell? ⟨(w.heap.size + 5), 1, none⟩ = some (.slice none 0 0) := by (rw [hW]; simp [go_sem])
    have bx5_2 : W.cell? ⟨(w.heap.size + 5), 2, none⟩ = some (.int .i64 0) := by (rw [hW]; simp [go_sem])
    have bf5_0 : W.frozen? ⟨(w.heap.size + 5), 0, none⟩ = false := by (rw [hW]; simp [go_sem])
    have bf5_1 : W.frozen? ⟨(w.heap.size + 5), 1, none⟩ = false := by (rw [hW]; simp [go_sem])
    have bf5_2 : W.frozen? ⟨(w.heap.size + 5), 2, none⟩ = false := by (rw [hW]; simp [go_sem])
    have sW : W.heap.size = w.heap.size + 6 := by (rw [hW]; simp)
    clear hW
    go_region_held3 (fun w' => Below (w.heap.size + 5) W w' ∧ (∀ b o, b < w.heap.size + 5 → w'.cell? ⟨b, o, none⟩ = W.cell? ⟨b, o, none⟩)) ((refine iMkN ?_; exact (by repeat' (first | with_reducible exact Below.refl _ _ | with_reducible assumption | with_reducible refine Below.alloc ?_ ?_ _ | with_reducible refine Below.setCell ?_ ?_ _ | with_reducible refine Below.drew ?_ | with_reducible refine Below.extB ?_ (by assumption) ?_ | (simp <;> omega) | omega)))) ((first | (go_at_call 118; refine (isOp_any op _ true HCO).mono ?_; rintro e wx ⟨rfl, hwx⟩; subst wx) | (go_at_call 97; refine (flagsOk_any bi _ true HCF).mono ?_; rintro e wx ⟨rfl, hwx⟩; subst wx) | (go_at_call 96; refine (wrongIf_any false 0 _ (Lib.hid rfl)).mono ?_; rintro e wx ⟨rfl, hwx⟩; subst wx) | (go_at_call 95; refine (chSet_any b ba bc l la lc gv v us ua uc op bi (w.heap.size + 1) (w.heap.size + 2) (w.heap.size + 3) (w.heap.size + 4) w HR.out HM.out HRL.out hl HLM.out hll HGN.out HGT.out HGL.out HMX.out ok HSK 0 _ bxt HRU.out hul (Nat.lt_of_lt_of_le (show (w.heap.size + 1) < W.heap.size by omega) (show Below W.heap.size W _ from bxt).size) (((show Below W.heap.size W _ from bxt).cell (p := ⟨(w.heap.size + 1), 0, none⟩) (show (w.heap.size + 1) < W.heap.size by omega)).trans bx1_0) (Nat.lt_of_lt_of_le (show (w.heap.size + 2) < W.heap.size by omega) (show Below W.heap.size W _ from bxt).size) (((show Below W.heap.size W _ from bxt).cell (p := ⟨(w.heap.size + 2), 0, none⟩) (show (w.heap.size + 2) < W.heap.size by omega)).trans bx2_0) (Nat.lt_of_lt_of_le (show (w.heap.size + 3) < W.heap.size by omega) (show Below W.heap.size W _ from bxt).size) (((show Below W.heap.size W _ from bxt).cell (p := ⟨(w.heap.size + 3), 0, none⟩) (show (w.heap.size + 3) < W.heap.size by omega)).trans bx3_0) (Nat.lt_of_lt_of_le (show (w.heap.size + 4) < W.heap.size by omega) (show Below W.heap.size W _ from bxt).size) (((show Below W.heap.size W _ from bxt).cell (p := ⟨(w.heap.size + 4), 0, none⟩) (show (w.heap.size + 4) < W.heap.size by omega)).trans bx4_0)).mono ?_; rintro e w9 ⟨g9, q9, z9, g8, q8, rs9, rc9, rfl, hown9, hzb9, hb9, hch9⟩; have HO9 := Lib.hid hown9; have HZ9 := Lib.hid hzb9; have HC9 := Lib.hid hch9; clear hown9 hzb9 hch9; have cu0_0 : w9.cell? ⟨(w.heap.size + 5), 0, none⟩ = some (.slice none 0 0) := (hb9.cell (p := ⟨(w.heap.size + 5), 0, none⟩) smx).trans kpx; have fu0_0 : w9.frozen? ⟨(w.heap.size + 5), 0, none⟩ = false := (hb9.frozen (p := ⟨(w.heap.size + 5), 0, none⟩) smx).trans kfx; have cu0_1 : w9.cell? ⟨(w.heap.size + 5), 1, none⟩ = some (.slice none 0 0) := (hb9.cell (p := ⟨(w.heap.size + 5), 1, none⟩) smx).trans kpx; have fu0_1 : w9.frozen? ⟨(w.heap.size + 5), 1, none⟩ = false := (hb9.frozen (p := ⟨(w.heap.size + 5), 1, none⟩) smx).trans kfx; have cu0_2 : w9.cell? ⟨(w.heap.size + 5), 2, none⟩ = some (.int .i64 0) := (hb9.cell (p := ⟨(w.heap.size + 5), 2, none⟩) smx).trans kpx; have fu0_2 : w9.frozen? ⟨(w.heap.size + 5), 2, none⟩ = false := (hb9.frozen (p := ⟨(w.heap.size + 5), 2, none⟩) smx).trans kfx; have su0 : (w.heap.size + 5) < w9.heap.size := (by have hss := hb9.size; first | omega | (simp at hss; omega)))))
    all_goals go_wp2_with fail
    all_goals obtain ⟨rfl, rfl⟩ : rs9 = rs ∧ rc9 = rok := Prod.mk.inj ((ch_op HC9.out HSK.out (fun _ => rfl) (fun h => absurd ⟨yes_of HCO.out, yes_of HCF.out⟩ h)).symm.trans H.out)
    all_goals refine bodyPost_ret (v := .tuple #[.agg #[.slice g9 z9.length q9, .slice g8 rs9.log.length q8, .int .i64 rs9.given], .int .i64 rc9]) (by simp [results, Tryz.results58, go_sem, *]) rfl ⟨g9, q9, z9, g8, q8, rfl, ?_, HZ9.out, ?_⟩
    all_goals first | exact bxt | exact (by (repeat' (first | with_reducible refine OwnSt.set_at ?_ HO9.out (by (first | omega | (simp <;> omega))) _ | with_reducible refine OwnSt.alloc1 ?_ _ | with_reducible refine OwnSt.drew1 ?_)); exact OwnSt.le HO9.out (by (first | omega | (simp <;> omega))))
end Go.Proofs.YtjcnhkmhcfmoeaaGreat
