/-
  The reference's CommitAll.
-/
import Derived.Test.YtdigkaddmpdeoaaGreatWComS
import Derived.Test.YtdigkaddmpdeoaaGreatWComAllP
import Derived.Test.YtdigkaddmpdeoaaGreatWCutS
namespace Go.Proofs.YtdigkaddmpdeoaaGreat
open Go.RowKit
set_option linter.unusedVariables false
set_option linter.unusedSimpArgs false

theorem sMk3 {W w : World} (h3 : Below W.heap.size W w) : Below W.heap.size W w ∧ (∀ b o, b < W.heap.size → w.cell? ⟨b, o, none⟩ = W.cell? ⟨b, o, none⟩) := ⟨h3, (bcell h3).1⟩
/-- the three cells of the pointer's block are written anew -/
theorem StB.put3 {w : World} {G B E EM EC q lc : Nat} {ga la : Option Addr} {zs : List PBox} {l : List DCommit} {gv : Int} {u0 u1 u2 : Value} (h : OwnSt w B E EM EC ga q zs la lc l) (hlt : G < w.heap.size) (hoff : ∀ k, rowsS ga q zs la lc l.length k → k ≠ G)
    (c0 : w.cell? ⟨G, 0, none⟩ = some u0) (c1 : w.cell? ⟨G, 1, none⟩ = some u1) (c2 : w.cell? ⟨G, 2, none⟩ = some u2) (f0 : w.frozen? ⟨G, 0, none⟩ = false) (f1 : w.frozen? ⟨G, 1, none⟩ = false) (f2 : w.frozen? ⟨G, 2, none⟩ = false) :
    StB (((w.setCell ⟨G, 0, none⟩ (.slice ga zs.length q)).setCell ⟨G, 1, none⟩ (.slice la l.length lc)).setCell ⟨G, 2, none⟩ (.int .i64 gv)) G B E EM EC ga q zs la lc l gv :=
  ⟨((h.set_ne hoff _).set_ne hoff _).set_ne hoff _, by simpa [World.setCell] using hlt, hoff, set_other (set_other (set_same c0) (by omega)) (by omega), set_other (set_same (set_other c1 (by omega))) (by omega), set_same (set_other (set_other c2 (by omega)) (by omega)), setf (setf (setf f0)), setf (setf (setf f1)), setf (setf (setf f2))⟩
def CAllLoopS (E EM EC : Nat) (log : List DCommit) (t : DStore) (rok : Bool) (G B : Nat) (w4 : World) (i : Value) (wr : World) : Prop :=
  ∃ (k : Nat) (cur : DStore) (ga : Option Addr) (q : Nat) (zs : List PBox) (la : Option Addr) (lc : Nat), k ≤ log.length ∧ i = .int .i64 k ∧ Hid (StB wr G B E EM EC ga q zs la lc cur.log cur.given) ∧ Hid (zs.map PBox.box = cur.boxes) ∧ Hid (GoodS cur) ∧ Hid (cmtAll cur (log.drop k) = (t, rok)) ∧ Below B w4 wr
set_option maxRecDepth 100000 in
set_option maxHeartbeats 8000000 in
theorem specCommitAll_law (b : List PBox) (ba : Option Addr) (bc : Nat) (l : List DCommit) (la : Option Addr) (lc : Nat) (gv : Int) (log : List DCommit) (ka : Option Addr) (kc : Nat) (w : World) (R : Rd w ba bc 4 b.length (b.flatMap PBox.cells)) (M : RdM w b) (RL : Rd w la lc 6 l.length (l.flatMap DCommit.cells)) (hl : b.length ≤ 1048576) (hlm : ∀ y ∈ b, y.msgs.length ≤ 1048576) (hll : l.length ≤ 1048576) (gn : ∀ y ∈ b, y.name.size ≤ 9223372036854775807) (gt : ∀ y ∈ b, ∀ m ∈ y.msgs, m.text.size ≤ 9223372036854775807) (gl : ∀ y ∈ l, y.name.size ≤ 9223372036854775807 ∧ y.text.size ≤ 9223372036854775807) (RK : Rd w ka kc 6 log.length (log.flatMap DCommit.cells)) (hkl : log.length ≤ 1048576) (gk : ∀ y ∈ log, y.name.size ≤ 9223372036854775807 ∧ y.text.size ≤ 9223372036854775807) (rs : DStore) (rok : Bool) (H : Hid (CmtAllRel ⟨b.map PBox.box, l, gv⟩ log rs rok)) :
    Calls Tryz.prog 30 #[.agg #[.slice ba b.length bc, .slice la l.length lc, .int .i64 gv], .slice ka log.length kc] w fun e w' => ∃ g q zs g2 q2, e = .returned (.tuple #[.agg #[.slice g zs.length q, .slice g2 rs.log.length q2, .int .i64 rs.given], .bool rok]) ∧ OwnSt w' w.heap.size 42 88 53 g q zs g2 q2 rs.log ∧ zs.map PBox.box = rs.boxes ∧ Ext w w' := by
  have HR := Lib.hid R
  have HM := Lib.hid M
  have HRL := Lib.hid RL
  have HLM := Lib.hid hlm
  have HRK := Lib.hid RK
  have HGK := Lib.hid gk
  have HG0 := Lib.hid (good_S (gv := gv) hl hlm hll gn gt gl)
  obtain ⟨tt, htt, hrs⟩ := H.out
  have HTT := Lib.hid htt
  have HRS := Lib.hid hrs
  clear R M RL hlm gn gt RK gk htt hrs gl
  go_enter Tryz.func30, Tryz.ntmps30
  go_wp2_with (go_at_call 52; refine (specCopySt_any b ba bc l la lc gv _ (HR.out.ext bxt) (RdM.ext HM.out (show Below w.heap.size w _ from bxt)) (HRL.out.ext bxt) hl HLM.out hll).mono ?_; rintro e w4 ⟨gb0, q, zs, g2, q2, rfl, hown, hzb, hb4⟩; have HO : Hid (OwnSt w4 (w.heap.size + 2) 42 88 53 gb0 q zs g2 q2 l) := OwnSt.le hown (by first | (simp; done) | (simp; omega)); have HZB := Lib.hid hzb; clear hown hzb; have cp0_0 : w4.cell? ⟨w.heap.size, 0, none⟩ = some (.slice ba b.length bc) := (hb4.cell (p := ⟨w.heap.size, 0, none⟩) smx).trans kpx; have fp0_0 : w4.frozen? ⟨w.heap.size, 0, none⟩ = false := (hb4.frozen (p := ⟨w.heap.size, 0, none⟩) smx).trans kfx; have cp0_1 : w4.cell? ⟨w.heap.size, 1, none⟩ = some (.slice la l.length lc) := (hb4.cell (p := ⟨w.heap.size, 1, none⟩) smx).trans kpx; have fp0_1 : w4.frozen? ⟨w.heap.size, 1, none⟩ = false := (hb4.frozen (p := ⟨w.heap.size, 1, none⟩) smx).trans kfx; have cp0_2 : w4.cell? ⟨w.heap.size, 2, none⟩ = some (.int .i64 gv) := (hb4.cell (p := ⟨w.heap.size, 2, none⟩) smx).trans kpx; have fp0_2 : w4.frozen? ⟨w.heap.size, 2, none⟩ = false := (hb4.frozen (p := ⟨w.heap.size, 2, none⟩) smx).trans kfx; have sp0 : w.heap.size < w4.heap.size := (by have hss := hb4.size; first | omega | (simp at hss; omega)); have cp1_0 : w4.cell? ⟨(w.heap.size + 1), 0, none⟩ = some (.slice none 0 0) := (hb4.cell (p := ⟨(w.heap.size + 1), 0, none⟩) smx).trans kpx; have fp1_0 : w4.frozen? ⟨(w.heap.size + 1), 0, none⟩ = false := (hb4.frozen (p := ⟨(w.heap.size + 1), 0, none⟩) smx).trans kfx; have cp1_1 : w4.cell? ⟨(w.heap.size + 1), 1, none⟩ = some (.slice none 0 0) := (hb4.cell (p := ⟨(w.heap.size + 1), 1, none⟩) smx).trans kpx; have fp1_1 : w4.frozen? ⟨(w.heap.size + 1), 1, none⟩ = false := (hb4.frozen (p := ⟨(w.heap.size + 1), 1, none⟩) smx).trans kfx; have cp1_2 : w4.cell? ⟨(w.heap.size + 1), 2, none⟩ = some (.int .i64 0) := (hb4.cell (p := ⟨(w.heap.size + 1), 2, none⟩) smx).trans kpx; have fp1_2 : w4.frozen? ⟨(w.heap.size + 1), 2, none⟩ = false := (hb4.frozen (p := ⟨(w.heap.size + 1), 2, none⟩) smx).trans kfx; have sp1 : (w.heap.size + 1) < w4.heap.size := (by have hss := hb4.size; first | omega | (simp at hss; omega)))
  have hbw4 : Below w.heap.size w w4 := bxt
  have hs24 : w.heap.size + 2 ≤ w4.heap.size := by omega
  go_loopw [7] (CAllLoopS 42 88 53 log tt rok w4.heap.size (w.heap.size + 2) w4) (fun i _ => log.length - (intOf i).toNat)
  case atStart => exact ⟨0, ⟨b.map PBox.box, l, gv⟩, gb0, q, zs, g2, q2, Nat.zero_le _, rfl, Lib.hid (StB.new HO.out), HZB, HG0, HTT, Below.alloc (Below.refl _ _) hs24 _⟩
  case round =>
    obtain ⟨k, cur, ga, q, zs, la2, lc2, hk, rfl, HS, HZ, HG, HC, hbe⟩ := hrel
    have hbw : Below w.heap.size w wr := hbw4.trans (hbe.mono (by omega))
    have hws : w4.heap.size ≤ wr.heap.size := hbe.size
    have e0 := HS.out.c0
    have e1 := HS.out.c1
    have e2 := HS.out.c2
    have hGs := HS.out.lt
    have ca0_0 : wr.cell? ⟨w.heap.size, 0, none⟩ = some (.slice ba b.length bc) := (hbe.cell (p := ⟨w.heap.size, 0, none⟩) smx).trans kpx
    have fa0_0 : wr.frozen? ⟨w.heap.size, 0, none⟩ = false := (hbe.frozen (p := ⟨w.heap.size, 0, none⟩) smx).trans kfx
    have ca0_1 : wr.cell? ⟨w.heap.size, 1, none⟩ = some (.slice la l.length lc) := (hbe.cell (p := ⟨w.heap.size, 1, none⟩) smx).trans kpx
    have fa0_1 : wr.frozen? ⟨w.heap.size, 1, none⟩ = false := (hbe.frozen (p := ⟨w.heap.size, 1, none⟩) smx).trans kfx
    have ca0_2 : wr.cell? ⟨w.heap.size, 2, none⟩ = some (.int .i64 gv) := (hbe.cell (p := ⟨w.heap.size, 2, none⟩) smx).trans kpx
    have fa0_2 : wr.frozen? ⟨w.heap.size, 2, none⟩ = false := (hbe.frozen (p := ⟨w.heap.size, 2, none⟩) smx).trans kfx
    have sa0 : w.heap.size < wr.heap.size := (by have hss := hbe.size; first | omega | (simp at hss; omega))
    have ca1_0 : wr.cell? ⟨(w.heap.size + 1), 0, none⟩ = some (.slice none 0 0) := (hbe.cell (p := ⟨(w.heap.size + 1), 0, none⟩) smx).trans kpx
    have fa1_0 : wr.frozen? ⟨(w.heap.size + 1), 0, none⟩ = false := (hbe.frozen (p := ⟨(w.heap.size + 1), 0, none⟩) smx).trans kfx
    have ca1_1 : wr.cell? ⟨(w.heap.size + 1), 1, none⟩ = some (.slice none 0 0) := (hbe.cell (p := ⟨(w.heap.size + 1), 1, none⟩) smx).trans kpx
    have fa1_1 : wr.frozen? ⟨(w.heap.size + 1), 1, none⟩ = false := (hbe.frozen (p := ⟨(w.heap.size + 1), 1, none⟩) smx).trans kfx
    have ca1_2 : wr.cell? ⟨(w.heap.size + 1), 2, none⟩ = some (.int .i64 0) := (hbe.cell (p := ⟨(w.heap.size + 1), 2, none⟩) smx).trans kpx
    have fa1_2 : wr.frozen? ⟨(w.heap.size + 1), 2, none⟩ = false := (hbe.frozen (p := ⟨(w.heap.size + 1), 2, none⟩) smx).trans kfx
    have sa1 : (w.heap.size + 1) < wr.heap.size := (by have hss := hbe.size; first | omega | (simp at hss; omega))
    by_cases hlt : k < log.length
    · obtain ⟨kb, ofs, rfl, hbb, hat⟩ := HRK.out.ptr (by omega)
      have hkbw : kb < wr.heap.size := by (have := hbw.size; omega)
      obtain ⟨x0, x1, x2, x3, x4, x5⟩ := DCommit.at (hat.ext hbb hbw) k hlt
      have HAT := Lib.hid hat
      clear hat
      obtain ⟨r, hr⟩ := boolOf (ComP cur log[k])
      obtain ⟨rs6, hrs6⟩ : ∃ x, (if r then comD cur log[k] else cur) = x := ⟨_, rfl⟩
      have HT : Hid (CmtRel ⟨zs.map PBox.box, cur.log, cur.given⟩ log[k] rs6 r) := Lib.hid (by rw [HZ.out]; exact ⟨hr, hrs6⟩)
      have HRS6 := Lib.hid hrs6
      clear hrs6
      have HST := Lib.hid (cmtAll_step hlt HC.out hr)
      clear hr
      have hgl := HGK.out _ (List.getElem_mem hlt)
      obtain ⟨hl5, hlm5', hgn5', hgt5'⟩ := good_to (show GoodD (zs.map PBox.box) by rw [HZ.out]; exact HG.out.1)
      have hll5 := HG.out.2.1
      have hlm5 := Lib.hid hlm5'
      have hgn5 := Lib.hid hgn5'
      have hgt5 := Lib.hid hgt5'
      clear hlm5' hgn5' hgt5'
      go_upto_region 5 with fail
      go_cut [8, 9] (fun v u wx => CutS 42 88 53 rs6 wr v wx ∧ u = .bool r)
      case first =>
        go_region_held3 (fun w' => Below wr.heap.size wr w' ∧ (∀ b o, b < wr.heap.size → w'.cell? ⟨b, o, none⟩ = wr.cell? ⟨b, o, none⟩)) (first | with_reducible exact sBeg _ | with_reducible exact sExt (by assumption) (by assumption) | (refine sMk3 ?_; exact bxt)) ((go_at_call 25; refine (specCommitted_law zs ga q cur.log la2 lc2 cur.given log[k] _ ((HS.out.own.box.rd).ext bxt) (RdM.ext HS.out.own.box.rdm (show Below wr.heap.size wr _ from bxt)) ((Rd.of_Own HS.out.own.log).ext bxt) hl5 hlm5.out hll5 hgn5.out hgt5.out hgl.1 hgl.2 rs6 r HT).mono ?_; rintro e w6 ⟨ga6, qa6, zs6, gc6, qc6, rfl, hown, hqz, hb6⟩; have HX6 := Lib.hid hown; have HZ6 := Lib.hid hqz; clear hown hqz; have hzz6 := hb6.size; (try simp at hzz6); (try (have hx6 : wr.heap.size < w6.heap.size := hzz6; (first | have hy6_0 : w6.cell? ⟨wr.heap.size, 0, none⟩ = some (.slice none 0 0) := (hb6.cell (p := ⟨wr.heap.size, 0, none⟩) (by simp)).trans (keep_new rfl) | have hy6_0 : w6.cell? ⟨wr.heap.size, 0, none⟩ = some (.slice none 0 0) := (hb6.cell (p := ⟨wr.heap.size, 0, none⟩) (by simp)).trans (keep_newd rfl)); (first | have hv6_0 : w6.frozen? ⟨wr.heap.size, 0, none⟩ = false := (hb6.frozen (p := ⟨wr.heap.size, 0, none⟩) (by simp)).trans (keepf_new (by simp)) | have hv6_0 : w6.frozen? ⟨wr.heap.size, 0, none⟩ = false := (hb6.frozen (p := ⟨wr.heap.size, 0, none⟩) (by simp)).trans (keepf_newd (by simp))); (first | have hy6_1 : w6.cell? ⟨wr.heap.size, 1, none⟩ = some (.slice none 0 0) := (hb6.cell (p := ⟨wr.heap.size, 1, none⟩) (by simp)).trans (keep_new rfl) | have hy6_1 : w6.cell? ⟨wr.heap.size, 1, none⟩ = some (.slice none 0 0) := (hb6.cell (p := ⟨wr.heap.size, 1, none⟩) (by simp)).trans (keep_newd rfl)); (first | have hv6_1 : w6.frozen? ⟨wr.heap.size, 1, none⟩ = false := (hb6.frozen (p := ⟨wr.heap.size, 1, none⟩) (by simp)).trans (keepf_new (by simp)) | have hv6_1 : w6.frozen? ⟨wr.heap.size, 1, none⟩ = false := (hb6.frozen (p := ⟨wr.heap.size, 1, none⟩) (by simp)).trans (keepf_newd (by simp))); (first | have hy6_2 : w6.cell? ⟨wr.heap.size, 2, none⟩ = some (.int .i64 0) := (hb6.cell (p := ⟨wr.heap.size, 2, none⟩) (by simp)).trans (keep_new rfl) | have hy6_2 : w6.cell? ⟨wr.heap.size, 2, none⟩ = some (.int .i64 0) := (hb6.cell (p := ⟨wr.heap.size, 2, none⟩) (by simp)).trans (keep_newd rfl)); (first | have hv6_2 : w6.frozen? ⟨wr.heap.size, 2, none⟩ = false := (hb6.frozen (p := ⟨wr.heap.size, 2, none⟩) (by simp)).trans (keepf_new (by simp)) | have hv6_2 : w6.frozen? ⟨wr.heap.size, 2, none⟩ = false := (hb6.frozen (p := ⟨wr.heap.size, 2, none⟩) (by simp)).trans (keepf_newd (by simp)))))))
        all_goals go_wp2_with fail
        all_goals go_meet
        all_goals refine ⟨⟨_, ga6, qa6, zs6, gc6, qc6, rfl, (by (first | omega | (simp <;> omega))), (by (first | omega | (simp <;> omega))), (at_cons (by simp [go_sem, *]) (at_cons (by simp [go_sem, *]) (at_cons (by simp [go_sem, *]) at_nil))), ?_, ?_, HZ6.out, ?_⟩, rfl⟩
        all_goals first | with_reducible exact OwnSt.ne_at HX6.out (by (first | omega | (simp <;> omega))) | with_reducible exact (by (repeat' (first | with_reducible refine OwnSt.set_at ?_ HX6.out (by (first | omega | (simp <;> omega))) _ | with_reducible refine OwnSt.alloc1 ?_ _ | with_reducible refine OwnSt.drew1 ?_)); exact OwnSt.le HX6.out (by (first | omega | (simp <;> omega)))) | exact bxt
      case rest =>
        obtain ⟨⟨β, g5, q5, z5, la5, lc5, rfl, hβ, hβs, hat, hown5, hoff5, hd5, hb5⟩, rfl⟩ := hcut
        have y0 : wc.cell? ⟨β, 0, none⟩ = some (.slice g5 z5.length q5) := by simpa using hat 0 _ rfl
        have y1 : wc.cell? ⟨β, 1, none⟩ = some (.slice la5 rs6.log.length lc5) := by simpa using hat 1 _ rfl
        have y2 : wc.cell? ⟨β, 2, none⟩ = some (.int .i64 rs6.given) := by simpa using hat 2 _ rfl
        have HO5 := Lib.hid hown5
        have HD5 := Lib.hid hd5
        clear hat hown5 hoff5 hd5
        have hG5 : w4.heap.size < wc.heap.size := Nat.lt_of_lt_of_le hGs hb5.size
        have HSW := Lib.hid (HS.out.ext hb5)
        have z0 := HSW.out.c0
        have z1 := HSW.out.c1
        have z2 := HSW.out.c2
        have zf0 := HSW.out.f0
        have zf1 := HSW.out.f1
        have zf2 := HSW.out.f2
        have hbw6 : Below (w.heap.size + 2) w4 wc := Below.extB hbe hb5 (by omega)
        have cd0_0 : wc.cell? ⟨w.heap.size, 0, none⟩ = some (.slice ba b.length bc) := (hb5.cell (p := ⟨w.heap.size, 0, none⟩) smx).trans kpx
        have fd0_0 : wc.frozen? ⟨w.heap.size, 0, none⟩ = false := (hb5.frozen (p := ⟨w.heap.size, 0, none⟩) smx).trans kfx
        have cd0_1 : wc.cell? ⟨w.heap.size, 1, none⟩ = some (.slice la l.length lc) := (hb5.cell (p := ⟨w.heap.size, 1, none⟩) smx).trans kpx
        have fd0_1 : wc.frozen? ⟨w.heap.size, 1, none⟩ = false := (hb5.frozen (p := ⟨w.heap.size, 1, none⟩) smx).trans kfx
        have cd0_2 : wc.cell? ⟨w.heap.size, 2, none⟩ = some (.int .i64 gv) := (hb5.cell (p := ⟨w.heap.size, 2, none⟩) smx).trans kpx
        have fd0_2 : wc.frozen? ⟨w.heap.size, 2, none⟩ = false := (hb5.frozen (p := ⟨w.heap.size, 2, none⟩) smx).trans kfx
        have sd0 : w.heap.size < wc.heap.size := (by have hss := hb5.size; first | omega | (simp at hss; omega))
        have cd1_0 : wc.cell? ⟨(w.heap.size + 1), 0, none⟩ = some (.slice none 0 0) := (hb5.cell (p := ⟨(w.heap.size + 1), 0, none⟩) smx).trans kpx
        have fd1_0 : wc.frozen? ⟨(w.heap.size + 1), 0, none⟩ = false := (hb5.frozen (p := ⟨(w.heap.size + 1), 0, none⟩) smx).trans kfx
        have cd1_1 : wc.cell? ⟨(w.heap.size + 1), 1, none⟩ = some (.slice none 0 0) := (hb5.cell (p := ⟨(w.heap.size + 1), 1, none⟩) smx).trans kpx
        have fd1_1 : wc.frozen? ⟨(w.heap.size + 1), 1, none⟩ = false := (hb5.frozen (p := ⟨(w.heap.size + 1), 1, none⟩) smx).trans kfx
        have cd1_2 : wc.cell? ⟨(w.heap.size + 1), 2, none⟩ = some (.int .i64 0) := (hb5.cell (p := ⟨(w.heap.size + 1), 2, none⟩) smx).trans kpx
        have fd1_2 : wc.frozen? ⟨(w.heap.size + 1), 2, none⟩ = false := (hb5.frozen (p := ⟨(w.heap.size + 1), 2, none⟩) smx).trans kfx
        have sd1 : (w.heap.size + 1) < wc.heap.size := (by have hss := hb5.size; first | omega | (simp at hss; omega))
        cases r with
        | true =>
          obtain rfl : comD cur log[k] = rs6 := by simpa using HRS6.out
          have HST2 : Hid (cmtAll (comD cur log[k]) (log.drop (k + 1)) = (tt, rok)) := Lib.hid (by simpa using HST.out)
          have HCP : Hid (ComP cur log[k]) := Lib.hid (HT.out.1.1 rfl |> fun h => by rw [HZ.out] at h; exact h)
          go_wp2_with fail
          go_roundw
          case rel => exact ⟨k + 1, comD cur log[k], g5, q5, z5, la5, lc5, by omega, by go_num, Lib.hid (StB.put3 (HO5.out.le (by omega)) hG5 (fun x hx e => by have := (HO5.out.rows_lt x hx).1; omega) z0 z1 z2 zf0 zf1 zf2), HD5, Lib.hid (good_com HG.out HCP.out hgl.1 hgl.2), HST2, Below.setCell (Below.setCell (Below.setCell hbw6 (by omega) _) (by omega) _) (by omega) _⟩
          case measure => simp [intOf]; omega
        | false =>
          obtain rfl : cur = rs6 := by simpa using HRS6.out
          obtain ⟨hz1, hz2⟩ : cur = tt ∧ false = rok := by simpa using HST.out
          subst hz2
          have hrs2 : rs = ⟨b.map PBox.box, l, gv⟩ := by simpa using HRS.out
          have HRS2 := Lib.hid hrs2
          clear hz1 hrs2
          go_wp2_with (go_at_call 52; refine (specCopySt_any b ba bc l la lc gv _ (HR.out.ext (Below.ext hbw bxt)) (RdM.ext HM.out (Below.ext hbw bxt)) (HRL.out.ext (Below.ext hbw bxt)) hl HLM.out hll).mono ?_; rintro e w7 ⟨gb7, q7, zs7, g7, q8, rfl, hown7, hzb7, hb7⟩; have HO7 := Lib.hid hown7; have HZ7 := Lib.hid hzb7; clear hown7 hzb7; have cu0_0 : w7.cell? ⟨(w.heap.size + 1), 0, none⟩ = some (.slice none 0 0) := (hb7.cell (p := ⟨(w.heap.size + 1), 0, none⟩) smx).trans kpx; have fu0_0 : w7.frozen? ⟨(w.heap.size + 1), 0, none⟩ = false := (hb7.frozen (p := ⟨(w.heap.size + 1), 0, none⟩) smx).trans kfx; have cu0_1 : w7.cell? ⟨(w.heap.size + 1), 1, none⟩ = some (.slice none 0 0) := (hb7.cell (p := ⟨(w.heap.size + 1), 1, none⟩) smx).trans kpx; have fu0_1 : w7.frozen? ⟨(w.heap.size + 1), 1, none⟩ = false := (hb7.frozen (p := ⟨(w.heap.size + 1), 1, none⟩) smx).trans kfx; have cu0_2 : w7.cell? ⟨(w.heap.size + 1), 2, none⟩ = some (.int .i64 0) := (hb7.cell (p := ⟨(w.heap.size + 1), 2, none⟩) smx).trans kpx; have fu0_2 : w7.frozen? ⟨(w.heap.size + 1), 2, none⟩ = false := (hb7.frozen (p := ⟨(w.heap.size + 1), 2, none⟩) smx).trans kfx; have su0 : (w.heap.size + 1) < w7.heap.size := (by have hss := hb7.size; first | omega | (simp at hss; omega)))
          refine bodyPost_ret (v := .tuple #[.agg #[.slice gb7 zs7.length q7, .slice g7 l.length q8, .int .i64 gv], .bool false]) (by simp [results, Tryz.results30, go_sem, *]) rfl ⟨gb7, q7, zs7, g7, q8, by rw [HRS2.out], ?_, by rw [HRS2.out]; exact HZ7.out, ?_⟩
          · rw [HRS2.out]
            exact (((HO7.out.setb smx _).setb smx _).setb smx _).le (by omega)
          · exact bxt
    · obtain ⟨hz1, hz2⟩ := cmtAll_end (by omega) HC.out
      subst hz2
      have hrs2 : rs = cur := by (have h := HRS.out; rw [if_pos rfl] at h; rw [h, hz1])
      have hkk : k = log.length := by omega
      have HKK := Lib.hid hkk
      subst hrs2
      clear hkk hz1
      go_wp2_with fail
      refine bodyPost_ret (v := .tuple #[.agg #[.slice ga zs.length q, .slice la2 rs.log.length lc2, .int .i64 rs.given], .bool true]) (by simp [results, Tryz.results30, go_sem, *]) rfl ⟨ga, q, zs, la2, lc2, rfl, ?_, HZ.out, ?_⟩
      · exact (((HS.out.own.setb smx _).setb smx _).setb smx _).le (by omega)
      · exact bxt
end Go.Proofs.YtdigkaddmpdeoaaGreat
