/-
  The program's CommitAll.
-/
import Derived.Test.YtjcnhkmhcfmoeaaGreatWCommitted
import Derived.Test.YtjcnhkmhcfmoeaaGreatWComAllP
namespace Go.Proofs.YtjcnhkmhcfmoeaaGreat
open Go.RowKit
set_option linter.unusedVariables false
set_option linter.unusedSimpArgs false

theorem calls_world {P : Program} {f : FuncId} {args : Array Value} {W : World} {Q : Ending → World → Prop} (h : ∀ x, x = W → Calls P f args x Q) : Calls P f args W Q := h W rfl
def CAllLoop (E EM EC : Nat) (log : List DCommit) (t : DStore) (rok : Bool) (G B : Nat) (w4 : World) (i : Value) (wr : World) : Prop :=
  ∃ (k : Nat) (cur : DStore) (ga : Option Addr) (q : Nat) (zs : List PBox) (la : Option Addr) (lc : Nat), k ≤ log.length ∧ i = .int .i64 k ∧ Hid (StB wr G B E EM EC ga q zs la lc cur.log cur.given) ∧ Hid (zs.map PBox.box = cur.boxes) ∧ Hid (GoodS cur) ∧ Hid (cmtAll cur (log.drop k) = (t, rok)) ∧ Below B w4 wr
set_option maxRecDepth 100000 in
set_option maxHeartbeats 8000000 in
theorem implCommitAll_law (b : List PBox) (ba : Option Addr) (bc : Nat) (l : List DCommit) (la : Option Addr) (lc : Nat) (gv : Int) (log : List DCommit) (ka : Option Addr) (kc : Nat) (w : World) (R : Rd w ba bc 4 b.length (b.flatMap PBox.cells)) (M : RdM w b) (RL : Rd w la lc 6 l.length (l.flatMap DCommit.cells)) (hl : b.length ≤ 1048576) (hlm : ∀ y ∈ b, y.msgs.length ≤ 1048576) (hll : l.length ≤ 1048576) (gn : ∀ y ∈ b, y.name.size ≤ 9223372036854775807) (gt : ∀ y ∈ b, ∀ m ∈ y.msgs, m.text.size ≤ 9223372036854775807) (gl : ∀ y ∈ l, y.name.size ≤ 9223372036854775807 ∧ y.text.size ≤ 9223372036854775807) (RK : Rd w ka kc 6 log.length (log.flatMap DCommit.cells)) (hkl : log.length ≤ 1048576) (gk : ∀ y ∈ log, y.name.size ≤ 9223372036854775807 ∧ y.text.size ≤ 9223372036854775807) (hm : MaxLen w) (rs : DStore) (rok : Bool) (H : Hid (CmtAllRel ⟨b.map PBox.box, l, gv⟩ log rs rok)) :
    Calls Tryz.prog 14 #[.agg #[.slice ba b.length bc, .slice la l.length lc, .int .i64 gv], .slice ka log.length kc] w fun e w' => ∃ g q zs g2 q2, e = .returned (.tuple #[.agg #[.slice g zs.length q, .slice g2 rs.log.length q2, .int .i64 rs.given], .bool rok]) ∧ OwnSt w' w.heap.size 49 66 41 g q zs g2 q2 rs.log ∧ zs.map PBox.box = rs.boxes ∧ Ext w w' := by
  have HR := Lib.hid R
  have HM := Lib.hid M
  have HRL := Lib.hid RL
  have HLM := Lib.hid hlm
  have HRK := Lib.hid RK
  have HGK := Lib.hid gk
  have HMX := Lib.hid hm
  have HG0 := Lib.hid (good_S (gv := gv) hl hlm hll gn gt gl)
  obtain ⟨tt, htt, hrs⟩ := H.out
  have HTT := Lib.hid htt
  have HRS := Lib.hid hrs
  clear R M RL hlm gn gt hm RK gk htt hrs gl
  go_enter Tryz.func14, Tryz.ntmps14
  go_wp2_with (go_at_call 66; refine (implCopySt_any b ba bc l la lc gv _ (HR.out.ext bxt) (RdM.ext HM.out (show Below w.heap.size w _ from bxt)) (HRL.out.ext bxt) hl HLM.out hll).mono ?_; rintro e w4 ⟨gb0, q, zs, g2, q2, rfl, hown, hzb, hb4⟩; have HO : Hid (OwnSt w4 (w.heap.size + 2) 49 66 41 gb0 q zs g2 q2 l) := OwnSt.le hown (by first | (simp; done) | (simp; omega)); have HZB := Lib.hid hzb; clear hown hzb; have cp0_0 : w4.cell? ⟨w.heap.size, 0, none⟩ = some (.slice ba b.length bc) := (hb4.cell (p := ⟨w.heap.size, 0, none⟩) smx).trans kpx; have fp0_0 : w4.frozen? ⟨w.heap.size, 0, none⟩ = false := (hb4.frozen (p := ⟨w.heap.size, 0, none⟩) smx).trans kfx; have cp0_1 : w4.cell? ⟨w.heap.size, 1, none⟩ = some (.slice la l.length lc) := (hb4.cell (p := ⟨w.heap.size, 1, none⟩) smx).trans kpx; have fp0_1 : w4.frozen? ⟨w.heap.size, 1, none⟩ = false := (hb4.frozen (p := ⟨w.heap.size, 1, none⟩) smx).trans kfx; have cp0_2 : w4.cell? ⟨w.heap.size, 2, none⟩ = some (.int .i64 gv) := (hb4.cell (p := ⟨w.heap.size, 2, none⟩) smx).trans kpx; have fp0_2 : w4.frozen? ⟨w.heap.size, 2, none⟩ = false := (hb4.frozen (p := ⟨w.heap.size, 2, none⟩) smx).trans kfx; have sp0 : w.heap.size < w4.heap.size := (by have hss := hb4.size; first | omega | (simp at hss; omega)); have cp1_0 : w4.cell? ⟨(w.heap.size + 1), 0, none⟩ = some (.slice none 0 0) := (hb4.cell (p := ⟨(w.heap.size + 1), 0, none⟩) smx).trans kpx; have fp1_0 : w4.frozen? ⟨(w.heap.size + 1), 0, none⟩ = false := (hb4.frozen (p := ⟨(w.heap.size + 1), 0, none⟩) smx).trans kfx; have cp1_1 : w4.cell? ⟨(w.heap.size + 1), 1, none⟩ = some (.slice none 0 0) := (hb4.cell (p := ⟨(w.heap.size + 1), 1, none⟩) smx).trans kpx; have fp1_1 : w4.frozen? ⟨(w.heap.size + 1), 1, none⟩ = false := (hb4.frozen (p := ⟨(w.heap.size + 1), 1, none⟩) smx).trans kfx; have cp1_2 : w4.cell? ⟨(w.heap.size + 1), 2, none⟩ = some (.int .i64 0) := (hb4.cell (p := ⟨(w.heap.size + 1), 2, none⟩) smx).trans kpx; have fp1_2 : w4.frozen? ⟨(w.heap.size + 1), 2, none⟩ = false := (hb4.frozen (p := ⟨(w.heap.size + 1), 2, none⟩) smx).trans kfx; have sp1 : (w.heap.size + 1) < w4.heap.size := (by have hss := hb4.size; first | omega | (simp at hss; omega)))
  have hbw4 : Below w.heap.size w w4 := bxt
  have hs24 : w.heap.size + 2 ≤ w4.heap.size := by omega
  go_loopw [13] (CAllLoop 49 66 41 log tt rok w4.heap.size (w.heap.size + 2) w4) (fun i _ => log.length - (intOf i).toNat)
  case atStart => exact ⟨0, ⟨b.map PBox.box, l, gv⟩, gb0, q, zs, g2, q2, Nat.zero_le _, rfl, Lib.hid (StB.new HO.out), HZB, HG0, HTT, Below.alloc (Below.refl _ _) hs24 _⟩
  case round =>
    obtain ⟨k, cur, ga, q, zs, la2, lc2, hk, rfl, HS, HZ, HG, HC, hbe⟩ := hrel
    have hbw : Below w.heap.size w wr := hbw4.trans (hbe.mono (by omega))
    have hws : w4.heap.size ≤ wr.heap.size := hbe.size
    have e0 := HS.out.c0
    have e1 := HS.out.c1
    have e2 := HS.out.c2
    have hGs := HS.out.lt
    have ca0_0 : wr.cell? ⟨w.heap.size, 0, none⟩ = some (.slice ba b.length bc) := (hbe.cell (p := ⟨w.heap.size, 0, none⟩) smx).trans kpx
    have fa0_0 : wr.frozen? ⟨w.heap.size, 0, none⟩ = false := (hbe.frozen (p := ⟨w.heap.size, 0, none⟩) smx).trans kfx
    have ca0_1 : wr.cell? ⟨w.heap.size, 1, none⟩ = some (.slice la l.length lc) := (hbe.cell (p := ⟨w.heap.size, 1, none⟩) smx).trans kpx
    have fa0_1 : wr.frozen? ⟨w.heap.size, 1, none⟩ = false := (hbe.frozen (p := ⟨w.heap.size, 1, none⟩) smx).trans kfx
    have ca0_2 : wr.cell? ⟨w.heap.size, 2, none⟩ = some (.int .i64 gv) := (hbe.cell (p := ⟨w.heap.size, 2, none⟩) smx).trans kpx
    have fa0_2 : wr.frozen? ⟨w.heap.size, 2, none⟩ = false := (hbe.frozen (p := ⟨w.heap.size, 2, none⟩) smx).trans kfx
    have sa0 : w.heap.size < wr.heap.size := (by have hss := hbe.size; first | omega | (simp at hss; omega))
    have ca1_0 : wr.cell? ⟨(w.heap.size + 1), 0, none⟩ = some (.slice none 0 0) := (hbe.cell (p := ⟨(w.heap.size + 1), 0, none⟩) smx).trans kpx
    have fa1_0 : wr.frozen? ⟨(w.heap.size + 1), 0, none⟩ = false := (hbe.frozen (p := ⟨(w.heap.size + 1), 0, none⟩) smx).trans kfx
    have ca1_1 : wr.cell? ⟨(w.heap.size + 1), 1, none⟩ = some (.slice none 0 0) := (hbe.cell (p := ⟨(w.heap.size + 1), 1, none⟩) smx).trans kpx
    have fa1_1 : wr.frozen? ⟨(w.heap.size + 1), 1, none⟩ = false := (hbe.frozen (p := ⟨(w.heap.size + 1), 1, none⟩) smx).trans kfx
    have ca1_2 : wr.cell? ⟨(w.heap.size + 1), 2, none⟩ = some (.int .i64 0) := (hbe.cell (p := ⟨(w.heap.size + 1), 2, none⟩) smx).trans kpx
    have fa1_2 : wr.frozen? ⟨(w.heap.size + 1), 2, none⟩ = false := (hbe.frozen (p := ⟨(w.heap.size + 1), 2, none⟩) smx).trans kfx
    have sa1 : (w.heap.size + 1) < wr.heap.size := (by have hss := hbe.size; first | omega | (simp at hss; omega))
    by_cases hlt : k < log.length
    · obtain ⟨kb, ofs, rfl, hbb, hat⟩ := HRK.out.ptr (by omega)
      have hkbw : kb < wr.heap.size := by (have := hbw.size; omega)
      obtain ⟨x0, x1, x2, x3, x4, x5⟩ := DCommit.at (hat.ext hbb hbw) k hlt
      have HAT := Lib.hid hat
      clear hat
      have HMW := Lib.hid (HMX.out.ext hbw)
      obtain ⟨r, hr⟩ := boolOf (ComP cur log[k])
      have HT : Hid (CmtRel cur log[k] (if r then comD cur log[k] else cur) r) := Lib.hid ⟨hr, rfl⟩
      have HST := Lib.hid (cmtAll_step hlt HC.out hr)
      clear hr
      have hgl := HGK.out _ (List.getElem_mem hlt)
      go_wp2_with fail
      refine calls_world (fun W5 hW5 => ?_)
      have hb5 : Ext wr W5 := by (rw [hW5]; exact bxt)
      clear hW5
      refine (commit_any zs ga q cur.log la2 lc2 cur.given w4.heap.size (w.heap.size + 2) log[k] _ (Lib.hid (StB.ext HS.out hb5)) (by have := hb5.size; omega) (HMW.out.ext hb5) (by have h := HG.out.1; rw [← HZ.out] at h; exact (good_to h).2.2.1) (by have h := HG.out.1; rw [← HZ.out] at h; exact (good_to h).2.2.2) hgl.1 hgl.2 (if r then comD cur log[k] else cur) r (Lib.hid (by rw [HZ.out]; exact HT.out))).mono ?_
      rintro e w6 ⟨rfl, g5, q5, z5, la5, lc5, hs5, hd5, hch5, hr5⟩
      have hB6 : Below (w.heap.size + 2) W5 w6 := hch5.below (fun x hx => hx.elim (fun h => by omega) (fun h => (HS.out.own.rows_lt x h).1)) (by have := hb5.size; omega)
      have hbe6 : Below (w.heap.size + 2) w4 w6 := (Below.extB hbe hb5 (by omega)).trans hB6
      have hbw6 : Below w.heap.size w w6 := hbw4.trans (hbe6.mono (by omega))
      have H5 := Lib.hid hs5
      have HD5 := Lib.hid hd5
      clear hs5 hd5 hch5 hr5
      have cd0_0 : w6.cell? ⟨w.heap.size, 0, none⟩ = some (.slice ba b.length bc) := (hbe6.cell (p := ⟨w.heap.size, 0, none⟩) smx).trans kpx
      have fd0_0 : w6.frozen? ⟨w.heap.size, 0, none⟩ = false := (hbe6.frozen (p := ⟨w.heap.size, 0, none⟩) smx).trans kfx
      have cd0_1 : w6.cell? ⟨w.heap.size, 1, none⟩ = some (.slice la l.length lc) := (hbe6.cell (p := ⟨w.heap.size, 1, none⟩) smx).trans kpx
      have fd0_1 : w6.frozen? ⟨w.heap.size, 1, none⟩ = false := (hbe6.frozen (p := ⟨w.heap.size, 1, none⟩) smx).trans kfx
      have cd0_2 : w6.cell? ⟨w.heap.size, 2, none⟩ = some (.int .i64 gv) := (hbe6.cell (p := ⟨w.heap.size, 2, none⟩) smx).trans kpx
      have fd0_2 : w6.frozen? ⟨w.heap.size, 2, none⟩ = false := (hbe6.frozen (p := ⟨w.heap.size, 2, none⟩) smx).trans kfx
      have sd0 : w.heap.size < w6.heap.size := (by have hss := hbe6.size; first | omega | (simp at hss; omega))
      have cd1_0 : w6.cell? ⟨(w.heap.size + 1), 0, none⟩ = some (.slice none 0 0) := (hbe6.cell (p := ⟨(w.heap.size + 1), 0, none⟩) smx).trans kpx
      have fd1_0 : w6.frozen? ⟨(w.heap.size + 1), 0, none⟩ = false := (hbe6.frozen (p := ⟨(w.heap.size + 1), 0, none⟩) smx).trans kfx
      have cd1_1 : w6.cell? ⟨(w.heap.size + 1), 1, none⟩ = some (.slice none 0 0) := (hbe6.cell (p := ⟨(w.heap.size + 1), 1, none⟩) smx).trans kpx
      have fd1_1 : w6.frozen? ⟨(w.heap.size + 1), 1, none⟩ = false := (hbe6.frozen (p := ⟨(w.heap.size + 1), 1, none⟩) smx).trans kfx
      have cd1_2 : w6.cell? ⟨(w.heap.size + 1), 2, none⟩ = some (.int .i64 0) := (hbe6.cell (p := ⟨(w.heap.size + 1), 2, none⟩) smx).trans kpx
      have fd1_2 : w6.frozen? ⟨(w.heap.size + 1), 2, none⟩ = false := (hbe6.frozen (p := ⟨(w.heap.size + 1), 2, none⟩) smx).trans kfx
      have sd1 : (w.heap.size + 1) < w6.heap.size := (by have hss := hbe6.size; first | omega | (simp at hss; omega))
      cases r with
      | true =>
        have HST2 : Hid (cmtAll (comD cur log[k]) (log.drop (k + 1)) = (tt, rok)) := Lib.hid (by simpa using HST.out)
        have HCP : Hid (ComP cur log[k]) := Lib.hid (HT.out.1.1 rfl)
        go_wp2_with fail
        go_roundw
        case rel => exact ⟨k + 1, comD cur log[k], g5, q5, z5, la5, lc5, by omega, by go_num, H5, HD5, Lib.hid (good_com HG.out HCP.out hgl.1 hgl.2), HST2, hbe6⟩
        case measure => simp [intOf]; omega
      | false =>
        obtain ⟨hz1, hz2⟩ : cur = tt ∧ false = rok := by simpa using HST.out
        subst hz2
        have hrs2 : rs = ⟨b.map PBox.box, l, gv⟩ := by simpa using HRS.out
        have HRS2 := Lib.hid hrs2
        clear hz1 hrs2
        go_wp2_with (go_at_call 66; refine (implCopySt_any b ba bc l la lc gv _ (HR.out.ext (Below.ext hbw6 bxt)) (RdM.ext HM.out (Below.ext hbw6 bxt)) (HRL.out.ext (Below.ext hbw6 bxt)) hl HLM.out hll).mono ?_; rintro e w7 ⟨gb7, q7, zs7, g7, q8, rfl, hown7, hzb7, hb7⟩; have HO7 := Lib.hid hown7; have HZ7 := Lib.hid hzb7; clear hown7 hzb7; have cu0_0 : w7.cell? ⟨(w.heap.size + 1), 0, none⟩ = some (.slice none 0 0) := (hb7.cell (p := ⟨(w.heap.size + 1), 0, none⟩) smx).trans kpx; have fu0_0 : w7.frozen? ⟨(w.heap.size + 1), 0, none⟩ = false := (hb7.frozen (p := ⟨(w.heap.size + 1), 0, none⟩) smx).trans kfx; have cu0_1 : w7.cell? ⟨(w.heap.size + 1), 1, none⟩ = some (.slice none 0 0) := (hb7.cell (p := ⟨(w.heap.size + 1), 1, none⟩) smx).trans kpx; have fu0_1 : w7.frozen? ⟨(w.heap.size + 1), 1, none⟩ = false := (hb7.frozen (p := ⟨(w.heap.size + 1), 1, none⟩) smx).trans kfx; have cu0_2 : w7.cell? ⟨(w.heap.size + 1), 2, none⟩ = some (.int .i64 0) := (hb7.cell (p := ⟨(w.heap.size + 1), 2, none⟩) smx).trans kpx; have fu0_2 : w7.frozen? ⟨(w.heap.size + 1), 2, none⟩ = false := (hb7.frozen (p := ⟨(w.heap.size + 1), 2, none⟩) smx).trans kfx; have su0 : (w.heap.size + 1) < w7.heap.size := (by have hss := hb7.size; first | omega | (simp at hss; omega)))
        refine bodyPost_ret (v := .tuple #[.agg #[.slice gb7 zs7.length q7, .slice g7 l.length q8, .int .i64 gv], .bool false]) (by simp [results, Tryz.results14, go_sem, *]) rfl ⟨gb7, q7, zs7, g7, q8, by rw [HRS2.out], ?_, by rw [HRS2.out]; exact HZ7.out, ?_⟩
        · rw [HRS2.out]
          exact (((HO7.out.setB smx _).setB smx _).setB smx _).le (by omega)
        · exact bxt
    · obtain ⟨hz1, hz2⟩ := cmtAll_end (by omega) HC.out
      subst hz2
      have hrs2 : rs = cur := by (have h := HRS.out; rw [if_pos rfl] at h; rw [h, hz1])
      have hkk : k = log.length := by omega
      have HKK := Lib.hid hkk
      subst hrs2
      clear hkk hz1
      go_wp2_with fail
      refine bodyPost_ret (v := .tuple #[.agg #[.slice ga zs.length q, .slice la2 rs.log.length lc2, .int .i64 rs.given], .bool true]) (by simp [results, Tryz.results14, go_sem, *]) rfl ⟨ga, q, zs, la2, lc2, rfl, ?_, HZ.out, ?_⟩
      · exact (((HS.out.own.setB smx _).setB smx _).setB smx _).le (by omega)
      · exact bxt
end Go.Proofs.YtjcnhkmhcfmoeaaGreat
