/-
  The program's Committed.
-/
import Derived.Test.YtjcnhkmhcfmoeaaGreatWComAllP
import Derived.Test.YtjcnhkmhcfmoeaaGreatWComX
import Derived.Test.YtjcnhkmhcfmoeaaGreatXCopySt
namespace Go.Proofs.YtjcnhkmhcfmoeaaGreat
open Go.RowKit
set_option linter.unusedVariables false
set_option linter.unusedSimpArgs false

set_option maxRecDepth 100000 in
set_option maxHeartbeats 8000000 in
theorem implCommitted_law (b : List PBox) (ba : Option Addr) (bc : Nat) (l : List DCommit) (la : Option Addr) (lc : Nat) (gv : Int) (m : DCommit) (w : World) (R : Rd w ba bc 4 b.length (b.flatMap PBox.cells)) (M : RdM w b) (RL : Rd w la lc 6 l.length (l.flatMap DCommit.cells)) (hl : b.length ≤ 1048576) (hlm : ∀ y ∈ b, y.msgs.length ≤ 1048576) (hll : l.length ≤ 1048576) (gn : ∀ y ∈ b, y.name.size ≤ 9223372036854775807) (gt : ∀ y ∈ b, ∀ m ∈ y.msgs, m.text.size ≤ 9223372036854775807) (g1 : m.name.size ≤ 9223372036854775807) (g2n : m.text.size ≤ 9223372036854775807) (hm : MaxLen w) (rs : DStore) (rok : Bool) (H : Hid (CmtRel ⟨b.map PBox.box, l, gv⟩ m rs rok)) :
    Calls Tryz.prog 25 #[.agg #[.slice ba b.length bc, .slice la l.length lc, .int .i64 gv], .agg #[.int .i64 m.kind, .int .i64 m.validity, .int .i64 m.uid, .int .i64 m.flags, .string m.name, .string m.text]] w fun e w' => ∃ g q zs g2 q2, e = .returned (.tuple #[.agg #[.slice g zs.length q, .slice g2 rs.log.length q2, .int .i64 rs.given], .bool rok]) ∧ OwnSt w' w.heap.size 49 66 41 g q zs g2 q2 rs.log ∧ zs.map PBox.box = rs.boxes ∧ Ext w w' := by
  have HR := Lib.hid R
  have HM := Lib.hid M
  have HRL := Lib.hid RL
  have HLM := Lib.hid hlm
  have HGN := Lib.hid gn
  have HGT := Lib.hid gt
  have HMX := Lib.hid hm
  have HG := Lib.hid H.out
  clear R M RL hlm gn gt hm
  go_enter Tryz.func25, Tryz.ntmps25
  go_wp2_with (go_at_call 66; refine (implCopySt_any b ba bc l la lc gv _ (HR.out.ext bxt) (RdM.ext HM.out (show Below w.heap.size w _ from bxt)) (HRL.out.ext bxt) hl HLM.out hll).mono ?_; rintro e w4 ⟨gb0, q, zs, g2, q2, rfl, hown, hzb, hb4⟩; have HO : Hid (OwnSt w4 (w.heap.size + 3) 49 66 41 gb0 q zs g2 q2 l) := OwnSt.le hown (by first | (simp; done) | (simp; omega)); have HZB := Lib.hid hzb; clear hown hzb; have cp0_0 : w4.cell? ⟨w.heap.size, 0, none⟩ = some (.slice ba b.length bc) := (hb4.cell (p := ⟨w.heap.size, 0, none⟩) smx).trans kpx; have fp0_0 : w4.frozen? ⟨w.heap.size, 0, none⟩ = false := (hb4.frozen (p := ⟨w.heap.size, 0, none⟩) smx).trans kfx; have cp0_1 : w4.cell? ⟨w.heap.size, 1, none⟩ = some (.slice la l.length lc) := (hb4.cell (p := ⟨w.heap.size, 1, none⟩) smx).trans kpx; have fp0_1 : w4.frozen? ⟨w.heap.size, 1, none⟩ = false := (hb4.frozen (p := ⟨w.heap.size, 1, none⟩) smx).trans kfx; have cp0_2 : w4.cell? ⟨w.heap.size, 2, none⟩ = some (.int .i64 gv) := (hb4.cell (p := ⟨w.heap.size, 2, none⟩) smx).trans kpx; have fp0_2 : w4.frozen? ⟨w.heap.size, 2, none⟩ = false := (hb4.frozen (p := ⟨w.heap.size, 2, none⟩) smx).trans kfx; have sp0 : w.heap.size < w4.heap.size := (by have hss := hb4.size; first | omega | (simp at hss; omega)); have cp1_0 : w4.cell? ⟨(w.heap.size + 1), 0, none⟩ = some (.int .i64 m.kind) := (hb4.cell (p := ⟨(w.heap.size + 1), 0, none⟩) smx).trans kpx; have fp1_0 : w4.frozen? ⟨(w.heap.size + 1), 0, none⟩ = false := (hb4.frozen (p := ⟨(w.heap.size + 1), 0, none⟩) smx).trans kfx; have cp1_1 : w4.cell? ⟨(w.heap.size + 1), 1, none⟩ = some (.int .i64 m.validity) := (hb4.cell (p := ⟨(w.heap.size + 1), 1, none⟩) smx).trans kpx; have fp1_1 : w4.frozen? ⟨(w.heap.size + 1), 1, none⟩ = false := (hb4.frozen (p := ⟨(w.heap.size + 1), 1, none⟩) smx).trans kfx; have cp1_2 : w4.cell? ⟨(w.heap.size + 1), 2, none⟩ = some (.int .i64 m.uid) := (hb4.cell (p := ⟨(w.heap.size + 1), 2, none⟩) smx).trans kpx; have fp1_2 : w4.frozen? ⟨(w.heap.size + 1), 2, none⟩ = false := (hb4.frozen (p := ⟨(w.heap.size + 1), 2, none⟩) smx).trans kfx; have cp1_3 : w4.cell? ⟨(w.heap.size + 1), 3, none⟩ = some (.int .i64 m.flags) := (hb4.cell (p := ⟨(w.heap.size + 1), 3, none⟩) smx).trans kpx; have fp1_3 : w4.frozen? ⟨(w.heap.size + 1), 3, none⟩ = false := (hb4.frozen (p := ⟨(w.heap.size + 1), 3, none⟩) smx).trans kfx; have cp1_4 : w4.cell? ⟨(w.heap.size + 1), 4, none⟩ = some (.string m.name) := (hb4.cell (p := ⟨(w.heap.size + 1), 4, none⟩) smx).trans kpx; have fp1_4 : w4.frozen? ⟨(w.heap.size + 1), 4, none⟩ = false := (hb4.frozen (p := ⟨(w.heap.size + 1), 4, none⟩) smx).trans kfx; have cp1_5 : w4.cell? ⟨(w.heap.size + 1), 5, none⟩ = some (.string m.text) := (hb4.cell (p := ⟨(w.heap.size + 1), 5, none⟩) smx).trans kpx; have fp1_5 : w4.frozen? ⟨(w.heap.size + 1), 5, none⟩ = false := (hb4.frozen (p := ⟨(w.heap.size + 1), 5, none⟩) smx).trans kfx; have sp1 : (w.heap.size + 1) < w4.heap.size := (by have hss := hb4.size; first | omega | (simp at hss; omega)); have cp2_0 : w4.cell? ⟨(w.heap.size + 2), 0, none⟩ = some (.slice none 0 0) := (hb4.cell (p := ⟨(w.heap.size + 2), 0, none⟩) smx).trans kpx; have fp2_0 : w4.frozen? ⟨(w.heap.size + 2), 0, none⟩ = false := (hb4.frozen (p := ⟨(w.heap.size + 2), 0, none⟩) smx).trans kfx; have cp2_1 : w4.cell? ⟨(w.heap.size + 2), 1, none⟩ = some (.slice none 0 0) := (hb4.cell (p := ⟨(w.heap.size + 2), 1, none⟩) smx).trans kpx; have fp2_1 : w4.frozen? ⟨(w.heap.size + 2), 1, none⟩ = false := (hb4.frozen (p := ⟨(w.heap.size + 2), 1, none⟩) smx).trans kfx; have cp2_2 : w4.cell? ⟨(w.heap.size + 2), 2, none⟩ = some (.int .i64 0) := (hb4.cell (p := ⟨(w.heap.size + 2), 2, none⟩) smx).trans kpx; have fp2_2 : w4.frozen? ⟨(w.heap.size + 2), 2, none⟩ = false := (hb4.frozen (p := ⟨(w.heap.size + 2), 2, none⟩) smx).trans kfx; have sp2 : (w.heap.size + 2) < w4.heap.size := (by have hss := hb4.size; first | omega | (simp at hss; omega)))
  have HSB : Hid (StB (w4.alloc (.cells #[.slice gb0 zs.length q, .slice g2 l.length q2, .int .i64 gv] 27)) w4.heap.size (w.heap.size + 3) 49 66 41 gb0 q zs g2 q2 l gv) := StB.new HO.out
  have hbw4 : Below w.heap.size w w4 := bxt
  refine (commit_any zs gb0 q l g2 q2 gv w4.heap.size (w.heap.size + 3) m _ HSB (by simp; omega) (HMX.out.ext (by exact bxt)) (box_names HZB.out HGN.out) (box_texts HZB.out HGT.out) g1 g2n rs rok (Lib.hid (by rw [HZB.out]; exact H.out))).mono ?_
  rintro e w6 ⟨rfl, g5, q5, z5, la5, lc5, hs5, hd5, hch5, hr5⟩
  have H5 := Lib.hid hs5
  have HD5 := Lib.hid hd5
  have cr0_0 : w6.cell? ⟨w.heap.size, 0, none⟩ = some (.slice ba b.length bc) := (hch5.cell (x := w.heap.size) (by simp; omega) (HSB.out.notS (by omega) (by omega))).trans kpx
  have fr0_0 : w6.frozen? ⟨w.heap.size, 0, none⟩ = false := (hch5.frozen (x := w.heap.size) (by simp; omega) (HSB.out.notS (by omega) (by omega))).trans kfx
  have cr0_1 : w6.cell? ⟨w.heap.size, 1, none⟩ = some (.slice la l.length lc) := (hch5.cell (x := w.heap.size) (by simp; omega) (HSB.out.notS (by omega) (by omega))).trans kpx
  have fr0_1 : w6.frozen? ⟨w.heap.size, 1, none⟩ = false := (hch5.frozen (x := w.heap.size) (by simp; omega) (HSB.out.notS (by omega) (by omega))).trans kfx
  have cr0_2 : w6.cell? ⟨w.heap.size, 2, none⟩ = some (.int .i64 gv) := (hch5.cell (x := w.heap.size) (by simp; omega) (HSB.out.notS (by omega) (by omega))).trans kpx
  have fr0_2 : w6.frozen? ⟨w.heap.size, 2, none⟩ = false := (hch5.frozen (x := w.heap.size) (by simp; omega) (HSB.out.notS (by omega) (by omega))).trans kfx
  have sr0 : w.heap.size < w6.heap.size := (by have hss := hch5.size; first | omega | (simp at hss; omega))
  have cr1_0 : w6.cell? ⟨(w.heap.size + 1), 0, none⟩ = some (.int .i64 m.kind) := (hch5.cell (x := (w.heap.size + 1)) (by simp; omega) (HSB.out.notS (by omega) (by omega))).trans kpx
  have fr1_0 : w6.frozen? ⟨(w.heap.size + 1), 0, none⟩ = false := (hch5.frozen (x := (w.heap.size + 1)) (by simp; omega) (HSB.out.notS (by omega) (by omega))).trans kfx
  have cr1_1 : w6.cell? ⟨(w.heap.size + 1), 1, none⟩ = some (.int .i64 m.validity) := (hch5.cell (x := (w.heap.size + 1)) (by simp; omega) (HSB.out.notS (by omega) (by omega))).trans kpx
  have fr1_1 : w6.frozen? ⟨(w.heap.size + 1), 1, none⟩ = false := (hch5.frozen (x := (w.heap.size + 1)) (by simp; omega) (HSB.out.notS (by omega) (by omega))).trans kfx
  have cr1_2 : w6.cell? ⟨(w.heap.size + 1), 2, none⟩ = some (.int .i64 m.uid) := (hch5.cell (x := (w.heap.size + 1)) (by simp; omega) (HSB.out.notS (by omega) (by omega))).trans kpx
  have fr1_2 : w6.frozen? ⟨(w.heap.size + 1), 2, none⟩ = false := (hch5.frozen (x := (w.heap.size + 1)) (by simp; omega) (HSB.out.notS (by omega) (by omega))).trans kfx
  have cr1_3 : w6.cell? ⟨(w.heap.size + 1), 3, none⟩ = some (.int .i64 m.flags) := (hch5.cell (x := (w.heap.size + 1)) (by simp; omega) (HSB.out.notS (by omega) (by omega))).trans kpx
  have fr1_3 : w6.frozen? ⟨(w.heap.size + 1), 3, none⟩ = false := (hch5.frozen (x := (w.heap.size + 1)) (by simp; omega) (HSB.out.notS (by omega) (by omega))).trans kfx
  have cr1_4 : w6.cell? ⟨(w.heap.size + 1), 4, none⟩ = some (.string m.name) := (hch5.cell (x := (w.heap.size + 1)) (by simp; omega) (HSB.out.notS (by omega) (by omega))).trans kpx
  have fr1_4 : w6.frozen? ⟨(w.heap.size + 1), 4, none⟩ = false := (hch5.frozen (x := (w.heap.size + 1)) (by simp; omega) (HSB.out.notS (by omega) (by omega))).trans kfx
  have cr1_5 : w6.cell? ⟨(w.heap.size + 1), 5, none⟩ = some (.string m.text) := (hch5.cell (x := (w.heap.size + 1)) (by simp; omega) (HSB.out.notS (by omega) (by omega))).trans kpx
  have fr1_5 : w6.frozen? ⟨(w.heap.size + 1), 5, none⟩ = false := (hch5.frozen (x := (w.heap.size + 1)) (by simp; omega) (HSB.out.notS (by omega) (by omega))).trans kfx
  have sr1 : (w.heap.size + 1) < w6.heap.size := (by have hss := hch5.size; first | omega | (simp at hss; omega))
  have cr2_0 : w6.cell? ⟨(w.heap.size + 2), 0, none⟩ = some (.slice none 0 0) := (hch5.cell (x := (w.heap.size + 2)) (by simp; omega) (HSB.out.notS (by omega) (by omega))).trans kpx
  have fr2_0 : w6.frozen? ⟨(w.heap.size + 2), 0, none⟩ = false := (hch5.frozen (x := (w.heap.size + 2)) (by simp; omega) (HSB.out.notS (by omega) (by omega))).trans kfx
  have cr2_1 : w6.cell? ⟨(w.heap.size + 2), 1, none⟩ = some (.slice none 0 0) := (hch5.cell (x := (w.heap.size + 2)) (by simp; omega) (HSB.out.notS (by omega) (by omega))).trans kpx
  have fr2_1 : w6.frozen? ⟨(w.heap.size + 2), 1, none⟩ = false := (hch5.frozen (x := (w.heap.size + 2)) (by simp; omega) (HSB.out.notS (by omega) (by omega))).trans kfx
  have cr2_2 : w6.cell? ⟨(w.heap.size + 2), 2, none⟩ = some (.int .i64 0) := (hch5.cell (x := (w.heap.size + 2)) (by simp; omega) (HSB.out.notS (by omega) (by omega))).trans kpx
  have fr2_2 : w6.frozen? ⟨(w.heap.size + 2), 2, none⟩ = false := (hch5.frozen (x := (w.heap.size + 2)) (by simp; omega) (HSB.out.notS (by omega) (by omega))).trans kfx
  have sr2 : (w.heap.size + 2) < w6.heap.size := (by have hss := hch5.size; first | omega | (simp at hss; omega))
  have e0 := hs5.c0
  have e1 := hs5.c1
  have e2 := hs5.c2
  have hs6 : w4.heap.size < w6.heap.size := hs5.lt
  have hbw6 : Below w.heap.size w w6 := (show Below w.heap.size w _ from bxt).trans (hch5.below (B := w.heap.size) (fun k hk => hk.elim (fun e => by omega) (fun hr => by have := (HSB.out.own.rows_lt k hr).1; omega)) (by simp; omega))
  clear hs5 hd5 hch5 hr5
  cases rok with
  | true =>
    go_wp2_with fail
    refine bodyPost_ret (v := .tuple #[.agg #[.slice g5 z5.length q5, .slice la5 rs.log.length lc5, .int .i64 rs.given], .bool true]) (by simp [results, Tryz.results25, go_sem, *]) rfl ⟨g5, q5, z5, la5, lc5, rfl, ?_, HD5.out, ?_⟩
    · exact (((H5.out.own.setB (by simp) _).setB (by simp) _).setB (by simp) _).le (by omega)
    · exact bxt
  | false =>
    obtain ⟨h8, h9⟩ := HG.out
    simp only [Bool.false_eq_true, if_false] at h9
    have HRS := Lib.hid h9
    clear h8 h9
    go_wp2_with (go_at_call 66; refine (implCopySt_any b ba bc l la lc gv _ (HR.out.ext (Below.ext hbw6 bxt)) (RdM.ext HM.out (Below.ext hbw6 bxt)) (HRL.out.ext (Below.ext hbw6 bxt)) hl HLM.out hll).mono ?_; rintro e w7 ⟨gb7, q7, zs7, g7, q8, rfl, hown7, hzb7, hb7⟩; have HO7 := Lib.hid hown7; have HZ7 := Lib.hid hzb7; clear hown7 hzb7; have cu0_0 : w7.cell? ⟨(w.heap.size + 2), 0, none⟩ = some (.slice none 0 0) := (hb7.cell (p := ⟨(w.heap.size + 2), 0, none⟩) smx).trans kpx; have fu0_0 : w7.frozen? ⟨(w.heap.size + 2), 0, none⟩ = false := (hb7.frozen (p := ⟨(w.heap.size + 2), 0, none⟩) smx).trans kfx; have cu0_1 : w7.cell? ⟨(w.heap.size + 2), 1, none⟩ = some (.slice none 0 0) := (hb7.cell (p := ⟨(w.heap.size + 2), 1, none⟩) smx).trans kpx; have fu0_1 : w7.frozen? ⟨(w.heap.size + 2), 1, none⟩ = false := (hb7.frozen (p := ⟨(w.heap.size + 2), 1, none⟩) smx).trans kfx; have cu0_2 : w7.cell? ⟨(w.heap.size + 2), 2, none⟩ = some (.int .i64 0) := (hb7.cell (p := ⟨(w.heap.size + 2), 2, none⟩) smx).trans kpx; have fu0_2 : w7.frozen? ⟨(w.heap.size + 2), 2, none⟩ = false := (hb7.frozen (p := ⟨(w.heap.size + 2), 2, none⟩) smx).trans kfx; have su0 : (w.heap.size + 2) < w7.heap.size := (by have hss := hb7.size; first | omega | (simp at hss; omega)))
    refine bodyPost_ret (v := .tuple #[.agg #[.slice gb7 zs7.length q7, .slice g7 l.length q8, .int .i64 gv], .bool false]) (by simp [results, Tryz.results25, go_sem, *]) rfl ⟨gb7, q7, zs7, g7, q8, by rw [← HRS.out], ?_, by rw [← HRS.out]; exact HZ7.out, ?_⟩
    · rw [← HRS.out]
      exact (((HO7.out.setB smx _).setB smx _).setB smx _).le (by omega)
    · exact bxt
end Go.Proofs.YtjcnhkmhcfmoeaaGreat
