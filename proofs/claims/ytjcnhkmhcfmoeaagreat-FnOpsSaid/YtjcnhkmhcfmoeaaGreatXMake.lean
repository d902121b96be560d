/-
  MakeBox: the reference's function.
  MakeBox: the program's function.
  MakeBox: the program's function, whole.
  MakeBox: the program's function at a name that is not right.
  MakeBox: the program's function, whole.
-/
import Derived.Test.YtjcnhkmhcfmoeaaGreatXOps
import Derived.IntWalk
import Derived.Test.YtjcnhkmhcfmoeaaGreatWCutS
namespace Go.Proofs.YtjcnhkmhcfmoeaaGreat
open Go.RowKit
set_option linter.unusedVariables false
set_option linter.unusedSimpArgs false

set_option maxRecDepth 100000 in
set_option maxHeartbeats 8000000 in
theorem specMakeBox_law (b : List PBox) (ba : Option Addr) (bc : Nat) (l : List DCommit) (la : Option Addr) (lc : Nat) (gv : Int) (n : ByteArray) (w : World) (R : Rd w ba bc 4 b.length (b.flatMap PBox.cells)) (M : RdM w b) (RL : Rd w la lc 6 l.length (l.flatMap DCommit.cells)) (hl : b.length ≤ 1048576) (hlm : ∀ y ∈ b, y.msgs.length ≤ 1048576) (hll : l.length ≤ 1048576) (gn : ∀ y ∈ b, y.name.size ≤ 9223372036854775807) (gt : ∀ y ∈ b, ∀ m ∈ y.msgs, m.text.size ≤ 9223372036854775807) (gl : ∀ y ∈ l, y.name.size ≤ 9223372036854775807 ∧ y.text.size ≤ 9223372036854775807) (hn : n.size ≤ 1048576) (rs : DStore) (rok : Int) (H : Hid (makeD ⟨b.map PBox.box, l, gv⟩ n = (rs, rok))) :
    Calls Tryz.prog 54 #[.agg #[.slice ba b.length bc, .slice la l.length lc, .int .i64 gv], .string n] w fun e w' => ∃ g q zs g2 q2, e = .returned (.tuple #[.agg #[.slice g zs.length q, .slice g2 rs.log.length q2, .int .i64 rs.given], .int .i64 rok]) ∧ OwnSt w' w.heap.size 49 66 41 g q zs g2 q2 rs.log ∧ zs.map PBox.box = rs.boxes ∧ Ext w w' := by
  have HR := Lib.hid R
  have HM := Lib.hid M
  have HRL := Lib.hid RL
  have HLM := Lib.hid hlm
  have HGN := Lib.hid gn
  have HGT := Lib.hid gt
  have HGL := Lib.hid gl
  clear R M RL hlm gn gt gl
  obtain ⟨ok, hok⟩ := boolOf (StoreP ⟨b.map PBox.box, l, gv⟩)
  have HSK := Lib.hid hok
  obtain ⟨cn, hcn⟩ := boolOf (NameP n)
  have HCN := Lib.hid hcn
  clear hok hcn
  cases ok with
  | false =>
    obtain ⟨rfl, rfl⟩ : (⟨b.map PBox.box, l, gv⟩ : DStore) = rs ∧ (4 : Int) = rok := by
      have h := H.out
      rw [makeD, opD_no (fun h => no_of HSK.out h.1)] at h
      exact Prod.mk.inj h
    go_enter Tryz.func54, Tryz.ntmps54
    go_wp2_with (first | (go_at_call 19; refine (specStoreOk_any b ba bc l la lc gv _ (HR.out.ext bxt) (RdM.ext HM.out (show Below w.heap.size w _ from bxt)) (HRL.out.ext bxt) hl HLM.out hll HGN.out HGT.out HGL.out false HSK).mono ?_; rintro e w2 ⟨rfl, hb2⟩; have cp0_0 : w2.cell? ⟨w.heap.size, 0, none⟩ = some (.slice ba b.length bc) := (hb2.cell (p := ⟨w.heap.size, 0, none⟩) smx).trans kpx; have fp0_0 : w2.frozen? ⟨w.heap.size, 0, none⟩ = false := (hb2.frozen (p := ⟨w.heap.size, 0, none⟩) smx).trans kfx; have cp0_1 : w2.cell? ⟨w.heap.size, 1, none⟩ = some (.slice la l.length lc) := (hb2.cell (p := ⟨w.heap.size, 1, none⟩) smx).trans kpx; have fp0_1 : w2.frozen? ⟨w.heap.size, 1, none⟩ = false := (hb2.frozen (p := ⟨w.heap.size, 1, none⟩) smx).trans kfx; have cp0_2 : w2.cell? ⟨w.heap.size, 2, none⟩ = some (.int .i64 gv) := (hb2.cell (p := ⟨w.heap.size, 2, none⟩) smx).trans kpx; have fp0_2 : w2.frozen? ⟨w.heap.size, 2, none⟩ = false := (hb2.frozen (p := ⟨w.heap.size, 2, none⟩) smx).trans kfx; have sp0 : w.heap.size < w2.heap.size := (by have hss := hb2.size; first | omega | (simp at hss; omega)); have cp1_0 : w2.cell? ⟨(w.heap.size + 1), 0, none⟩ = some (.slice none 0 0) := (hb2.cell (p := ⟨(w.heap.size + 1), 0, none⟩) smx).trans kpx; have fp1_0 : w2.frozen? ⟨(w.heap.size + 1), 0, none⟩ = false := (hb2.frozen (p := ⟨(w.heap.size + 1), 0, none⟩) smx).trans kfx; have cp1_1 : w2.cell? ⟨(w.heap.size + 1), 1, none⟩ = some (.slice none 0 0) := (hb2.cell (p := ⟨(w.heap.size + 1), 1, none⟩) smx).trans kpx; have fp1_1 : w2.frozen? ⟨(w.heap.size + 1), 1, none⟩ = false := (hb2.frozen (p := ⟨(w.heap.size + 1), 1, none⟩) smx).trans kfx; have cp1_2 : w2.cell? ⟨(w.heap.size + 1), 2, none⟩ = some (.int .i64 0) := (hb2.cell (p := ⟨(w.heap.size + 1), 2, none⟩) smx).trans kpx; have fp1_2 : w2.frozen? ⟨(w.heap.size + 1), 2, none⟩ = false := (hb2.frozen (p := ⟨(w.heap.size + 1), 2, none⟩) smx).trans kfx; have sp1 : (w.heap.size + 1) < w2.heap.size := (by have hss := hb2.size; first | omega | (simp at hss; omega))) | (go_at_call 68; refine (specCopySt_any b ba bc l la lc gv _ (HR.out.ext bxt) (RdM.ext HM.out (show Below w.heap.size w _ from bxt)) (HRL.out.ext bxt) hl HLM.out hll).mono ?_; rintro e w7 ⟨gb7, q7, zs7, g7, q8, rfl, hown7, hzb7, hb7⟩; have HO7 := Lib.hid hown7; have HZ7 := Lib.hid hzb7; clear hown7 hzb7; have cu0_0 : w7.cell? ⟨(w.heap.size + 1), 0, none⟩ = some (.slice none 0 0) := (hb7.cell (p := ⟨(w.heap.size + 1), 0, none⟩) smx).trans kpx; have fu0_0 : w7.frozen? ⟨(w.heap.size + 1), 0, none⟩ = false := (hb7.frozen (p := ⟨(w.heap.size + 1), 0, none⟩) smx).trans kfx; have cu0_1 : w7.cell? ⟨(w.heap.size + 1), 1, none⟩ = some (.slice none 0 0) := (hb7.cell (p := ⟨(w.heap.size + 1), 1, none⟩) smx).trans kpx; have fu0_1 : w7.frozen? ⟨(w.heap.size + 1), 1, none⟩ = false := (hb7.frozen (p := ⟨(w.heap.size + 1), 1, none⟩) smx).trans kfx; have cu0_2 : w7.cell? ⟨(w.heap.size + 1), 2, none⟩ = some (.int .i64 0) := (hb7.cell (p := ⟨(w.heap.size + 1), 2, none⟩) smx).trans kpx; have fu0_2 : w7.frozen? ⟨(w.heap.size + 1), 2, none⟩ = false := (hb7.frozen (p := ⟨(w.heap.size + 1), 2, none⟩) smx).trans kfx; have su0 : (w.heap.size + 1) < w7.heap.size := (by have hss := hb7.size; first | omega | (simp at hss; omega))))
    refine bodyPost_ret (v := .tuple #[.agg #[.slice gb7 zs7.length q7, .slice g7 l.length q8, .int .i64 gv], .int .i64 4]) (by simp [results, Tryz.results54, go_sem, *]) rfl ⟨gb7, q7, zs7, g7, q8, rfl, ?_, HZ7.out, ?_⟩
    · exact (by (repeat' (first | with_reducible refine OwnSt.set_at ?_ HO7.out (by (first | omega | (simp <;> omega))) _ | with_reducible refine OwnSt.alloc1 ?_ _ | with_reducible refine OwnSt.drew1 ?_)); exact OwnSt.le HO7.out (by (first | omega | (simp <;> omega))))
    · exact bxt
  | true =>
  cases cn with
  | false =>
    obtain ⟨rfl, rfl⟩ : (⟨b.map PBox.box, l, gv⟩ : DStore) = rs ∧ (4 : Int) = rok := by
      have h := H.out
      rw [makeD, opD_no (fun h => no_of HCN.out h.2.1)] at h
      exact Prod.mk.inj h
    go_enter Tryz.func54, Tryz.ntmps54
    go_wp2_with (first | (go_at_call 19; refine (specStoreOk_any b ba bc l la lc gv _ (HR.out.ext bxt) (RdM.ext HM.out (show Below w.heap.size w _ from bxt)) (HRL.out.ext bxt) hl HLM.out hll HGN.out HGT.out HGL.out true HSK).mono ?_; rintro e w2 ⟨rfl, hb2⟩; have cp0_0 : w2.cell? ⟨w.heap.size, 0, none⟩ = some (.slice ba b.length bc) := (hb2.cell (p := ⟨w.heap.size, 0, none⟩) smx).trans kpx; have fp0_0 : w2.frozen? ⟨w.heap.size, 0, none⟩ = false := (hb2.frozen (p := ⟨w.heap.size, 0, none⟩) smx).trans kfx; have cp0_1 : w2.cell? ⟨w.heap.size, 1, none⟩ = some (.slice la l.length lc) := (hb2.cell (p := ⟨w.heap.size, 1, none⟩) smx).trans kpx; have fp0_1 : w2.frozen? ⟨w.heap.size, 1, none⟩ = false := (hb2.frozen (p := ⟨w.heap.size, 1, none⟩) smx).trans kfx; have cp0_2 : w2.cell? ⟨w.heap.size, 2, none⟩ = some (.int .i64 gv) := (hb2.cell (p := ⟨w.heap.size, 2, none⟩) smx).trans kpx; have fp0_2 : w2.frozen? ⟨w.heap.size, 2, none⟩ = false := (hb2.frozen (p := ⟨w.heap.size, 2, none⟩) smx).trans kfx; have sp0 : w.heap.size < w2.heap.size := (by have hss := hb2.size; first | omega | (simp at hss; omega)); have cp1_0 : w2.cell? ⟨(w.heap.size + 1), 0, none⟩ = some (.slice none 0 0) := (hb2.cell (p := ⟨(w.heap.size + 1), 0, none⟩) smx).trans kpx; have fp1_0 : w2.frozen? ⟨(w.heap.size + 1), 0, none⟩ = false := (hb2.frozen (p := ⟨(w.heap.size + 1), 0, none⟩) smx).trans kfx; have cp1_1 : w2.cell? ⟨(w.heap.size + 1), 1, none⟩ = some (.slice none 0 0) := (hb2.cell (p := ⟨(w.heap.size + 1), 1, none⟩) smx).trans kpx; have fp1_1 : w2.frozen? ⟨(w.heap.size + 1), 1, none⟩ = false := (hb2.frozen (p := ⟨(w.heap.size + 1), 1, none⟩) smx).trans kfx; have cp1_2 : w2.cell? ⟨(w.heap.size + 1), 2, none⟩ = some (.int .i64 0) := (hb2.cell (p := ⟨(w.heap.size + 1), 2, none⟩) smx).trans kpx; have fp1_2 : w2.frozen? ⟨(w.heap.size + 1), 2, none⟩ = false := (hb2.frozen (p := ⟨(w.heap.size + 1), 2, none⟩) smx).trans kfx; have sp1 : (w.heap.size + 1) < w2.heap.size := (by have hss := hb2.size; first | omega | (simp at hss; omega))) | (go_at_call 115; refine (specNameOk_any n _ (by omega) false HCN).mono ?_; rintro e wx ⟨rfl, hwx⟩; subst wx) | (go_at_call 68; refine (specCopySt_any b ba bc l la lc gv _ (HR.out.ext bxt) (RdM.ext HM.out (show Below w.heap.size w _ from bxt)) (HRL.out.ext bxt) hl HLM.out hll).mono ?_; rintro e w7 ⟨gb7, q7, zs7, g7, q8, rfl, hown7, hzb7, hb7⟩; have HO7 := Lib.hid hown7; have HZ7 := Lib.hid hzb7; clear hown7 hzb7; have cu0_0 : w7.cell? ⟨(w.heap.size + 1), 0, none⟩ = some (.slice none 0 0) := (hb7.cell (p := ⟨(w.heap.size + 1), 0, none⟩) smx).trans kpx; have fu0_0 : w7.frozen? ⟨(w.heap.size + 1), 0, none⟩ = false := (hb7.frozen (p := ⟨(w.heap.size + 1), 0, none⟩) smx).trans kfx; have cu0_1 : w7.cell? ⟨(w.heap.size + 1), 1, none⟩ = some (.slice none 0 0) := (hb7.cell (p := ⟨(w.heap.size + 1), 1, none⟩) smx).trans kpx; have fu0_1 : w7.frozen? ⟨(w.heap.size + 1), 1, none⟩ = false := (hb7.frozen (p := ⟨(w.heap.size + 1), 1, none⟩) smx).trans kfx; have cu0_2 : w7.cell? ⟨(w.heap.size + 1), 2, none⟩ = some (.int .i64 0) := (hb7.cell (p := ⟨(w.heap.size + 1), 2, none⟩) smx).trans kpx; have fu0_2 : w7.frozen? ⟨(w.heap.size + 1), 2, none⟩ = false := (hb7.frozen (p := ⟨(w.heap.size + 1), 2, none⟩) smx).trans kfx; have su0 : (w.heap.size + 1) < w7.heap.size := (by have hss := hb7.size; first | omega | (simp at hss; omega))))
    refine bodyPost_ret (v := .tuple #[.agg #[.slice gb7 zs7.length q7, .slice g7 l.length q8, .int .i64 gv], .int .i64 4]) (by simp [results, Tryz.results54, go_sem, *]) rfl ⟨gb7, q7, zs7, g7, q8, rfl, ?_, HZ7.out, ?_⟩
    · exact (by (repeat' (first | with_reducible refine OwnSt.set_at ?_ HO7.out (by (first | omega | (simp <;> omega))) _ | with_reducible refine OwnSt.alloc1 ?_ _ | with_reducible refine OwnSt.drew1 ?_)); exact OwnSt.le HO7.out (by (first | omega | (simp <;> omega))))
    · exact bxt
  | true =>
  by_cases hg : gv = 999999999
  · have hd1 : (gv == 999999999) = true := beq_iff_eq.2 hg
    have HG := Lib.hid hg
    clear hg
    obtain ⟨rfl, rfl⟩ : (⟨b.map PBox.box, l, gv⟩ : DStore) = rs ∧ (4 : Int) = rok := by
      have h := H.out
      rw [makeD, opD_no (fun h => h.2.2 HG.out)] at h
      exact Prod.mk.inj h
    go_enter Tryz.func54, Tryz.ntmps54
    go_wp2_with (first | (go_at_call 19; refine (specStoreOk_any b ba bc l la lc gv _ (HR.out.ext bxt) (RdM.ext HM.out (show Below w.heap.size w _ from bxt)) (HRL.out.ext bxt) hl HLM.out hll HGN.out HGT.out HGL.out true HSK).mono ?_; rintro e w2 ⟨rfl, hb2⟩; have cp0_0 : w2.cell? ⟨w.heap.size, 0, none⟩ = some (.slice ba b.length bc) := (hb2.cell (p := ⟨w.heap.size, 0, none⟩) smx).trans kpx; have fp0_0 : w2.frozen? ⟨w.heap.size, 0, none⟩ = false := (hb2.frozen (p := ⟨w.heap.size, 0, none⟩) smx).trans kfx; have cp0_1 : w2.cell? ⟨w.heap.size, 1, none⟩ = some (.slice la l.length lc) := (hb2.cell (p := ⟨w.heap.size, 1, none⟩) smx).trans kpx; have fp0_1 : w2.frozen? ⟨w.heap.size, 1, none⟩ = false := (hb2.frozen (p := ⟨w.heap.size, 1, none⟩) smx).trans kfx; have cp0_2 : w2.cell? ⟨w.heap.size, 2, none⟩ = some (.int .i64 gv) := (hb2.cell (p := ⟨w.heap.size, 2, none⟩) smx).trans kpx; have fp0_2 : w2.frozen? ⟨w.heap.size, 2, none⟩ = false := (hb2.frozen (p := ⟨w.heap.size, 2, none⟩) smx).trans kfx; have sp0 : w.heap.size < w2.heap.size := (by have hss := hb2.size; first | omega | (simp at hss; omega)); have cp1_0 : w2.cell? ⟨(w.heap.size + 1), 0, none⟩ = some (.slice none 0 0) := (hb2.cell (p := ⟨(w.heap.size + 1), 0, none⟩) smx).trans kpx; have fp1_0 : w2.frozen? ⟨(w.heap.size + 1), 0, none⟩ = false := (hb2.frozen (p := ⟨(w.heap.size + 1), 0, none⟩) smx).trans kfx; have cp1_1 : w2.cell? ⟨(w.heap.size + 1), 1, none⟩ = some (.slice none 0 0) := (hb2.cell (p := ⟨(w.heap.size + 1), 1, none⟩) smx).trans kpx; have fp1_1 : w2.frozen? ⟨(w.heap.size + 1), 1, none⟩ = false := (hb2.frozen (p := ⟨(w.heap.size + 1), 1, none⟩) smx).trans kfx; have cp1_2 : w2.cell? ⟨(w.heap.size + 1), 2, none⟩ = some (.int .i64 0) := (hb2.cell (p := ⟨(w.heap.size + 1), 2, none⟩) smx).trans kpx; have fp1_2 : w2.frozen? ⟨(w.heap.size + 1), 2, none⟩ = false := (hb2.frozen (p := ⟨(w.heap.size + 1), 2, none⟩) smx).trans kfx; have sp1 : (w.heap.size + 1) < w2.heap.size := (by have hss := hb2.size; first | omega | (simp at hss; omega))) | (go_at_call 115; refine (specNameOk_any n _ (by omega) true HCN).mono ?_; rintro e wx ⟨rfl, hwx⟩; subst wx) | (go_at_call 68; refine (specCopySt_any b ba bc l la lc gv _ (HR.out.ext bxt) (RdM.ext HM.out (show Below w.heap.size w _ from bxt)) (HRL.out.ext bxt) hl HLM.out hll).mono ?_; rintro e w7 ⟨gb7, q7, zs7, g7, q8, rfl, hown7, hzb7, hb7⟩; have HO7 := Lib.hid hown7; have HZ7 := Lib.hid hzb7; clear hown7 hzb7; have cu0_0 : w7.cell? ⟨(w.heap.size + 1), 0, none⟩ = some (.slice none 0 0) := (hb7.cell (p := ⟨(w.heap.size + 1), 0, none⟩) smx).trans kpx; have fu0_0 : w7.frozen? ⟨(w.heap.size + 1), 0, none⟩ = false := (hb7.frozen (p := ⟨(w.heap.size + 1), 0, none⟩) smx).trans kfx; have cu0_1 : w7.cell? ⟨(w.heap.size + 1), 1, none⟩ = some (.slice none 0 0) := (hb7.cell (p := ⟨(w.heap.size + 1), 1, none⟩) smx).trans kpx; have fu0_1 : w7.frozen? ⟨(w.heap.size + 1), 1, none⟩ = false := (hb7.frozen (p := ⟨(w.heap.size + 1), 1, none⟩) smx).trans kfx; have cu0_2 : w7.cell? ⟨(w.heap.size + 1), 2, none⟩ = some (.int .i64 0) := (hb7.cell (p := ⟨(w.heap.size + 1), 2, none⟩) smx).trans kpx; have fu0_2 : w7.frozen? ⟨(w.heap.size + 1), 2, none⟩ = false := (hb7.frozen (p := ⟨(w.heap.size + 1), 2, none⟩) smx).trans kfx; have su0 : (w.heap.size + 1) < w7.heap.size := (by have hss := hb7.size; first | omega | (simp at hss; omega))))
    refine bodyPost_ret (v := .tuple #[.agg #[.slice gb7 zs7.length q7, .slice g7 l.length q8, .int .i64 gv], .int .i64 4]) (by simp [results, Tryz.results54, go_sem, *]) rfl ⟨gb7, q7, zs7, g7, q8, rfl, ?_, HZ7.out, ?_⟩
    · exact (by (repeat' (first | with_reducible refine OwnSt.set_at ?_ HO7.out (by (first | omega | (simp <;> omega))) _ | with_reducible refine OwnSt.alloc1 ?_ _ | with_reducible refine OwnSt.drew1 ?_)); exact OwnSt.le HO7.out (by (first | omega | (simp <;> omega))))
    · exact bxt
  have hd1 : (gv == 999999999) = false := by simp [hg]
  have HG := Lib.hid hg
  clear hg
  have hgr : 0 ≤ gv ∧ gv ≤ 999999999 := (yes_of HSK.out).2.2.1
  obtain ⟨z, hz⟩ : ∃ z, boxNamed n (b.map PBox.box) = z := ⟨_, rfl⟩
  have HZ := Lib.hid hz
  clear hz
  have hb0 : makeB ⟨b.map PBox.box, l, gv⟩ n = (rs, rok) := by
    have h := H.out
    rwa [makeD, opD_yes (yes_of HSK.out) ⟨yes_of HCN.out, HG.out⟩] at h
  by_cases hz0 : 0 ≤ z
  · have hd2 : decide (0 ≤ z) = true := decide_eq_true hz0
    obtain ⟨rfl, rfl⟩ : (⟨b.map PBox.box, l, gv⟩ : DStore) = rs ∧ (3 : Int) = rok := by
      rw [makeB, if_pos (show 0 ≤ boxNamed n (b.map PBox.box) by rw [HZ.out]; exact hz0)] at hb0
      exact Prod.mk.inj hb0
    clear hb0
    go_enter Tryz.func54, Tryz.ntmps54
    go_wp2_with (first | (go_at_call 19; refine (specStoreOk_any b ba bc l la lc gv _ (HR.out.ext bxt) (RdM.ext HM.out (show Below w.heap.size w _ from bxt)) (HRL.out.ext bxt) hl HLM.out hll HGN.out HGT.out HGL.out true HSK).mono ?_; rintro e w2 ⟨rfl, hb2⟩; have cp0_0 : w2.cell? ⟨w.heap.size, 0, none⟩ = some (.slice ba b.length bc) := (hb2.cell (p := ⟨w.heap.size, 0, none⟩) smx).trans kpx; have fp0_0 : w2.frozen? ⟨w.heap.size, 0, none⟩ = false := (hb2.frozen (p := ⟨w.heap.size, 0, none⟩) smx).trans kfx; have cp0_1 : w2.cell? ⟨w.heap.size, 1, none⟩ = some (.slice la l.length lc) := (hb2.cell (p := ⟨w.heap.size, 1, none⟩) smx).trans kpx; have fp0_1 : w2.frozen? ⟨w.heap.size, 1, none⟩ = false := (hb2.frozen (p := ⟨w.heap.size, 1, none⟩) smx).trans kfx; have cp0_2 : w2.cell? ⟨w.heap.size, 2, none⟩ = some (.int .i64 gv) := (hb2.cell (p := ⟨w.heap.size, 2, none⟩) smx).trans kpx; have fp0_2 : w2.frozen? ⟨w.heap.size, 2, none⟩ = false := (hb2.frozen (p := ⟨w.heap.size, 2, none⟩) smx).trans kfx; have sp0 : w.heap.size < w2.heap.size := (by have hss := hb2.size; first | omega | (simp at hss; omega)); have cp1_0 : w2.cell? ⟨(w.heap.size + 1), 0, none⟩ = some (.slice none 0 0) := (hb2.cell (p := ⟨(w.heap.size + 1), 0, none⟩) smx).trans kpx; have fp1_0 : w2.frozen? ⟨(w.heap.size + 1), 0, none⟩ = false := (hb2.frozen (p := ⟨(w.heap.size + 1), 0, none⟩) smx).trans kfx; have cp1_1 : w2.cell? ⟨(w.heap.size + 1), 1, none⟩ = some (.slice none 0 0) := (hb2.cell (p := ⟨(w.heap.size + 1), 1, none⟩) smx).trans kpx; have fp1_1 : w2.frozen? ⟨(w.heap.size + 1), 1, none⟩ = false := (hb2.frozen (p := ⟨(w.heap.size + 1), 1, none⟩) smx).trans kfx; have cp1_2 : w2.cell? ⟨(w.heap.size + 1), 2, none⟩ = some (.int .i64 0) := (hb2.cell (p := ⟨(w.heap.size + 1), 2, none⟩) smx).trans kpx; have fp1_2 : w2.frozen? ⟨(w.heap.size + 1), 2, none⟩ = false := (hb2.frozen (p := ⟨(w.heap.size + 1), 2, none⟩) smx).trans kfx; have sp1 : (w.heap.size + 1) < w2.heap.size := (by have hss := hb2.size; first | omega | (simp at hss; omega))) | (go_at_call 115; refine (specNameOk_any n _ (by omega) true HCN).mono ?_; rintro e wx ⟨rfl, hwx⟩; subst wx) | (go_at_call 38; refine (specBoxNamed_any b ba bc n _ (HR.out.ext bxt) z HZ).mono ?_; rintro e wx ⟨rfl, hwx⟩; subst wx) | (go_at_call 68; refine (specCopySt_any b ba bc l la lc gv _ (HR.out.ext bxt) (RdM.ext HM.out (show Below w.heap.size w _ from bxt)) (HRL.out.ext bxt) hl HLM.out hll).mono ?_; rintro e w7 ⟨gb7, q7, zs7, g7, q8, rfl, hown7, hzb7, hb7⟩; have HO7 := Lib.hid hown7; have HZ7 := Lib.hid hzb7; clear hown7 hzb7; have cu0_0 : w7.cell? ⟨(w.heap.size + 1), 0, none⟩ = some (.slice none 0 0) := (hb7.cell (p := ⟨(w.heap.size + 1), 0, none⟩) smx).trans kpx; have fu0_0 : w7.frozen? ⟨(w.heap.size + 1), 0, none⟩ = false := (hb7.frozen (p := ⟨(w.heap.size + 1), 0, none⟩) smx).trans kfx; have cu0_1 : w7.cell? ⟨(w.heap.size + 1), 1, none⟩ = some (.slice none 0 0) := (hb7.cell (p := ⟨(w.heap.size + 1), 1, none⟩) smx).trans kpx; have fu0_1 : w7.frozen? ⟨(w.heap.size + 1), 1, none⟩ = false := (hb7.frozen (p := ⟨(w.heap.size + 1), 1, none⟩) smx).trans kfx; have cu0_2 : w7.cell? ⟨(w.heap.size + 1), 2, none⟩ = some (.int .i64 0) := (hb7.cell (p := ⟨(w.heap.size + 1), 2, none⟩) smx).trans kpx; have fu0_2 : w7.frozen? ⟨(w.heap.size + 1), 2, none⟩ = false := (hb7.frozen (p := ⟨(w.heap.size + 1), 2, none⟩) smx).trans kfx; have su0 : (w.heap.size + 1) < w7.heap.size := (by have hss := hb7.size; first | omega | (simp at hss; omega))))
    refine bodyPost_ret (v := .tuple #[.agg #[.slice gb7 zs7.length q7, .slice g7 l.length q8, .int .i64 gv], .int .i64 3]) (by simp [results, Tryz.results54, go_sem, *]) rfl ⟨gb7, q7, zs7, g7, q8, rfl, ?_, HZ7.out, ?_⟩
    · exact (by (repeat' (first | with_reducible refine OwnSt.set_at ?_ HO7.out (by (first | omega | (simp <;> omega))) _ | with_reducible refine OwnSt.alloc1 ?_ _ | with_reducible refine OwnSt.drew1 ?_)); exact OwnSt.le HO7.out (by (first | omega | (simp <;> omega))))
    · exact bxt
  have hd2 : decide (0 ≤ z) = false := decide_eq_false hz0
  have HBODY : Hid (oneD ⟨b.map PBox.box, l, gv⟩ (⟨1, gv + 1, 0, 0, n, ⟨#[]⟩⟩ : DCommit) = (rs, rok)) := Lib.hid (by
    rwa [makeB, if_neg (show ¬ 0 ≤ boxNamed n (b.map PBox.box) by rw [HZ.out]; exact hz0)] at hb0)
  clear hb0
  have hwr : IntKind.i64.wrap (gv + 1) = gv + 1 := IntWalk.i64_in _ (by omega)
  have GK9 : Hid (∀ y ∈ [(⟨1, gv + 1, 0, 0, n, ⟨#[]⟩⟩ : DCommit)], y.name.size ≤ 9223372036854775807 ∧ y.text.size ≤ 9223372036854775807) := Lib.hid (fun y hy => by
    obtain rfl := List.mem_singleton.1 hy
    exact ⟨by show n.size ≤ _; omega, Nat.zero_le _⟩)
  go_enter Tryz.func54, Tryz.ntmps54
  go_wp2_with (first | (go_at_call 19; refine (specStoreOk_any b ba bc l la lc gv _ (HR.out.ext bxt) (RdM.ext HM.out (show Below w.heap.size w _ from bxt)) (HRL.out.ext bxt) hl HLM.out hll HGN.out HGT.out HGL.out true HSK).mono ?_; rintro e w2 ⟨rfl, hb2⟩; have cp0_0 : w2.cell? ⟨w.heap.size, 0, none⟩ = some (.slice ba b.length bc) := (hb2.cell (p := ⟨w.heap.size, 0, none⟩) smx).trans kpx; have fp0_0 : w2.frozen? ⟨w.heap.size, 0, none⟩ = false := (hb2.frozen (p := ⟨w.heap.size, 0, none⟩) smx).trans kfx; have cp0_1 : w2.cell? ⟨w.heap.size, 1, none⟩ = some (.slice la l.length lc) := (hb2.cell (p := ⟨w.heap.size, 1, none⟩) smx).trans kpx; have fp0_1 : w2.frozen? ⟨w.heap.size, 1, none⟩ = false := (hb2.frozen (p := ⟨w.heap.size, 1, none⟩) smx).trans kfx; have cp0_2 : w2.cell? ⟨w.heap.size, 2, none⟩ = some (.int .i64 gv) := (hb2.cell (p := ⟨w.heap.size, 2, none⟩) smx).trans kpx; have fp0_2 : w2.frozen? ⟨w.heap.size, 2, none⟩ = false := (hb2.frozen (p := ⟨w.heap.size, 2, none⟩) smx).trans kfx; have sp0 : w.heap.size < w2.heap.size := (by have hss := hb2.size; first | omega | (simp at hss; omega)); have cp1_0 : w2.cell? ⟨(w.heap.size + 1), 0, none⟩ = some (.slice none 0 0) := (hb2.cell (p := ⟨(w.heap.size + 1), 0, none⟩) smx).trans kpx; have fp1_0 : w2.frozen? ⟨(w.heap.size + 1), 0, none⟩ = false := (hb2.frozen (p := ⟨(w.heap.size + 1), 0, none⟩) smx).trans kfx; have cp1_1 : w2.cell? ⟨(w.heap.size + 1), 1, none⟩ = some (.slice none 0 0) := (hb2.cell (p := ⟨(w.heap.size + 1), 1, none⟩) smx).trans kpx; have fp1_1 : w2.frozen? ⟨(w.heap.size + 1), 1, none⟩ = false := (hb2.frozen (p := ⟨(w.heap.size + 1), 1, none⟩) smx).trans kfx; have cp1_2 : w2.cell? ⟨(w.heap.size + 1), 2, none⟩ = some (.int .i64 0) := (hb2.cell (p := ⟨(w.heap.size + 1), 2, none⟩) smx).trans kpx; have fp1_2 : w2.frozen? ⟨(w.heap.size + 1), 2, none⟩ = false := (hb2.frozen (p := ⟨(w.heap.size + 1), 2, none⟩) smx).trans kfx; have sp1 : (w.heap.size + 1) < w2.heap.size := (by have hss := hb2.size; first | omega | (simp at hss; omega))) | (go_at_call 115; refine (specNameOk_any n _ (by omega) true HCN).mono ?_; rintro e wx ⟨rfl, hwx⟩; subst wx) | (go_at_call 38; refine (specBoxNamed_any b ba bc n _ (HR.out.ext bxt) z HZ).mono ?_; rintro e wx ⟨rfl, hwx⟩; subst wx) | (go_at_call 102; refine (specFull_any b ba bc l la lc gv [(⟨1, gv + 1, 0, 0, n, ⟨#[]⟩⟩ : DCommit)] _ 1 _ (HR.out.ext bxt) (RdM.ext HM.out (show Below w.heap.size w _ from bxt)) (HRL.out.ext bxt) hl HLM.out hll HGN.out HGT.out HGL.out (Rd.lit _ #[.int .i64 1, .int .i64 (gv + 1), .int .i64 0, .int .i64 0, .string n, .string ⟨#[]⟩] _ 1 6 _ (by first | rfl | simp) rfl (by omega)) (by simp) GK9.out rs rok (Lib.hid (full_one HBODY.out))).mono ?_; rintro e w9 ⟨g9, q9, z9, g8, q8, rfl, hown9, hzb9, hb9⟩; have HO9 := Lib.hid hown9; have HZ9 := Lib.hid hzb9; clear hown9 hzb9; have cu0_0 : w9.cell? ⟨(w.heap.size + 1), 0, none⟩ = some (.slice none 0 0) := (hb9.cell (p := ⟨(w.heap.size + 1), 0, none⟩) smx).trans kpx; have fu0_0 : w9.frozen? ⟨(w.heap.size + 1), 0, none⟩ = false := (hb9.frozen (p := ⟨(w.heap.size + 1), 0, none⟩) smx).trans kfx; have cu0_1 : w9.cell? ⟨(w.heap.size + 1), 1, none⟩ = some (.slice none 0 0) := (hb9.cell (p := ⟨(w.heap.size + 1), 1, none⟩) smx).trans kpx; have fu0_1 : w9.frozen? ⟨(w.heap.size + 1), 1, none⟩ = false := (hb9.frozen (p := ⟨(w.heap.size + 1), 1, none⟩) smx).trans kfx; have cu0_2 : w9.cell? ⟨(w.heap.size + 1), 2, none⟩ = some (.int .i64 0) := (hb9.cell (p := ⟨(w.heap.size + 1), 2, none⟩) smx).trans kpx; have fu0_2 : w9.frozen? ⟨(w.heap.size + 1), 2, none⟩ = false := (hb9.frozen (p := ⟨(w.heap.size + 1), 2, none⟩) smx).trans kfx; have su0 : (w.heap.size + 1) < w9.heap.size := (by have hss := hb9.size; first | omega | (simp at hss; omega))))
  refine bodyPost_ret (v := .tuple #[.agg #[.slice g9 z9.length q9, .slice g8 rs.log.length q8, .int .i64 rs.given], .int .i64 rok]) (by simp [results, Tryz.results54, go_sem, *]) rfl ⟨g9, q9, z9, g8, q8, rfl, ?_, HZ9.out, ?_⟩
  · exact (by (repeat' (first | with_reducible refine OwnSt.set_at ?_ HO9.out (by (first | omega | (simp <;> omega))) _ | with_reducible refine OwnSt.alloc1 ?_ _ | with_reducible refine OwnSt.drew1 ?_)); exact OwnSt.le HO9.out (by (first | omega | (simp <;> omega))))
  · exact bxt
end Go.Proofs.YtjcnhkmhcfmoeaaGreat

namespace Go.Proofs.YtjcnhkmhcfmoeaaGreat
open Go.RowKit
set_option linter.unusedVariables false
set_option linter.unusedSimpArgs false

set_option maxRecDepth 100000 in
set_option maxHeartbeats 8000000 in
theorem clMake_any (zs : List PBox) (ga : Option Addr) (q : Nat) (l : List DCommit) (la : Option Addr) (lc : Nat) (gv : Int) (G B : Nat) (n : ByteArray) (nb sb : Nat) (w : World) (HS : Hid (StB w G B 49 66 41 ga q zs la lc l gv)) (hB : B ≤ w.heap.size) (hm : MaxLen w) (gn : ∀ y ∈ zs, y.name.size ≤ 9223372036854775807) (gt : ∀ y ∈ zs, ∀ m ∈ y.msgs, m.text.size ≤ 9223372036854775807) (hn : n.size ≤ 9223372036854775807) (hgr : 0 ≤ gv ∧ gv ≤ 999999999) (hnb : nb < w.heap.size) (cn : w.cell? ⟨nb, 0, none⟩ = some (.string n)) (hsb : sb < w.heap.size) (cg : w.cell? ⟨sb, 2, none⟩ = some (.int .i64 gv)) :
    Calls Tryz.prog 113 #[.pointer (some ⟨G, 0, none⟩), .pointer (some ⟨nb, 0, none⟩), .pointer (some ⟨sb, 0, none⟩)] w fun e w' => ∃ r2 c, e = .returned (.int .i64 c) ∧ StTo (fun k => k = G ∨ rowsS ga q zs la lc l.length k) w G B 49 66 41 r2 w' ∧ makeB (⟨zs.map PBox.box, l, gv⟩ : DStore) n = (if c = 0 then r2 else (⟨zs.map PBox.box, l, gv⟩ : DStore), c) := by
  have HGN := Lib.hid gn
  have HGT := Lib.hid gt
  have HMX := Lib.hid hm
  clear gn gt hm
  obtain ⟨z, hz⟩ : ∃ z, boxNamed n (zs.map PBox.box) = z := ⟨_, rfl⟩
  have HZ := Lib.hid hz
  clear hz
  have hG := HS.out.lt
  have q0 := fun y : ExtW w => (y.h.cell (p := ⟨G, 0, none⟩) hG).trans HS.out.c0
  have q1 := fun y : ExtW w => (y.h.cell (p := ⟨nb, 0, none⟩) hnb).trans cn
  have hwr : IntKind.i64.wrap (gv + 1) = gv + 1 := IntWalk.i64_in _ (by omega)
  by_cases hz0 : 0 ≤ z
  · have hd2 : decide (0 ≤ z) = true := decide_eq_true hz0
    have HB : Hid (makeB (⟨zs.map PBox.box, l, gv⟩ : DStore) n = ((⟨zs.map PBox.box, l, gv⟩ : DStore), 3)) := Lib.hid (by rw [makeB, if_pos (show 0 ≤ boxNamed n (zs.map PBox.box) by rw [HZ.out]; exact hz0)])
    go_enter Tryz.func113, Tryz.ntmps113
    go_wp2_with fail
    refine wp_region_ext (by kernel_rfl) (by kernel_rfl) ?_
    repeat (go_big_quiet_step ((go_at_call 56; refine (implBoxNamed_any zs ga q n _ (HS.out.own.box.rd.ext (ExtW.of (Below.refl _ _) _)) z HZ).mono ?_; rintro e w4 ⟨rfl, hb4⟩; exact ⟨rfl, ExtW.on _ hb4⟩)))
    refine wpQuiet_nil ?_
    rintro w3 ⟨⟨w3x, hw3⟩, hx3⟩
    have hx3' : w3 = w3x := hx3
    subst hx3'
    clear hx3 q0 q1
    go_wp2_with fail
    go_ret
    exact ⟨(⟨zs.map PBox.box, l, gv⟩ : DStore), 3, rfl, HS.out.same hw3, by rw [HB.out]; rfl⟩
  have hd2 : decide (0 ≤ z) = false := decide_eq_false hz0
  have HB : Hid (makeB (⟨zs.map PBox.box, l, gv⟩ : DStore) n = oneD (⟨zs.map PBox.box, l, gv⟩ : DStore) (⟨1, gv + 1, 0, 0, n, ⟨#[]⟩⟩ : DCommit)) := Lib.hid (by rw [makeB, if_neg (show ¬ 0 ≤ boxNamed n (zs.map PBox.box) by rw [HZ.out]; exact hz0)])
  obtain ⟨rb, hrb⟩ := boolOf (ComP (⟨zs.map PBox.box, l, gv⟩ : DStore) (⟨1, gv + 1, 0, 0, n, ⟨#[]⟩⟩ : DCommit))
  obtain ⟨rs6, hrs6⟩ : ∃ x, (if rb then comD (⟨zs.map PBox.box, l, gv⟩ : DStore) (⟨1, gv + 1, 0, 0, n, ⟨#[]⟩⟩ : DCommit) else (⟨zs.map PBox.box, l, gv⟩ : DStore)) = x := ⟨_, rfl⟩
  have HCT : Hid (CmtRel (⟨zs.map PBox.box, l, gv⟩ : DStore) (⟨1, gv + 1, 0, 0, n, ⟨#[]⟩⟩ : DCommit) rs6 rb) := Lib.hid ⟨hrb, hrs6⟩
  obtain ⟨c6, hc6⟩ : ∃ c, (if rb then (0 : Int) else 2) = c := ⟨_, rfl⟩
  have HC6 := Lib.hid hc6
  clear hrb hrs6 hc6
  have GM1 : (⟨1, gv + 1, 0, 0, n, ⟨#[]⟩⟩ : DCommit).name.size ≤ 9223372036854775807 := hn
  have GM2 : (⟨1, gv + 1, 0, 0, n, ⟨#[]⟩⟩ : DCommit).text.size ≤ 9223372036854775807 := Nat.zero_le _
  go_enter Tryz.func113, Tryz.ntmps113
  go_wp2_with fail
  refine wp_region_ext (by kernel_rfl) (by kernel_rfl) ?_
  repeat (go_big_quiet_step ((go_at_call 56; refine (implBoxNamed_any zs ga q n _ (HS.out.own.box.rd.ext (ExtW.of (Below.refl _ _) _)) z HZ).mono ?_; rintro e w4 ⟨rfl, hb4⟩; exact ⟨rfl, ExtW.on _ hb4⟩)))
  refine wpQuiet_nil ?_
  rintro w3 ⟨⟨w3x, hw3⟩, hx3⟩
  have hx3' : w3 = w3x := hx3
  subst hx3'
  clear hx3 q0 q1
  have k1 : w3.cell? ⟨nb, 0, none⟩ = some (.string n) := (hw3.cell (p := ⟨nb, 0, none⟩) hnb).trans cn
  have k2 : w3.cell? ⟨sb, 2, none⟩ = some (.int .i64 gv) := (hw3.cell (p := ⟨sb, 2, none⟩) hsb).trans cg
  go_wp2_with (first | (go_at_call 67; refine (commit_any zs ga q l la lc gv G B (⟨1, gv + 1, 0, 0, n, ⟨#[]⟩⟩ : DCommit) _ (Lib.hid (StB.ext HS.out (show Ext w _ from bxt))) (Nat.le_trans hB (show Ext w _ from bxt).size) (HMX.out.ext bxt) HGN.out HGT.out GM1 GM2 rs6 rb HCT).mono ?_; rintro e w6 ⟨rfl, hst6⟩; have HST := Lib.hid (StTo.pre (show Ext w _ from bxt) hst6); clear hst6) | (go_at_call 99; refine (fullUnless_any rb c6 _ HC6).mono ?_; rintro e wx ⟨rfl, hwx⟩; subst wx))
  go_ret
  exact ⟨rs6, c6, rfl, HST.out, by rw [HB.out, one_cr HCT.out, HC6.out]⟩
end Go.Proofs.YtjcnhkmhcfmoeaaGreat

namespace Go.Proofs.YtjcnhkmhcfmoeaaGreat
open Go.RowKit
set_option linter.unusedVariables false
set_option linter.unusedSimpArgs false

set_option maxRecDepth 100000 in
theorem chMake_any (b : List PBox) (ba : Option Addr) (bc : Nat) (l : List DCommit) (la : Option Addr) (lc : Nat) (gv : Int) (n : ByteArray) (nb sb : Nat) (w : World) (R : Rd w ba bc 4 b.length (b.flatMap PBox.cells)) (M : RdM w b) (RL : Rd w la lc 6 l.length (l.flatMap DCommit.cells)) (hl : b.length ≤ 1048576) (hlm : ∀ y ∈ b, y.msgs.length ≤ 1048576) (hll : l.length ≤ 1048576) (gn : ∀ y ∈ b, y.name.size ≤ 9223372036854775807) (gt : ∀ y ∈ b, ∀ m ∈ y.msgs, m.text.size ≤ 9223372036854775807) (gl : ∀ y ∈ l, y.name.size ≤ 9223372036854775807 ∧ y.text.size ≤ 9223372036854775807) (hm : MaxLen w) (ok : Bool) (HSK : Hid (Tells ok (StoreP ⟨b.map PBox.box, l, gv⟩))) (code : Int) (X : World) (hwX : Ext w X) (hn : n.size ≤ 9223372036854775807) (hnb : nb < X.heap.size) (cn : X.cell? ⟨nb, 0, none⟩ = some (.string n)) (hsb : sb < X.heap.size) (cg : X.cell? ⟨sb, 2, none⟩ = some (.int .i64 gv)) :
    Calls Tryz.prog 95 #[.agg #[.slice ba b.length bc, .slice la l.length lc, .int .i64 gv], .int .i64 code, .func (.func 113) #[] #[.pointer (some ⟨nb, 0, none⟩), .pointer (some ⟨sb, 0, none⟩)]] X fun e w' => ∃ g q zs g2 q2 rs rc, e = .returned (.tuple #[.agg #[.slice g zs.length q, .slice g2 rs.log.length q2, .int .i64 rs.given], .int .i64 rc]) ∧ OwnSt w' X.heap.size 49 66 41 g q zs g2 q2 rs.log ∧ zs.map PBox.box = rs.boxes ∧ Ext X w' ∧ ChRel ⟨b.map PBox.box, l, gv⟩ ok code (fun r2 c => makeB ⟨b.map PBox.box, l, gv⟩ n = (if c = 0 then r2 else ⟨b.map PBox.box, l, gv⟩, c)) rs rc :=
  change_any b ba bc l la lc gv code 113 #[.pointer (some ⟨nb, 0, none⟩), .pointer (some ⟨sb, 0, none⟩)] (fun r2 c => makeB ⟨b.map PBox.box, l, gv⟩ n = (if c = 0 then r2 else ⟨b.map PBox.box, l, gv⟩, c)) X (R.ext hwX) (M.ext hwX) (RL.ext hwX) hl hlm hll gn gt gl (hm.ext hwX) ok HSK (callFunc_in Tryz.func113 (by kernel_rfl) (by kernel_rfl)) (fun wx G B zs ga q la2 lc2 hx HS hwB hBx hwG hz hst hc0 => (clMake_any zs ga q l la2 lc2 gv G B n nb sb wx HS hBx ((hm.ext hwX).ext hx) (box_names hz.out gn) (box_texts hz.out gt) hn hst.2.2.1 (Nat.lt_of_lt_of_le hnb hx.size) ((hx.cell (p := ⟨nb, 0, none⟩) hnb).trans cn) (Nat.lt_of_lt_of_le hsb hx.size) ((hx.cell (p := ⟨sb, 2, none⟩) hsb).trans cg)).mono fun e w' ⟨r2, c, he, hs, hm⟩ => ⟨r2, c, he, hs, by rw [hz.out] at hm; exact hm⟩)
end Go.Proofs.YtjcnhkmhcfmoeaaGreat

namespace Go.Proofs.YtjcnhkmhcfmoeaaGreat
open Go.RowKit
set_option linter.unusedVariables false
set_option linter.unusedSimpArgs false

set_option maxRecDepth 100000 in
set_option maxHeartbeats 8000000 in
theorem implMakeBox_no (b : List PBox) (ba : Option Addr) (bc : Nat) (l : List DCommit) (la : Option Addr) (lc : Nat) (gv : Int) (n : ByteArray) (w : World) (R : Rd w ba bc 4 b.length (b.flatMap PBox.cells)) (M : RdM w b) (RL : Rd w la lc 6 l.length (l.flatMap DCommit.cells)) (hl : b.length ≤ 1048576) (hlm : ∀ y ∈ b, y.msgs.length ≤ 1048576) (hll : l.length ≤ 1048576) (gn : ∀ y ∈ b, y.name.size ≤ 9223372036854775807) (gt : ∀ y ∈ b, ∀ m ∈ y.msgs, m.text.size ≤ 9223372036854775807) (gl : ∀ y ∈ l, y.name.size ≤ 9223372036854775807 ∧ y.text.size ≤ 9223372036854775807) (hn : n.size ≤ 1048576) (hm : MaxLen w) (HCN : Hid (Tells false (NameP n))) (rs : DStore) (rok : Int) (H : Hid (makeD ⟨b.map PBox.box, l, gv⟩ n = (rs, rok))) :
    Calls Tryz.prog 51 #[.agg #[.slice ba b.length bc, .slice la l.length lc, .int .i64 gv], .string n] w fun e w' => ∃ g q zs g2 q2, e = .returned (.tuple #[.agg #[.slice g zs.length q, .slice g2 rs.log.length q2, .int .i64 rs.given], .int .i64 rok]) ∧ OwnSt w' w.heap.size 49 66 41 g q zs g2 q2 rs.log ∧ zs.map PBox.box = rs.boxes ∧ Ext w w' := by
  have HR := Lib.hid R
  have HM := Lib.hid M
  have HRL := Lib.hid RL
  have HLM := Lib.hid hlm
  have HGN := Lib.hid gn
  have HGT := Lib.hid gt
  have HGL := Lib.hid gl
  clear R M RL hlm gn gt gl
  have HMX := Lib.hid hm
  clear hm
  obtain ⟨ok, hok⟩ := boolOf (StoreP ⟨b.map PBox.box, l, gv⟩)
  have HSK := Lib.hid hok
  clear hok
  go_enter Tryz.func51, Tryz.ntmps51
  go_wp2_with fail
  refine wp_world (fun W hW => ?_)
  have hwW : Ext w W := by (rw [hW]; exact bxt)
  have bx0_0 : W.cell? ⟨w.heap.size, 0, none⟩ = some (.slice ba b.length bc) := by (rw [hW]; simp [go_sem])
  have bx0_1 : W.cell? ⟨w.heap.size, 1, none⟩ = some (.slice la l.length lc) := by (rw [hW]; simp [go_sem])
  have bx0_2 : W.cell? ⟨w.heap.size, 2, none⟩ = some (.int .i64 gv) := by (rw [hW]; simp [go_sem])
  have bx1_0 : W.cell? ⟨(w.heap.size + 1), 0, none⟩ = some (.string n) := by (rw [hW]; simp [go_sem])
  have bx2_0 : W.cell? ⟨(w.heap.size + 2), 0, none⟩ = some (.slice none 0 0) := by (rw [hW]; simp [go_sem])
  have bx2_1 : W.cell? ⟨(w.heap.size + 2), 1, none⟩ = some (.slice none 0 0) := by (rw [hW]; simp [go_sem])
  have bx2_2 : W.cell? ⟨(w.heap.size + 2), 2, none⟩ = some (.int .i64 0) := by (rw [hW]; simp [go_sem])
  have bf2_0 : W.frozen? ⟨(w.heap.size + 2), 0, none⟩ = false := by (rw [hW]; simp [go_sem])
  have bf2_1 : W.frozen? ⟨(w.heap.size + 2), 1, none⟩ = false := by (rw [hW]; simp [go_sem])
  have bf2_2 : W.frozen? ⟨(w.heap.size + 2), 2, none⟩ = false := by (rw [hW]; simp [go_sem])
  have sW : W.heap.size = w.heap.size + 3 := by (rw [hW]; simp)
  clear hW
  go_cut [5] (fun v wx => v = .int .i64 rok ∧ RBox 49 66 41 w (w.heap.size + 2) rs wx)
  case first =>
    first
    | go_region_law (first | (go_simp; go_at_call 111; refine (implNameOk_any n _ (HMX.out.ext bxt) (by omega) false HCN).mono ?_; rintro e wx ⟨rfl, hwx⟩; subst wx) | (go_simp; go_at_call 96; refine (wrongIf_any true 4 _ (Lib.hid rfl)).mono ?_; rintro e wx ⟨rfl, hwx⟩; subst wx) | (go_simp; go_at_call 95; refine (chMake_any b ba bc l la lc gv n (w.heap.size + 1) w.heap.size w HR.out HM.out HRL.out hl HLM.out hll HGN.out HGT.out HGL.out HMX.out ok HSK 4 _ bxt (by omega) (Nat.lt_of_lt_of_le (show (w.heap.size + 1) < W.heap.size by omega) (show Below W.heap.size W _ from bxt).size) (((show Below W.heap.size W _ from bxt).cell (p := ⟨(w.heap.size + 1), 0, none⟩) (show (w.heap.size + 1) < W.heap.size by omega)).trans bx1_0) (Nat.lt_of_lt_of_le (show w.heap.size < W.heap.size by omega) (show Below W.heap.size W _ from bxt).size) (((show Below W.heap.size W _ from bxt).cell (p := ⟨w.heap.size, 2, none⟩) (show w.heap.size < W.heap.size by omega)).trans bx0_2)).mono ?_; rintro e w9 ⟨g9, q9, z9, g8, q8, rs9, rc9, rfl, hown9, hzb9, hb9, hch9⟩; have HO9 := Lib.hid hown9; have HZ9 := Lib.hid hzb9; have HC9 := Lib.hid hch9; clear hown9 hzb9 hch9; have cu0_0 : w9.cell? ⟨(w.heap.size + 2), 0, none⟩ = some (.slice none 0 0) := (hb9.cell (p := ⟨(w.heap.size + 2), 0, none⟩) smx).trans kpx; have fu0_0 : w9.frozen? ⟨(w.heap.size + 2), 0, none⟩ = false := (hb9.frozen (p := ⟨(w.heap.size + 2), 0, none⟩) smx).trans kfx; have cu0_1 : w9.cell? ⟨(w.heap.size + 2), 1, none⟩ = some (.slice none 0 0) := (hb9.cell (p := ⟨(w.heap.size + 2), 1, none⟩) smx).trans kpx; have fu0_1 : w9.frozen? ⟨(w.heap.size + 2), 1, none⟩ = false := (hb9.frozen (p := ⟨(w.heap.size + 2), 1, none⟩) smx).trans kfx; have cu0_2 : w9.cell? ⟨(w.heap.size + 2), 2, none⟩ = some (.int .i64 0) := (hb9.cell (p := ⟨(w.heap.size + 2), 2, none⟩) smx).trans kpx; have fu0_2 : w9.frozen? ⟨(w.heap.size + 2), 2, none⟩ = false := (hb9.frozen (p := ⟨(w.heap.size + 2), 2, none⟩) smx).trans kfx; have su0 : (w.heap.size + 2) < w9.heap.size := (by have hss := hb9.size; first | omega | (simp at hss; omega))))
    | fail
    all_goals go_wp2_with fail
    all_goals go_meet
    all_goals obtain ⟨rfl, rfl⟩ : rs9 = rs ∧ rc9 = rok := Prod.mk.inj ((ch_op HC9.out HSK.out (fun h => absurd h.1 (no_of HCN.out)) (fun _ => rfl)).symm.trans H.out)
    all_goals exact ⟨rfl, RBox.put HO9.out (by exact (Below.ext hwW (show Below W.heap.size W _ from bxt)).size) (by exact (Nat.lt_of_lt_of_le (show (w.heap.size + 2) < W.heap.size by omega) (show Below W.heap.size W _ from bxt).size)) (by omega) HZ9.out (Below.ext hwW (by exact bxt)) cu0_0 cu0_1 cu0_2⟩
  case rest =>
    obtain ⟨rfl, g9, q9, z9, g8, q8, e0, e1, e2, hown, hz, hx⟩ := hcut
    go_wp2_with fail
    refine bodyPost_ret (v := .tuple #[.agg #[.slice g9 z9.length q9, .slice g8 rs.log.length q8, .int .i64 rs.given], .int .i64 rok]) (by simp [results, Tryz.results51, go_sem, *]) rfl ⟨g9, q9, z9, g8, q8, rfl, hown, hz, hx⟩
end Go.Proofs.YtjcnhkmhcfmoeaaGreat

namespace Go.Proofs.YtjcnhkmhcfmoeaaGreat
open Go.RowKit
set_option linter.unusedVariables false
set_option linter.unusedSimpArgs false

set_option maxRecDepth 100000 in
set_option maxHeartbeats 8000000 in
theorem implMakeBox_law (b : List PBox) (ba : Option Addr) (bc : Nat) (l : List DCommit) (la : Option Addr) (lc : Nat) (gv : Int) (n : ByteArray) (w : World) (R : Rd w ba bc 4 b.length (b.flatMap PBox.cells)) (M : RdM w b) (RL : Rd w la lc 6 l.length (l.flatMap DCommit.cells)) (hl : b.length ≤ 1048576) (hlm : ∀ y ∈ b, y.msgs.length ≤ 1048576) (hll : l.length ≤ 1048576) (gn : ∀ y ∈ b, y.name.size ≤ 9223372036854775807) (gt : ∀ y ∈ b, ∀ m ∈ y.msgs, m.text.size ≤ 9223372036854775807) (gl : ∀ y ∈ l, y.name.size ≤ 9223372036854775807 ∧ y.text.size ≤ 9223372036854775807) (hn : n.size ≤ 1048576) (hm : MaxLen w) (rs : DStore) (rok : Int) (H : Hid (makeD ⟨b.map PBox.box, l, gv⟩ n = (rs, rok))) :
    Calls Tryz.prog 51 #[.agg #[.slice ba b.length bc, .slice la l.length lc, .int .i64 gv], .string n] w fun e w' => ∃ g q zs g2 q2, e = .returned (.tuple #[.agg #[.slice g zs.length q, .slice g2 rs.log.length q2, .int .i64 rs.given], .int .i64 rok]) ∧ OwnSt w' w.heap.size 49 66 41 g q zs g2 q2 rs.log ∧ zs.map PBox.box = rs.boxes ∧ Ext w w' := by
  have HR := Lib.hid R
  have HM := Lib.hid M
  have HRL := Lib.hid RL
  have HLM := Lib.hid hlm
  have HGN := Lib.hid gn
  have HGT := Lib.hid gt
  have HGL := Lib.hid gl
  clear R M RL hlm gn gt gl
  have HMX := Lib.hid hm
  clear hm
  obtain ⟨ok, hok⟩ := boolOf (StoreP ⟨b.map PBox.box, l, gv⟩)
  have HSK := Lib.hid hok
  clear hok
  obtain ⟨cn, hcn⟩ := boolOf (NameP n)
  have HCN := Lib.hid hcn
  clear hcn
  cases cn with
  | false =>
    exact implMakeBox_no b ba bc l la lc gv n w HR.out HM.out HRL.out hl HLM.out hll HGN.out HGT.out HGL.out hn HMX.out HCN rs rok H
  | true =>
  by_cases hg : gv = 999999999
  · have hd1 : (gv == 999999999) = true := beq_iff_eq.2 hg
    have HG := Lib.hid hg
    clear hg
    go_enter Tryz.func51, Tryz.ntmps51
    go_wp2_with fail
    refine wp_world (fun W hW => ?_)
    have hwW : Ext w W := by (rw [hW]; exact bxt)
    have bx0_0 : W.cell? ⟨w.heap.size, 0, none⟩ = some (.slice ba b.length bc) := by (rw [hW]; simp [go_sem])
    have bx0_1 : W.cell? ⟨w.heap.size, 1, none⟩ = some (.slice la l.length lc) := by (rw [hW]; simp [go_sem])
    have bx0_2 : W.cell? ⟨w.heap.size, 2, none⟩ = some (.int .i64 gv) := by (rw [hW]; simp [go_sem])
    have bx1_0 : W.cell? ⟨(w.heap.size + 1), 0, none⟩ = some (.string n) := by (rw [hW]; simp [go_sem])
    have bx2_0 : W.cell? ⟨(w.heap.size + 2), 0, none⟩ = some (.slice none 0 0) := by (rw [hW]; simp [go_sem])
    have bx2_1 : W.cell? ⟨(w.heap.size + 2), 1, none⟩ = some (.slice none 0 0) := by (rw [hW]; simp [go_sem])
    have bx2_2 : W.cell? ⟨(w.heap.size + 2), 2, none⟩ = some (.int .i64 0) := by (rw [hW]; simp [go_sem])
    have bf2_0 : W.frozen? ⟨(w.heap.size + 2), 0, none⟩ = false := by (rw [hW]; simp [go_sem])
    have bf2_1 : W.frozen? ⟨(w.heap.size + 2), 1, none⟩ = false := by (rw [hW]; simp [go_sem])
    have bf2_2 : W.frozen? ⟨(w.heap.size + 2), 2, none⟩ = false := by (rw [hW]; simp [go_sem])
    have sW : W.heap.size = w.heap.size + 3 := by (rw [hW]; simp)
    clear hW
    first
    | go_region_held3 (fun w' => Below (w.heap.size + 2) W w' ∧ (∀ b o, b < w.heap.size + 2 → w'.cell? ⟨b, o, none⟩ = W.cell? ⟨b, o, none⟩)) ((refine iMkN ?_; exact (by repeat' (first | with_reducible exact Below.refl _ _ | with_reducible assumption | with_reducible refine Below.alloc ?_ ?_ _ | with_reducible refine Below.setCell ?_ ?_ _ | with_reducible refine Below.drew ?_ | with_reducible refine Below.extB ?_ (by assumption) ?_ | (simp <;> omega) | omega)))) ((first | (go_at_call 111; refine (implNameOk_any n _ (HMX.out.ext bxt) (by omega) true HCN).mono ?_; rintro e wx ⟨rfl, hwx⟩; subst wx) | (go_at_call 96; refine (wrongIf_any true 4 _ (Lib.hid rfl)).mono ?_; rintro e wx ⟨rfl, hwx⟩; subst wx) | (go_at_call 95; refine (chMake_any b ba bc l la lc gv n (w.heap.size + 1) w.heap.size w HR.out HM.out HRL.out hl HLM.out hll HGN.out HGT.out HGL.out HMX.out ok HSK 4 _ bxt (by omega) (Nat.lt_of_lt_of_le (show (w.heap.size + 1) < W.heap.size by omega) (show Below W.heap.size W _ from bxt).size) (((show Below W.heap.size W _ from bxt).cell (p := ⟨(w.heap.size + 1), 0, none⟩) (show (w.heap.size + 1) < W.heap.size by omega)).trans bx1_0) (Nat.lt_of_lt_of_le (show w.heap.size < W.heap.size by omega) (show Below W.heap.size W _ from bxt).size) (((show Below W.heap.size W _ from bxt).cell (p := ⟨w.heap.size, 2, none⟩) (show w.heap.size < W.heap.size by omega)).trans bx0_2)).mono ?_; rintro e w9 ⟨g9, q9, z9, g8, q8, rs9, rc9, rfl, hown9, hzb9, hb9, hch9⟩; have HO9 := Lib.hid hown9; have HZ9 := Lib.hid hzb9; have HC9 := Lib.hid hch9; clear hown9 hzb9 hch9; have cu0_0 : w9.cell? ⟨(w.heap.size + 2), 0, none⟩ = some (.slice none 0 0) := (hb9.cell (p := ⟨(w.heap.size + 2), 0, none⟩) smx).trans kpx; have fu0_0 : w9.frozen? ⟨(w.heap.size + 2), 0, none⟩ = false := (hb9.frozen (p := ⟨(w.heap.size + 2), 0, none⟩) smx).trans kfx; have cu0_1 : w9.cell? ⟨(w.heap.size + 2), 1, none⟩ = some (.slice none 0 0) := (hb9.cell (p := ⟨(w.heap.size + 2), 1, none⟩) smx).trans kpx; have fu0_1 : w9.frozen? ⟨(w.heap.size + 2), 1, none⟩ = false := (hb9.frozen (p := ⟨(w.heap.size + 2), 1, none⟩) smx).trans kfx; have cu0_2 : w9.cell? ⟨(w.heap.size + 2), 2, none⟩ = some (.int .i64 0) := (hb9.cell (p := ⟨(w.heap.size + 2), 2, none⟩) smx).trans kpx; have fu0_2 : w9.frozen? ⟨(w.heap.size + 2), 2, none⟩ = false := (hb9.frozen (p := ⟨(w.heap.size + 2), 2, none⟩) smx).trans kfx; have su0 : (w.heap.size + 2) < w9.heap.size := (by have hss := hb9.size; first | omega | (simp at hss; omega)))))
    | fail
    all_goals go_wp2_with fail
    all_goals obtain ⟨rfl, rfl⟩ : rs9 = rs ∧ rc9 = rok := Prod.mk.inj ((ch_op HC9.out HSK.out (fun h => absurd HG.out h.2) (fun _ => rfl)).symm.trans H.out)
    all_goals refine bodyPost_ret (v := .tuple #[.agg #[.slice g9 z9.length q9, .slice g8 rs9.log.length q8, .int .i64 rs9.given], .int .i64 rc9]) (by simp [results, Tryz.results51, go_sem, *]) rfl ⟨g9, q9, z9, g8, q8, rfl, ?_, HZ9.out, ?_⟩
    all_goals first | exact bxt | exact (by (repeat' (first | with_reducible refine OwnSt.set_at ?_ HO9.out (by (first | omega | (simp <;> omega))) _ | with_reducible refine OwnSt.alloc1 ?_ _ | with_reducible refine OwnSt.drew1 ?_)); exact OwnSt.le HO9.out (by (first | omega | (simp <;> omega))))
  · have hd1 : (gv == 999999999) = false := by simp [hg]
    have HG := Lib.hid hg
    clear hg
    go_enter Tryz.func51, Tryz.ntmps51
    go_wp2_with fail
    refine wp_world (fun W hW => ?_)
    have hwW : Ext w W := by (rw [hW]; exact bxt)
    have bx0_0 : W.cell? ⟨w.heap.size, 0, none⟩ = some (.slice ba b.length bc) := by (rw [hW]; simp [go_sem])
    have bx0_1 : W.cell? ⟨w.heap.size, 1, none⟩ = some (.slice la l.length lc) := by (rw [hW]; simp [go_sem])
    have bx0_2 : W.cell? ⟨w.heap.size, 2, none⟩ = some (.int .i64 gv) := by (rw [hW]; simp [go_sem])
    have bx1_0 : W.cell? ⟨(w.heap.size + 1), 0, none⟩ = some (.string n) := by (rw [hW]; simp [go_sem])
    have bx2_0 : W.cell? ⟨(w.heap.size + 2), 0, none⟩ = some (.slice none 0 0) := by (rw [hW]; simp [go_sem])
    have bx2_1 : W.cell? ⟨(w.heap.size + 2), 1, none⟩ = some (.slice none 0 0) := by (rw [hW]; simp [go_sem])
    have bx2_2 : W.cell? ⟨(w.heap.size + 2), 2, none⟩ = some (.int .i64 0) := by (rw [hW]; simp [go_sem])
    have bf2_0 : W.frozen? ⟨(w.heap.size + 2), 0, none⟩ = false := by (rw [hW]; simp [go_sem])
    have bf2_1 : W.frozen? ⟨(w.heap.size + 2), 1, none⟩ = false := by (rw [hW]; simp [go_sem])
    have bf2_2 : W.frozen? ⟨(w.heap.size + 2), 2, none⟩ = false := by (rw [hW]; simp [go_sem])
    have sW : W.heap.size = w.heap.size + 3 := by (rw [hW]; simp)
    clear hW
    go_region_held3 (fun w' => Below (w.heap.size + 2) W w' ∧ (∀ b o, b < w.heap.size + 2 → w'.cell? ⟨b, o, none⟩ = W.cell? ⟨b, o, none⟩)) ((refine iMkN ?_; exact (by repeat' (first | with_reducible exact Below.refl _ _ | with_reducible assumption | with_reducible refine Below.alloc ?_ ?_ _ | with_reducible refine Below.setCell ?_ ?_ _ | with_reducible refine Below.drew ?_ | with_reducible refine Below.extB ?_ (by assumption) ?_ | (simp <;> omega) | omega)))) ((first | (go_at_call 111; refine (implNameOk_any n _ (HMX.out.ext bxt) (by omega) true HCN).mono ?_; rintro e wx ⟨rfl, hwx⟩; subst wx) | (go_at_call 96; refine (wrongIf_any false 0 _ (Lib.hid rfl)).mono ?_; rintro e wx ⟨rfl, hwx⟩; subst wx) | (go_at_call 95; refine (chMake_any b ba bc l la lc gv n (w.heap.size + 1) w.heap.size w HR.out HM.out HRL.out hl HLM.out hll HGN.out HGT.out HGL.out HMX.out ok HSK 0 _ bxt (by omega) (Nat.lt_of_lt_of_le (show (w.heap.size + 1) < W.heap.size by omega) (show Below W.heap.size W _ from bxt).size) (((show Below W.heap.size W _ from bxt).cell (p := ⟨(w.heap.size + 1), 0, none⟩) (show (w.heap.size + 1) < W.heap.size by omega)).trans bx1_0) (Nat.lt_of_lt_of_le (show w.heap.size < W.heap.size by omega) (show Below W.heap.size W _ from bxt).size) (((show Below W.heap.size W _ from bxt).cell (p := ⟨w.heap.size, 2, none⟩) (show w.heap.size < W.heap.size by omega)).trans bx0_2)).mono ?_; rintro e w9 ⟨g9, q9, z9, g8, q8, rs9, rc9, rfl, hown9, hzb9, hb9, hch9⟩; have HO9 := Lib.hid hown9; have HZ9 := Lib.hid hzb9; have HC9 := Lib.hid hch9; clear hown9 hzb9 hch9; have cu0_0 : w9.cell? ⟨(w.heap.size + 2), 0, none⟩ = some (.slice none 0 0) := (hb9.cell (p := ⟨(w.heap.size + 2), 0, none⟩) smx).trans kpx; have fu0_0 : w9.frozen? ⟨(w.heap.size + 2), 0, none⟩ = false := (hb9.frozen (p := ⟨(w.heap.size + 2), 0, none⟩) smx).trans kfx; have cu0_1 : w9.cell? ⟨(w.heap.size + 2), 1, none⟩ = some (.slice none 0 0) := (hb9.cell (p := ⟨(w.heap.size + 2), 1, none⟩) smx).trans kpx; have fu0_1 : w9.frozen? ⟨(w.heap.size + 2), 1, none⟩ = false := (hb9.frozen (p := ⟨(w.heap.size + 2), 1, none⟩) smx).trans kfx; have cu0_2 : w9.cell? ⟨(w.heap.size + 2), 2, none⟩ = some (.int .i64 0) := (hb9.cell (p := ⟨(w.heap.size + 2), 2, none⟩) smx).trans kpx; have fu0_2 : w9.frozen? ⟨(w.heap.size + 2), 2, none⟩ = false := (hb9.frozen (p := ⟨(w.heap.size + 2), 2, none⟩) smx).trans kfx; have su0 : (w.heap.size + 2) < w9.heap.size := (by have hss := hb9.size; first | omega | (simp at hss; omega)))))
    all_goals go_wp2_with fail
    all_goals obtain ⟨rfl, rfl⟩ : rs9 = rs ∧ rc9 = rok := Prod.mk.inj ((ch_op HC9.out HSK.out (fun _ => rfl) (fun h => absurd ⟨yes_of HCN.out, HG.out⟩ h)).symm.trans H.out)
    all_goals refine bodyPost_ret (v := .tuple #[.agg #[.slice g9 z9.length q9, .slice g8 rs9.log.length q8, .int .i64 rs9.given], .int .i64 rc9]) (by simp [results, Tryz.results51, go_sem, *]) rfl ⟨g9, q9, z9, g8, q8, rfl, ?_, HZ9.out, ?_⟩
    all_goals first | exact bxt | exact (by (repeat' (first | with_reducible refine OwnSt.set_at ?_ HO9.out (by (first | omega | (simp <;> omega))) _ | with_reducible refine OwnSt.alloc1 ?_ _ | with_reducible refine OwnSt.drew1 ?_)); exact OwnSt.le HO9.out (by (first | omega | (simp <;> omega))))
end Go.Proofs.YtjcnhkmhcfmoeaaGreat
