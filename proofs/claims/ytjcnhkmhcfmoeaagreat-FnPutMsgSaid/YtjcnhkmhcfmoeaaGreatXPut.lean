/-
  PutMsg: the reference's function.
  PutMsg: the program's closure.
  PutMsg: change at its closure.
  PutMsg: the program's function at flags that are not right.
  PutMsg: the program's function, whole.
-/
import Derived.Test.YtjcnhkmhcfmoeaaGreatXDrop
import Derived.Test.YtjcnhkmhcfmoeaaGreatCSmall
import Derived.Test.YtjcnhkmhcfmoeaaGreatWCutS
namespace Go.Proofs.YtjcnhkmhcfmoeaaGreat
open Go.RowKit
set_option linter.unusedVariables false
set_option linter.unusedSimpArgs false

set_option maxRecDepth 100000 in
set_option maxHeartbeats 8000000 in
theorem specPutMsg_law (b : List PBox) (ba : Option Addr) (bc : Nat) (l : List DCommit) (la : Option Addr) (lc : Nat) (gv : Int) (n : ByteArray) (f : Int) (t : ByteArray) (w : World) (R : Rd w ba bc 4 b.length (b.flatMap PBox.cells)) (M : RdM w b) (RL : Rd w la lc 6 l.length (l.flatMap DCommit.cells)) (hl : b.length ≤ 1048576) (hlm : ∀ y ∈ b, y.msgs.length ≤ 1048576) (hll : l.length ≤ 1048576) (gn : ∀ y ∈ b, y.name.size ≤ 9223372036854775807) (gt : ∀ y ∈ b, ∀ m ∈ y.msgs, m.text.size ≤ 9223372036854775807) (gl : ∀ y ∈ l, y.name.size ≤ 9223372036854775807 ∧ y.text.size ≤ 9223372036854775807) (hn : n.size ≤ 1048576) (ht : t.size ≤ 1048576) (rs : DStore) (rok : Int) (H : Hid (putD ⟨b.map PBox.box, l, gv⟩ n f t = (rs, rok))) :
    Calls Tryz.prog 37 #[.agg #[.slice ba b.length bc, .slice la l.length lc, .int .i64 gv], .string n, .int .i64 f, .string t] w fun e w' => ∃ g q zs g2 q2, e = .returned (.tuple #[.agg #[.slice g zs.length q, .slice g2 rs.log.length q2, .int .i64 rs.given], .int .i64 rok]) ∧ OwnSt w' w.heap.size 49 66 41 g q zs g2 q2 rs.log ∧ zs.map PBox.box = rs.boxes ∧ Ext w w' := by
  have HR := Lib.hid R
  have HM := Lib.hid M
  have HRL := Lib.hid RL
  have HLM := Lib.hid hlm
  have HGN := Lib.hid gn
  have HGT := Lib.hid gt
  have HGL := Lib.hid gl
  clear R M RL hlm gn gt gl
  obtain ⟨ok, hok⟩ := boolOf (StoreP ⟨b.map PBox.box, l, gv⟩)
  have HSK := Lib.hid hok
  clear hok
  obtain ⟨z, hz⟩ : ∃ z, boxNamed n (b.map PBox.box) = z := ⟨_, rfl⟩
  have HZ := Lib.hid hz
  clear hz
  cases ok with
  | false =>
    obtain ⟨rfl, rfl⟩ : (⟨b.map PBox.box, l, gv⟩ : DStore) = rs ∧ (4 : Int) = rok := by
      have h := H.out
      rw [putD, opD_no (fun h => no_of HSK.out h.1)] at h
      exact Prod.mk.inj h
    go_enter Tryz.func37, Tryz.ntmps37
    go_wp2_with (first | (go_at_call 19; refine (specStoreOk_any b ba bc l la lc gv _ (HR.out.ext bxt) (RdM.ext HM.out (show Below w.heap.size w _ from bxt)) (HRL.out.ext bxt) hl HLM.out hll HGN.out HGT.out HGL.out false HSK).mono ?_; rintro e w2 ⟨rfl, hb2⟩; have cp0_0 : w2.cell? ⟨w.heap.size, 0, none⟩ = some (.slice ba b.length bc) := (hb2.cell (p := ⟨w.heap.size, 0, none⟩) smx).trans kpx; have fp0_0 : w2.frozen? ⟨w.heap.size, 0, none⟩ = false := (hb2.frozen (p := ⟨w.heap.size, 0, none⟩) smx).trans kfx; have cp0_1 : w2.cell? ⟨w.heap.size, 1, none⟩ = some (.slice la l.length lc) := (hb2.cell (p := ⟨w.heap.size, 1, none⟩) smx).trans kpx; have fp0_1 : w2.frozen? ⟨w.heap.size, 1, none⟩ = false := (hb2.frozen (p := ⟨w.heap.size, 1, none⟩) smx).trans kfx; have cp0_2 : w2.cell? ⟨w.heap.size, 2, none⟩ = some (.int .i64 gv) := (hb2.cell (p := ⟨w.heap.size, 2, none⟩) smx).trans kpx; have fp0_2 : w2.frozen? ⟨w.heap.size, 2, none⟩ = false := (hb2.frozen (p := ⟨w.heap.size, 2, none⟩) smx).trans kfx; have sp0 : w.heap.size < w2.heap.size := (by have hss := hb2.size; first | omega | (simp at hss; omega)); have cp1_0 : w2.cell? ⟨(w.heap.size + 1), 0, none⟩ = some (.slice none 0 0) := (hb2.cell (p := ⟨(w.heap.size + 1), 0, none⟩) smx).trans kpx; have fp1_0 : w2.frozen? ⟨(w.heap.size + 1), 0, none⟩ = false := (hb2.frozen (p := ⟨(w.heap.size + 1), 0, none⟩) smx).trans kfx; have cp1_1 : w2.cell? ⟨(w.heap.size + 1), 1, none⟩ = some (.slice none 0 0) := (hb2.cell (p := ⟨(w.heap.size + 1), 1, none⟩) smx).trans kpx; have fp1_1 : w2.frozen? ⟨(w.heap.size + 1), 1, none⟩ = false := (hb2.frozen (p := ⟨(w.heap.size + 1), 1, none⟩) smx).trans kfx; have cp1_2 : w2.cell? ⟨(w.heap.size + 1), 2, none⟩ = some (.int .i64 0) := (hb2.cell (p := ⟨(w.heap.size + 1), 2, none⟩) smx).trans kpx; have fp1_2 : w2.frozen? ⟨(w.heap.size + 1), 2, none⟩ = false := (hb2.frozen (p := ⟨(w.heap.size + 1), 2, none⟩) smx).trans kfx; have sp1 : (w.heap.size + 1) < w2.heap.size := (by have hss := hb2.size; first | omega | (simp at hss; omega))) | (go_at_call_of 38 (n); refine (specBoxNamed_any b ba bc n _ (HR.out.ext bxt) z HZ).mono ?_; rintro e wx ⟨rfl, hwx⟩; subst wx) | (go_at_call 68; refine (specCopySt_any b ba bc l la lc gv _ (HR.out.ext bxt) (RdM.ext HM.out (show Below w.heap.size w _ from bxt)) (HRL.out.ext bxt) hl HLM.out hll).mono ?_; rintro e w7 ⟨gb7, q7, zs7, g7, q8, rfl, hown7, hzb7, hb7⟩; have HO7 := Lib.hid hown7; have HZ7 := Lib.hid hzb7; clear hown7 hzb7; have cu0_0 : w7.cell? ⟨(w.heap.size + 1), 0, none⟩ = some (.slice none 0 0) := (hb7.cell (p := ⟨(w.heap.size + 1), 0, none⟩) smx).trans kpx; have fu0_0 : w7.frozen? ⟨(w.heap.size + 1), 0, none⟩ = false := (hb7.frozen (p := ⟨(w.heap.size + 1), 0, none⟩) smx).trans kfx; have cu0_1 : w7.cell? ⟨(w.heap.size + 1), 1, none⟩ = some (.slice none 0 0) := (hb7.cell (p := ⟨(w.heap.size + 1), 1, none⟩) smx).trans kpx; have fu0_1 : w7.frozen? ⟨(w.heap.size + 1), 1, none⟩ = false := (hb7.frozen (p := ⟨(w.heap.size + 1), 1, none⟩) smx).trans kfx; have cu0_2 : w7.cell? ⟨(w.heap.size + 1), 2, none⟩ = some (.int .i64 0) := (hb7.cell (p := ⟨(w.heap.size + 1), 2, none⟩) smx).trans kpx; have fu0_2 : w7.frozen? ⟨(w.heap.size + 1), 2, none⟩ = false := (hb7.frozen (p := ⟨(w.heap.size + 1), 2, none⟩) smx).trans kfx; have su0 : (w.heap.size + 1) < w7.heap.size := (by have hss := hb7.size; first | omega | (simp at hss; omega))))
    refine bodyPost_ret (v := .tuple #[.agg #[.slice gb7 zs7.length q7, .slice g7 l.length q8, .int .i64 gv], .int .i64 4]) (by simp [results, Tryz.results37, go_sem, *]) rfl ⟨gb7, q7, zs7, g7, q8, rfl, ?_, HZ7.out, ?_⟩
    · exact (by (repeat' (first | with_reducible refine OwnSt.set_at ?_ HO7.out (by (first | omega | (simp <;> omega))) _ | with_reducible refine OwnSt.alloc1 ?_ _ | with_reducible refine OwnSt.drew1 ?_)); exact OwnSt.le HO7.out (by (first | omega | (simp <;> omega))))
    · exact bxt
  | true =>
  obtain ⟨cf, hcf⟩ := boolOf (0 ≤ f ∧ f ≤ 31)
  have HCF := Lib.hid hcf
  clear hcf
  cases cf with
  | false =>
    obtain ⟨rfl, rfl⟩ : (⟨b.map PBox.box, l, gv⟩ : DStore) = rs ∧ (4 : Int) = rok := by
      have h := H.out
      rw [putD, opD_no (fun h => no_of HCF.out h.2.1)] at h
      exact Prod.mk.inj h
    go_enter Tryz.func37, Tryz.ntmps37
    go_wp2_with (first | (go_at_call 19; refine (specStoreOk_any b ba bc l la lc gv _ (HR.out.ext bxt) (RdM.ext HM.out (show Below w.heap.size w _ from bxt)) (HRL.out.ext bxt) hl HLM.out hll HGN.out HGT.out HGL.out true HSK).mono ?_; rintro e w2 ⟨rfl, hb2⟩; have cp0_0 : w2.cell? ⟨w.heap.size, 0, none⟩ = some (.slice ba b.length bc) := (hb2.cell (p := ⟨w.heap.size, 0, none⟩) smx).trans kpx; have fp0_0 : w2.frozen? ⟨w.heap.size, 0, none⟩ = false := (hb2.frozen (p := ⟨w.heap.size, 0, none⟩) smx).trans kfx; have cp0_1 : w2.cell? ⟨w.heap.size, 1, none⟩ = some (.slice la l.length lc) := (hb2.cell (p := ⟨w.heap.size, 1, none⟩) smx).trans kpx; have fp0_1 : w2.frozen? ⟨w.heap.size, 1, none⟩ = false := (hb2.frozen (p := ⟨w.heap.size, 1, none⟩) smx).trans kfx; have cp0_2 : w2.cell? ⟨w.heap.size, 2, none⟩ = some (.int .i64 gv) := (hb2.cell (p := ⟨w.heap.size, 2, none⟩) smx).trans kpx; have fp0_2 : w2.frozen? ⟨w.heap.size, 2, none⟩ = false := (hb2.frozen (p := ⟨w.heap.size, 2, none⟩) smx).trans kfx; have sp0 : w.heap.size < w2.heap.size := (by have hss := hb2.size; first | omega | (simp at hss; omega)); have cp1_0 : w2.cell? ⟨(w.heap.size + 1), 0, none⟩ = some (.slice none 0 0) := (hb2.cell (p := ⟨(w.heap.size + 1), 0, none⟩) smx).trans kpx; have fp1_0 : w2.frozen? ⟨(w.heap.size + 1), 0, none⟩ = false := (hb2.frozen (p := ⟨(w.heap.size + 1), 0, none⟩) smx).trans kfx; have cp1_1 : w2.cell? ⟨(w.heap.size + 1), 1, none⟩ = some (.slice none 0 0) := (hb2.cell (p := ⟨(w.heap.size + 1), 1, none⟩) smx).trans kpx; have fp1_1 : w2.frozen? ⟨(w.heap.size + 1), 1, none⟩ = false := (hb2.frozen (p := ⟨(w.heap.size + 1), 1, none⟩) smx).trans kfx; have cp1_2 : w2.cell? ⟨(w.heap.size + 1), 2, none⟩ = some (.int .i64 0) := (hb2.cell (p := ⟨(w.heap.size + 1), 2, none⟩) smx).trans kpx; have fp1_2 : w2.frozen? ⟨(w.heap.size + 1), 2, none⟩ = false := (hb2.frozen (p := ⟨(w.heap.size + 1), 2, none⟩) smx).trans kfx; have sp1 : (w.heap.size + 1) < w2.heap.size := (by have hss := hb2.size; first | omega | (simp at hss; omega))) | (go_at_call_of 38 (n); refine (specBoxNamed_any b ba bc n _ (HR.out.ext bxt) z HZ).mono ?_; rintro e wx ⟨rfl, hwx⟩; subst wx) | (go_at_call 101; refine (sFlagsOk_any f _ false HCF).mono ?_; rintro e wx ⟨rfl, hwx⟩; subst wx) | (go_at_call 68; refine (specCopySt_any b ba bc l la lc gv _ (HR.out.ext bxt) (RdM.ext HM.out (show Below w.heap.size w _ from bxt)) (HRL.out.ext bxt) hl HLM.out hll).mono ?_; rintro e w7 ⟨gb7, q7, zs7, g7, q8, rfl, hown7, hzb7, hb7⟩; have HO7 := Lib.hid hown7; have HZ7 := Lib.hid hzb7; clear hown7 hzb7; have cu0_0 : w7.cell? ⟨(w.heap.size + 1), 0, none⟩ = some (.slice none 0 0) := (hb7.cell (p := ⟨(w.heap.size + 1), 0, none⟩) smx).trans kpx; have fu0_0 : w7.frozen? ⟨(w.heap.size + 1), 0, none⟩ = false := (hb7.frozen (p := ⟨(w.heap.size + 1), 0, none⟩) smx).trans kfx; have cu0_1 : w7.cell? ⟨(w.heap.size + 1), 1, none⟩ = some (.slice none 0 0) := (hb7.cell (p := ⟨(w.heap.size + 1), 1, none⟩) smx).trans kpx; have fu0_1 : w7.frozen? ⟨(w.heap.size + 1), 1, none⟩ = false := (hb7.frozen (p := ⟨(w.heap.size + 1), 1, none⟩) smx).trans kfx; have cu0_2 : w7.cell? ⟨(w.heap.size + 1), 2, none⟩ = some (.int .i64 0) := (hb7.cell (p := ⟨(w.heap.size + 1), 2, none⟩) smx).trans kpx; have fu0_2 : w7.frozen? ⟨(w.heap.size + 1), 2, none⟩ = false := (hb7.frozen (p := ⟨(w.heap.size + 1), 2, none⟩) smx).trans kfx; have su0 : (w.heap.size + 1) < w7.heap.size := (by have hss := hb7.size; first | omega | (simp at hss; omega))))
    refine bodyPost_ret (v := .tuple #[.agg #[.slice gb7 zs7.length q7, .slice g7 l.length q8, .int .i64 gv], .int .i64 4]) (by simp [results, Tryz.results37, go_sem, *]) rfl ⟨gb7, q7, zs7, g7, q8, rfl, ?_, HZ7.out, ?_⟩
    · exact (by (repeat' (first | with_reducible refine OwnSt.set_at ?_ HO7.out (by (first | omega | (simp <;> omega))) _ | with_reducible refine OwnSt.alloc1 ?_ _ | with_reducible refine OwnSt.drew1 ?_)); exact OwnSt.le HO7.out (by (first | omega | (simp <;> omega))))
    · exact bxt
  | true =>
  by_cases hq : 40 < t.size
  · have hdq : decide ((40 : Int) < (t.size : Int)) = true := decide_eq_true (by omega)
    have HQ := Lib.hid hq
    obtain ⟨rfl, rfl⟩ : (⟨b.map PBox.box, l, gv⟩ : DStore) = rs ∧ (4 : Int) = rok := by
      have h := H.out
      rw [putD, opD_no (fun h => absurd h.2.2 (Nat.not_le.2 HQ.out))] at h
      exact Prod.mk.inj h
    go_enter Tryz.func37, Tryz.ntmps37
    go_wp2_with (first | (go_at_call 19; refine (specStoreOk_any b ba bc l la lc gv _ (HR.out.ext bxt) (RdM.ext HM.out (show Below w.heap.size w _ from bxt)) (HRL.out.ext bxt) hl HLM.out hll HGN.out HGT.out HGL.out true HSK).mono ?_; rintro e w2 ⟨rfl, hb2⟩; have cp0_0 : w2.cell? ⟨w.heap.size, 0, none⟩ = some (.slice ba b.length bc) := (hb2.cell (p := ⟨w.heap.size, 0, none⟩) smx).trans kpx; have fp0_0 : w2.frozen? ⟨w.heap.size, 0, none⟩ = false := (hb2.frozen (p := ⟨w.heap.size, 0, none⟩) smx).trans kfx; have cp0_1 : w2.cell? ⟨w.heap.size, 1, none⟩ = some (.slice la l.length lc) := (hb2.cell (p := ⟨w.heap.size, 1, none⟩) smx).trans kpx; have fp0_1 : w2.frozen? ⟨w.heap.size, 1, none⟩ = false := (hb2.frozen (p := ⟨w.heap.size, 1, none⟩) smx).trans kfx; have cp0_2 : w2.cell? ⟨w.heap.size, 2, none⟩ = some (.int .i64 gv) := (hb2.cell (p := ⟨w.heap.size, 2, none⟩) smx).trans kpx; have fp0_2 : w2.frozen? ⟨w.heap.size, 2, none⟩ = false := (hb2.frozen (p := ⟨w.heap.size, 2, none⟩) smx).trans kfx; have sp0 : w.heap.size < w2.heap.size := (by have hss := hb2.size; first | omega | (simp at hss; omega)); have cp1_0 : w2.cell? ⟨(w.heap.size + 1), 0, none⟩ = some (.slice none 0 0) := (hb2.cell (p := ⟨(w.heap.size + 1), 0, none⟩) smx).trans kpx; have fp1_0 : w2.frozen? ⟨(w.heap.size + 1), 0, none⟩ = false := (hb2.frozen (p := ⟨(w.heap.size + 1), 0, none⟩) smx).trans kfx; have cp1_1 : w2.cell? ⟨(w.heap.size + 1), 1, none⟩ = some (.slice none 0 0) := (hb2.cell (p := ⟨(w.heap.size + 1), 1, none⟩) smx).trans kpx; have fp1_1 : w2.frozen? ⟨(w.heap.size + 1), 1, none⟩ = false := (hb2.frozen (p := ⟨(w.heap.size + 1), 1, none⟩) smx).trans kfx; have cp1_2 : w2.cell? ⟨(w.heap.size + 1), 2, none⟩ = some (.int .i64 0) := (hb2.cell (p := ⟨(w.heap.size + 1), 2, none⟩) smx).trans kpx; have fp1_2 : w2.frozen? ⟨(w.heap.size + 1), 2, none⟩ = false := (hb2.frozen (p := ⟨(w.heap.size + 1), 2, none⟩) smx).trans kfx; have sp1 : (w.heap.size + 1) < w2.heap.size := (by have hss := hb2.size; first | omega | (simp at hss; omega))) | (go_at_call_of 38 (n); refine (specBoxNamed_any b ba bc n _ (HR.out.ext bxt) z HZ).mono ?_; rintro e wx ⟨rfl, hwx⟩; subst wx) | (go_at_call 101; refine (sFlagsOk_any f _ true HCF).mono ?_; rintro e wx ⟨rfl, hwx⟩; subst wx) | (go_at_call 68; refine (specCopySt_any b ba bc l la lc gv _ (HR.out.ext bxt) (RdM.ext HM.out (show Below w.heap.size w _ from bxt)) (HRL.out.ext bxt) hl HLM.out hll).mono ?_; rintro e w7 ⟨gb7, q7, zs7, g7, q8, rfl, hown7, hzb7, hb7⟩; have HO7 := Lib.hid hown7; have HZ7 := Lib.hid hzb7; clear hown7 hzb7; have cu0_0 : w7.cell? ⟨(w.heap.size + 1), 0, none⟩ = some (.slice none 0 0) := (hb7.cell (p := ⟨(w.heap.size + 1), 0, none⟩) smx).trans kpx; have fu0_0 : w7.frozen? ⟨(w.heap.size + 1), 0, none⟩ = false := (hb7.frozen (p := ⟨(w.heap.size + 1), 0, none⟩) smx).trans kfx; have cu0_1 : w7.cell? ⟨(w.heap.size + 1), 1, none⟩ = some (.slice none 0 0) := (hb7.cell (p := ⟨(w.heap.size + 1), 1, none⟩) smx).trans kpx; have fu0_1 : w7.frozen? ⟨(w.heap.size + 1), 1, none⟩ = false := (hb7.frozen (p := ⟨(w.heap.size + 1), 1, none⟩) smx).trans kfx; have cu0_2 : w7.cell? ⟨(w.heap.size + 1), 2, none⟩ = some (.int .i64 0) := (hb7.cell (p := ⟨(w.heap.size + 1), 2, none⟩) smx).trans kpx; have fu0_2 : w7.frozen? ⟨(w.heap.size + 1), 2, none⟩ = false := (hb7.frozen (p := ⟨(w.heap.size + 1), 2, none⟩) smx).trans kfx; have su0 : (w.heap.size + 1) < w7.heap.size := (by have hss := hb7.size; first | omega | (simp at hss; omega))))
    refine bodyPost_ret (v := .tuple #[.agg #[.slice gb7 zs7.length q7, .slice g7 l.length q8, .int .i64 gv], .int .i64 4]) (by simp [results, Tryz.results37, go_sem, *]) rfl ⟨gb7, q7, zs7, g7, q8, rfl, ?_, HZ7.out, ?_⟩
    · exact (by (repeat' (first | with_reducible refine OwnSt.set_at ?_ HO7.out (by (first | omega | (simp <;> omega))) _ | with_reducible refine OwnSt.alloc1 ?_ _ | with_reducible refine OwnSt.drew1 ?_)); exact OwnSt.le HO7.out (by (first | omega | (simp <;> omega))))
    · exact bxt
  have hdq : decide ((40 : Int) < (t.size : Int)) = false := decide_eq_false (by omega)
  have HB0 : Hid (putB ⟨b.map PBox.box, l, gv⟩ n f t = (rs, rok)) := Lib.hid (by
    have h := H.out
    rwa [putD, opD_yes (yes_of HSK.out) ⟨yes_of HCF.out, Nat.not_lt.1 hq⟩] at h)
  by_cases hs0 : z < 0
  · have hd1 : decide (z < 0) = true := decide_eq_true hs0
    obtain ⟨rfl, rfl⟩ : (⟨b.map PBox.box, l, gv⟩ : DStore) = rs ∧ (1 : Int) = rok := by
      have h := HB0.out
      rw [putB, if_pos (show boxNamed n (b.map PBox.box) < 0 by rw [HZ.out]; exact hs0)] at h
      exact Prod.mk.inj h
    have HS0 := Lib.hid hs0
    clear hs0
    go_enter Tryz.func37, Tryz.ntmps37
    go_wp2_with (first | (go_at_call 19; refine (specStoreOk_any b ba bc l la lc gv _ (HR.out.ext bxt) (RdM.ext HM.out (show Below w.heap.size w _ from bxt)) (HRL.out.ext bxt) hl HLM.out hll HGN.out HGT.out HGL.out true HSK).mono ?_; rintro e w2 ⟨rfl, hb2⟩; have cp0_0 : w2.cell? ⟨w.heap.size, 0, none⟩ = some (.slice ba b.length bc) := (hb2.cell (p := ⟨w.heap.size, 0, none⟩) smx).trans kpx; have fp0_0 : w2.frozen? ⟨w.heap.size, 0, none⟩ = false := (hb2.frozen (p := ⟨w.heap.size, 0, none⟩) smx).trans kfx; have cp0_1 : w2.cell? ⟨w.heap.size, 1, none⟩ = some (.slice la l.length lc) := (hb2.cell (p := ⟨w.heap.size, 1, none⟩) smx).trans kpx; have fp0_1 : w2.frozen? ⟨w.heap.size, 1, none⟩ = false := (hb2.frozen (p := ⟨w.heap.size, 1, none⟩) smx).trans kfx; have cp0_2 : w2.cell? ⟨w.heap.size, 2, none⟩ = some (.int .i64 gv) := (hb2.cell (p := ⟨w.heap.size, 2, none⟩) smx).trans kpx; have fp0_2 : w2.frozen? ⟨w.heap.size, 2, none⟩ = false := (hb2.frozen (p := ⟨w.heap.size, 2, none⟩) smx).trans kfx; have sp0 : w.heap.size < w2.heap.size := (by have hss := hb2.size; first | omega | (simp at hss; omega)); have cp1_0 : w2.cell? ⟨(w.heap.size + 1), 0, none⟩ = some (.slice none 0 0) := (hb2.cell (p := ⟨(w.heap.size + 1), 0, none⟩) smx).trans kpx; have fp1_0 : w2.frozen? ⟨(w.heap.size + 1), 0, none⟩ = false := (hb2.frozen (p := ⟨(w.heap.size + 1), 0, none⟩) smx).trans kfx; have cp1_1 : w2.cell? ⟨(w.heap.size + 1), 1, none⟩ = some (.slice none 0 0) := (hb2.cell (p := ⟨(w.heap.size + 1), 1, none⟩) smx).trans kpx; have fp1_1 : w2.frozen? ⟨(w.heap.size + 1), 1, none⟩ = false := (hb2.frozen (p := ⟨(w.heap.size + 1), 1, none⟩) smx).trans kfx; have cp1_2 : w2.cell? ⟨(w.heap.size + 1), 2, none⟩ = some (.int .i64 0) := (hb2.cell (p := ⟨(w.heap.size + 1), 2, none⟩) smx).trans kpx; have fp1_2 : w2.frozen? ⟨(w.heap.size + 1), 2, none⟩ = false := (hb2.frozen (p := ⟨(w.heap.size + 1), 2, none⟩) smx).trans kfx; have sp1 : (w.heap.size + 1) < w2.heap.size := (by have hss := hb2.size; first | omega | (simp at hss; omega))) | (go_at_call_of 38 (n); refine (specBoxNamed_any b ba bc n _ (HR.out.ext bxt) z HZ).mono ?_; rintro e wx ⟨rfl, hwx⟩; subst wx) | (go_at_call 101; refine (sFlagsOk_any f _ true HCF).mono ?_; rintro e wx ⟨rfl, hwx⟩; subst wx) | (go_at_call 68; refine (specCopySt_any b ba bc l la lc gv _ (HR.out.ext bxt) (RdM.ext HM.out (show Below w.heap.size w _ from bxt)) (HRL.out.ext bxt) hl HLM.out hll).mono ?_; rintro e w7 ⟨gb7, q7, zs7, g7, q8, rfl, hown7, hzb7, hb7⟩; have HO7 := Lib.hid hown7; have HZ7 := Lib.hid hzb7; clear hown7 hzb7; have cu0_0 : w7.cell? ⟨(w.heap.size + 1), 0, none⟩ = some (.slice none 0 0) := (hb7.cell (p := ⟨(w.heap.size + 1), 0, none⟩) smx).trans kpx; have fu0_0 : w7.frozen? ⟨(w.heap.size + 1), 0, none⟩ = false := (hb7.frozen (p := ⟨(w.heap.size + 1), 0, none⟩) smx).trans kfx; have cu0_1 : w7.cell? ⟨(w.heap.size + 1), 1, none⟩ = some (.slice none 0 0) := (hb7.cell (p := ⟨(w.heap.size + 1), 1, none⟩) smx).trans kpx; have fu0_1 : w7.frozen? ⟨(w.heap.size + 1), 1, none⟩ = false := (hb7.frozen (p := ⟨(w.heap.size + 1), 1, none⟩) smx).trans kfx; have cu0_2 : w7.cell? ⟨(w.heap.size + 1), 2, none⟩ = some (.int .i64 0) := (hb7.cell (p := ⟨(w.heap.size + 1), 2, none⟩) smx).trans kpx; have fu0_2 : w7.frozen? ⟨(w.heap.size + 1), 2, none⟩ = false := (hb7.frozen (p := ⟨(w.heap.size + 1), 2, none⟩) smx).trans kfx; have su0 : (w.heap.size + 1) < w7.heap.size := (by have hss := hb7.size; first | omega | (simp at hss; omega))))
    refine bodyPost_ret (v := .tuple #[.agg #[.slice gb7 zs7.length q7, .slice g7 l.length q8, .int .i64 gv], .int .i64 1]) (by simp [results, Tryz.results37, go_sem, *]) rfl ⟨gb7, q7, zs7, g7, q8, rfl, ?_, HZ7.out, ?_⟩
    · exact (by (repeat' (first | with_reducible refine OwnSt.set_at ?_ HO7.out (by (first | omega | (simp <;> omega))) _ | with_reducible refine OwnSt.alloc1 ?_ _ | with_reducible refine OwnSt.drew1 ?_)); exact OwnSt.le HO7.out (by (first | omega | (simp <;> omega))))
    · exact bxt
  have hd1 : decide (z < 0) = false := decide_eq_false hs0
  have hzl : z < (b.length : Int) := by
    have h := (firstI_range (fun y : DBox => decide (y.name = n)) (b.map PBox.box)).2
    rw [List.length_map] at h
    rw [← HZ.out]
    exact h
  obtain ⟨i, hi⟩ : ∃ i : Nat, z = i := ⟨z.toNat, by omega⟩
  subst hi
  have hib : i < b.length := by omega
  have htd : theD (b.map PBox.box) (boxNamed n (b.map PBox.box)).toNat = b[i].box := by rw [HZ.out, Int.toNat_natCast, theD_of (by simpa using hib)]; simp
  have HBODY : Hid (oneD ⟨b.map PBox.box, l, gv⟩ (⟨4, b[i].box.validity, b[i].box.next, f, ⟨#[]⟩, t⟩ : DCommit) = (rs, rok)) := Lib.hid (by
    have h := HB0.out
    rw [putB, if_neg (show ¬ boxNamed n (b.map PBox.box) < 0 by rw [HZ.out]; exact hs0)] at h
    simp only [htd] at h
    exact h)
  have GK9 : Hid (∀ y ∈ [(⟨4, b[i].box.validity, b[i].box.next, f, ⟨#[]⟩, t⟩ : DCommit)], y.name.size ≤ 9223372036854775807 ∧ y.text.size ≤ 9223372036854775807) := Lib.hid (fun y hy => by
    obtain rfl := List.mem_singleton.1 hy
    exact ⟨by first | exact Nat.zero_le _ | exact Nat.le_trans ht (by omega), by first | exact Nat.zero_le _ | exact Nat.le_trans ht (by omega)⟩)
  clear hzl htd
  obtain ⟨ob, oo, rfl, hob, hat⟩ := HR.out.ptr (by omega)
  have HAT := Lib.hid hat
  clear hat
  have i1 : (i : Int) < (b.length : Int) := by omega
  go_enter Tryz.func37, Tryz.ntmps37
  go_wp2_with (first | (go_at_call 19; refine (specStoreOk_any b (some ⟨ob, oo, none⟩) bc l la lc gv _ (HR.out.ext bxt) (RdM.ext HM.out (show Below w.heap.size w _ from bxt)) (HRL.out.ext bxt) hl HLM.out hll HGN.out HGT.out HGL.out true HSK).mono ?_; rintro e w2 ⟨rfl, hb2⟩; have cp0_0 : w2.cell? ⟨w.heap.size, 0, none⟩ = some (.slice (some ⟨ob, oo, none⟩) b.length bc) := (hb2.cell (p := ⟨w.heap.size, 0, none⟩) smx).trans kpx; have fp0_0 : w2.frozen? ⟨w.heap.size, 0, none⟩ = false := (hb2.frozen (p := ⟨w.heap.size, 0, none⟩) smx).trans kfx; have cp0_1 : w2.cell? ⟨w.heap.size, 1, none⟩ = some (.slice la l.length lc) := (hb2.cell (p := ⟨w.heap.size, 1, none⟩) smx).trans kpx; have fp0_1 : w2.frozen? ⟨w.heap.size, 1, none⟩ = false := (hb2.frozen (p := ⟨w.heap.size, 1, none⟩) smx).trans kfx; have cp0_2 : w2.cell? ⟨w.heap.size, 2, none⟩ = some (.int .i64 gv) := (hb2.cell (p := ⟨w.heap.size, 2, none⟩) smx).trans kpx; have fp0_2 : w2.frozen? ⟨w.heap.size, 2, none⟩ = false := (hb2.frozen (p := ⟨w.heap.size, 2, none⟩) smx).trans kfx; have sp0 : w.heap.size < w2.heap.size := (by have hss := hb2.size; first | omega | (simp at hss; omega)); have cp1_0 : w2.cell? ⟨(w.heap.size + 1), 0, none⟩ = some (.slice none 0 0) := (hb2.cell (p := ⟨(w.heap.size + 1), 0, none⟩) smx).trans kpx; have fp1_0 : w2.frozen? ⟨(w.heap.size + 1), 0, none⟩ = false := (hb2.frozen (p := ⟨(w.heap.size + 1), 0, none⟩) smx).trans kfx; have cp1_1 : w2.cell? ⟨(w.heap.size + 1), 1, none⟩ = some (.slice none 0 0) := (hb2.cell (p := ⟨(w.heap.size + 1), 1, none⟩) smx).trans kpx; have fp1_1 : w2.frozen? ⟨(w.heap.size + 1), 1, none⟩ = false := (hb2.frozen (p := ⟨(w.heap.size + 1), 1, none⟩) smx).trans kfx; have cp1_2 : w2.cell? ⟨(w.heap.size + 1), 2, none⟩ = some (.int .i64 0) := (hb2.cell (p := ⟨(w.heap.size + 1), 2, none⟩) smx).trans kpx; have fp1_2 : w2.frozen? ⟨(w.heap.size + 1), 2, none⟩ = false := (hb2.frozen (p := ⟨(w.heap.size + 1), 2, none⟩) smx).trans kfx; have sp1 : (w.heap.size + 1) < w2.heap.size := (by have hss := hb2.size; first | omega | (simp at hss; omega))) | (go_at_call_of 38 (n); refine (specBoxNamed_any b (some ⟨ob, oo, none⟩) bc n _ (HR.out.ext bxt) (i : Int) HZ).mono ?_; rintro e wx ⟨rfl, hwx⟩; subst wx) | (go_at_call 101; refine (sFlagsOk_any f _ true HCF).mono ?_; rintro e wx ⟨rfl, hwx⟩; subst wx))
  go_upto_region 6 with fail
  refine wp_world (fun W hW => ?_)
  have hwW : Ext w W := by (rw [hW]; exact bxt)
  have bx0_0 : W.cell? ⟨w.heap.size, 0, none⟩ = some (.slice (some ⟨ob, oo, none⟩) b.length bc) := by (rw [hW]; exact kpx)
  have bx0_1 : W.cell? ⟨w.heap.size, 1, none⟩ = some (.slice la l.length lc) := by (rw [hW]; exact kpx)
  have bx0_2 : W.cell? ⟨w.heap.size, 2, none⟩ = some (.int .i64 gv) := by (rw [hW]; exact kpx)
  have bx1_0 : W.cell? ⟨(w.heap.size + 1), 0, none⟩ = some (.slice none 0 0) := by (rw [hW]; exact kpx)
  have bx1_1 : W.cell? ⟨(w.heap.size + 1), 1, none⟩ = some (.slice none 0 0) := by (rw [hW]; exact kpx)
  have bx1_2 : W.cell? ⟨(w.heap.size + 1), 2, none⟩ = some (.int .i64 0) := by (rw [hW]; exact kpx)
  have bf1_0 : W.frozen? ⟨(w.heap.size + 1), 0, none⟩ = false := by (rw [hW]; exact kfx)
  have bf1_1 : W.frozen? ⟨(w.heap.size + 1), 1, none⟩ = false := by (rw [hW]; exact kfx)
  have bf1_2 : W.frozen? ⟨(w.heap.size + 1), 2, none⟩ = false := by (rw [hW]; exact kfx)
  have sW : w.heap.size + 2 ≤ W.heap.size := by (rw [hW]; first | omega | (simp <;> omega))
  clear hW
  have sW1 : w.heap.size + 1 < W.heap.size := by omega
  have sW0 : w.heap.size < W.heap.size := by omega
  have sWo : ob < W.heap.size := by omega
  obtain ⟨x0, x1, x2, x3⟩ := PBox.at (HAT.out.ext hob hwW) i hib
  have HCALL : ∀ wx, Below W.heap.size W wx → Rd wx (some ⟨W.heap.size, 0, none⟩) 1 6 1 ([(⟨4, b[i].box.validity, b[i].box.next, f, ⟨#[]⟩, t⟩ : DCommit)].flatMap DCommit.cells) → Calls Tryz.prog 102 #[.agg #[.slice (some ⟨ob, oo, none⟩) b.length bc, .slice la l.length lc, .int .i64 gv], .slice (some ⟨W.heap.size, 0, none⟩) 1 1] wx fun e w9 => ∃ g9 q9 z9 g8 q8, e = .returned (.tuple #[.agg #[.slice g9 z9.length q9, .slice g8 rs.log.length q8, .int .i64 rs.given], .int .i64 rok]) ∧ Hid (OwnSt w9 W.heap.size 49 66 41 g9 q9 z9 g8 q8 rs.log) ∧ Hid (z9.map PBox.box = rs.boxes) ∧ Below W.heap.size W w9 ∧ w9.cell? ⟨(w.heap.size + 1), 0, none⟩ = some (.slice none 0 0) ∧ w9.cell? ⟨(w.heap.size + 1), 1, none⟩ = some (.slice none 0 0) ∧ w9.cell? ⟨(w.heap.size + 1), 2, none⟩ = some (.int .i64 0) ∧ w9.frozen? ⟨(w.heap.size + 1), 0, none⟩ = false ∧ w9.frozen? ⟨(w.heap.size + 1), 1, none⟩ = false ∧ w9.frozen? ⟨(w.heap.size + 1), 2, none⟩ = false ∧ (w.heap.size + 1) < w9.heap.size := fun wx hx hr =>
    (specFull_any b (some ⟨ob, oo, none⟩) bc l la lc gv [(⟨4, b[i].box.validity, b[i].box.next, f, ⟨#[]⟩, t⟩ : DCommit)] _ 1 wx (HR.out.ext (Below.ext hwW hx)) (RdM.ext HM.out (Below.ext hwW hx)) (HRL.out.ext (Below.ext hwW hx)) hl HLM.out hll HGN.out HGT.out HGL.out hr (by simp) GK9.out rs rok (Lib.hid (full_one HBODY.out))).mono fun e w9 ⟨g9, q9, z9, g8, q8, he, ho, hz, hb⟩ => (have hx9 := Below.ext hx hb; ⟨g9, q9, z9, g8, q8, he, Lib.hid (ho.le hx.size), Lib.hid hz, hx9, (hx9.cell (p := ⟨(w.heap.size + 1), 0, none⟩) sW1).trans bx1_0, (hx9.cell (p := ⟨(w.heap.size + 1), 1, none⟩) sW1).trans bx1_1, (hx9.cell (p := ⟨(w.heap.size + 1), 2, none⟩) sW1).trans bx1_2, (hx9.frozen (p := ⟨(w.heap.size + 1), 0, none⟩) sW1).trans bf1_0, (hx9.frozen (p := ⟨(w.heap.size + 1), 1, none⟩) sW1).trans bf1_1, (hx9.frozen (p := ⟨(w.heap.size + 1), 2, none⟩) sW1).trans bf1_2, Nat.lt_of_lt_of_le sW1 hx9.size⟩)
  clear HR HM HRL HLM HGN HGT HGL HSK HZ HB0 HBODY GK9 HAT H
  go_cut [9] (fun v wx => v = .int .i64 rok ∧ RBox 49 66 41 w (w.heap.size + 1) rs wx)
  case first =>
    first
    | go_region_law (first | (go_simp; go_at_call 102; refine (HCALL _ (by exact bxt) (by first | ((with_reducible refine Rd.lit _ #[.int .i64 4, .int .i64 b[i].validity, .int .i64 b[i].next, .int .i64 f, .string ⟨#[]⟩, .string t] _ 1 6 _ ?_ ?_ ?_) <;> first | rfl | simp | decide) | exact (Rd.lit W #[.int .i64 4, .int .i64 b[i].validity, .int .i64 b[i].next, .int .i64 f, .string ⟨#[]⟩, .string t] _ 1 6 W.heap.size rfl rfl (by omega)).ext bxt | exact (Rd.lit W.drew #[.int .i64 4, .int .i64 b[i].validity, .int .i64 b[i].next, .int .i64 f, .string ⟨#[]⟩, .string t] _ 1 6 W.heap.size rfl rfl (by omega)).ext bxt | exact (Rd.lit W.drew.drew #[.int .i64 4, .int .i64 b[i].validity, .int .i64 b[i].next, .int .i64 f, .string ⟨#[]⟩, .string t] _ 1 6 W.heap.size rfl rfl (by omega)).ext bxt)).mono ?_; rintro e w9 ⟨g9, q9, z9, g8, q8, rfl, HO9, HZ9, hb9, cu0_0, cu0_1, cu0_2, fu0_0, fu0_1, fu0_2, su0⟩))
    | fail
    all_goals go_wp2_with fail
    all_goals go_meet
    all_goals exact ⟨rfl, RBox.put HO9.out (by omega) sW1 (by omega) HZ9.out (Below.ext hwW hb9) cu0_0 cu0_1 cu0_2⟩
  case rest =>
    obtain ⟨rfl, g9, q9, z9, g8, q8, e0, e1, e2, hown, hz, hx⟩ := hcut
    go_wp2_with fail
    refine bodyPost_ret (v := .tuple #[.agg #[.slice g9 z9.length q9, .slice g8 rs.log.length q8, .int .i64 rs.given], .int .i64 rok]) (by simp [results, Tryz.results37, go_sem, *]) rfl ⟨g9, q9, z9, g8, q8, rfl, hown, hz, hx⟩
end Go.Proofs.YtjcnhkmhcfmoeaaGreat

namespace Go.Proofs.YtjcnhkmhcfmoeaaGreat
open Go.RowKit
set_option linter.unusedVariables false
set_option linter.unusedSimpArgs false

set_option maxRecDepth 100000 in
set_option maxHeartbeats 8000000 in
theorem append_any (zs : List PBox) (ga : Option Addr) (q : Nat) (l : List DCommit) (la : Option Addr) (lc : Nat) (gv : Int) (G B : Nat) (xn : ByteArray) (xv xx : Int) (xa : Option Addr) (xm xc : Nat) (f : Int) (t : ByteArray) (w : World) (HS : Hid (StB w G B 49 66 41 ga q zs la lc l gv)) (hB : B ≤ w.heap.size) (hm : MaxLen w) (gn : ∀ y ∈ zs, y.name.size ≤ 9223372036854775807) (gt : ∀ y ∈ zs, ∀ m ∈ y.msgs, m.text.size ≤ 9223372036854775807) (ht : t.size ≤ 9223372036854775807) (rs6 : DStore) (rb : Bool) (HCT : Hid (CmtRel (⟨zs.map PBox.box, l, gv⟩ : DStore) (⟨4, xv, xx, f, ⟨#[]⟩, t⟩ : DCommit) rs6 rb)) :
    Calls Tryz.prog 100 #[.pointer (some ⟨G, 0, none⟩), .agg #[.string xn, .int .i64 xv, .int .i64 xx, .slice xa xm xc], .int .i64 f, .string t] w fun e w' => e = .returned (.bool rb) ∧ StTo (fun k => k = G ∨ rowsS ga q zs la lc l.length k) w G B 49 66 41 rs6 w' := by
  have HGN := Lib.hid gn
  have HGT := Lib.hid gt
  have HMX := Lib.hid hm
  clear gn gt hm
  have GM1 : (⟨4, xv, xx, f, ⟨#[]⟩, t⟩ : DCommit).name.size ≤ 9223372036854775807 := Nat.zero_le _
  have GM2 : (⟨4, xv, xx, f, ⟨#[]⟩, t⟩ : DCommit).text.size ≤ 9223372036854775807 := ht
  go_enter Tryz.func100, Tryz.ntmps100
  go_wp2_with (go_at_call 67; refine (commit_any zs ga q l la lc gv G B (⟨4, xv, xx, f, ⟨#[]⟩, t⟩ : DCommit) _ (Lib.hid (StB.ext HS.out (show Ext w _ from bxt))) (Nat.le_trans hB (show Ext w _ from bxt).size) (HMX.out.ext bxt) HGN.out HGT.out GM1 GM2 rs6 rb HCT).mono ?_; rintro e w6 ⟨rfl, hst6⟩; have HST := Lib.hid (StTo.pre (show Ext w _ from bxt) hst6); clear hst6)
  go_ret
  exact ⟨rfl, HST.out⟩

set_option maxRecDepth 100000 in
set_option maxHeartbeats 8000000 in
theorem clPut_any (zs : List PBox) (ga : Option Addr) (q : Nat) (l : List DCommit) (la : Option Addr) (lc : Nat) (gv : Int) (G B : Nat) (n : ByteArray) (f : Int) (t : ByteArray) (nb fb tb : Nat) (w : World) (HS : Hid (StB w G B 49 66 41 ga q zs la lc l gv)) (hB : B ≤ w.heap.size) (hm : MaxLen w) (gn : ∀ y ∈ zs, y.name.size ≤ 9223372036854775807) (gt : ∀ y ∈ zs, ∀ m ∈ y.msgs, m.text.size ≤ 9223372036854775807) (hn : n.size ≤ 9223372036854775807) (ht : t.size ≤ 9223372036854775807) (hnb : nb < w.heap.size) (cn : w.cell? ⟨nb, 0, none⟩ = some (.string n)) (hfb : fb < w.heap.size) (cf : w.cell? ⟨fb, 0, none⟩ = some (.int .i64 f)) (htb : tb < w.heap.size) (ct : w.cell? ⟨tb, 0, none⟩ = some (.string t)) :
    Calls Tryz.prog 98 #[.pointer (some ⟨G, 0, none⟩), .pointer (some ⟨nb, 0, none⟩), .pointer (some ⟨fb, 0, none⟩), .pointer (some ⟨tb, 0, none⟩)] w fun e w' => ∃ r2 c, e = .returned (.int .i64 c) ∧ StTo (fun k => k = G ∨ rowsS ga q zs la lc l.length k) w G B 49 66 41 r2 w' ∧ putB (⟨zs.map PBox.box, l, gv⟩ : DStore) n f t = (if c = 0 then r2 else (⟨zs.map PBox.box, l, gv⟩ : DStore), c) := by
  have HGN := Lib.hid gn
  have HGT := Lib.hid gt
  have HMX := Lib.hid hm
  clear gn gt hm
  obtain ⟨z, hz⟩ : ∃ z, boxNamed n (zs.map PBox.box) = z := ⟨_, rfl⟩
  have HZ := Lib.hid hz
  clear hz
  have hG := HS.out.lt
  have q0 := fun y : ExtW w => (y.h.cell (p := ⟨G, 0, none⟩) hG).trans HS.out.c0
  have q1 := fun y : ExtW w => (y.h.cell (p := ⟨nb, 0, none⟩) hnb).trans cn
  go_enter Tryz.func98, Tryz.ntmps98
  go_wp2_with fail
  refine wp_region_ext (by kernel_rfl) (by kernel_rfl) ?_
  repeat (go_big_quiet_step ((go_at_call 56; refine (implBoxNamed_any zs ga q n _ (HS.out.own.box.rd.ext (ExtW.of (Below.refl _ _) _)) z HZ).mono ?_; rintro e w4 ⟨rfl, hb4⟩; exact ⟨rfl, ExtW.on _ hb4⟩)))
  refine wpQuiet_nil ?_
  rintro w3 ⟨⟨w3x, hw3⟩, hx3⟩
  have hx3' : w3 = w3x := hx3
  subst hx3'
  clear hx3 q0 q1
  have k1 : w3.cell? ⟨nb, 0, none⟩ = some (.string n) := (hw3.cell (p := ⟨nb, 0, none⟩) hnb).trans cn
  have k2 : w3.cell? ⟨fb, 0, none⟩ = some (.int .i64 f) := (hw3.cell (p := ⟨fb, 0, none⟩) hfb).trans cf
  have k3 : w3.cell? ⟨tb, 0, none⟩ = some (.string t) := (hw3.cell (p := ⟨tb, 0, none⟩) htb).trans ct
  by_cases hs0 : z < 0
  · have hd1 : decide (z < 0) = true := decide_eq_true hs0
    have HS0 := Lib.hid hs0
    clear hs0
    go_wp2_with fail
    go_ret
    exact ⟨(⟨zs.map PBox.box, l, gv⟩ : DStore), 1, rfl, HS.out.same hw3, by (rw [putB, if_pos (show boxNamed n (zs.map PBox.box) < 0 by rw [HZ.out]; (have h9 := HS0.out; omega))]; rfl)⟩
  have hd1 : decide (z < 0) = false := decide_eq_false hs0
  have HS0 := Lib.hid hs0
  clear hs0
  have hzl : z < (zs.length : Int) := by
    have h := (firstI_range (fun y : DBox => decide (y.name = n)) (zs.map PBox.box)).2
    rw [List.length_map] at h
    rw [← HZ.out]
    exact h
  have hz0 : 0 ≤ z := (by have h9 := HS0.out; omega)
  obtain ⟨i, hi⟩ : ∃ i : Nat, z = i := ⟨z.toNat, by omega⟩
  subst hi
  have hib : i < zs.length := by omega
  have htd : theD (zs.map PBox.box) (boxNamed n (zs.map PBox.box)).toNat = zs[i].box := by rw [HZ.out, Int.toNat_natCast, theD_of (by simpa using hib)]; simp
  have HB : Hid (putB (⟨zs.map PBox.box, l, gv⟩ : DStore) n f t = oneD (⟨zs.map PBox.box, l, gv⟩ : DStore) (⟨4, zs[i].box.validity, zs[i].box.next, f, ⟨#[]⟩, t⟩ : DCommit)) := Lib.hid (by (rw [putB, if_neg (show ¬ boxNamed n (zs.map PBox.box) < 0 by rw [HZ.out]; (have h9 := HS0.out; omega))]; simp only [htd]))
  clear hzl htd
  obtain ⟨ob, oo, rfl, hob, hat⟩ := (HS.out.own.box.rd.ext hw3).ptr (by omega)
  have i1 : (i : Int) < (zs.length : Int) := by omega
  obtain ⟨x0, x1, x2, x3⟩ := PBox.at hat i hib
  have HAT := Lib.hid hat
  clear hat
  have k0 : w3.cell? ⟨G, 0, none⟩ = some (.slice (some ⟨ob, oo, none⟩) zs.length q) := (hw3.cell (p := ⟨G, 0, none⟩) hG).trans HS.out.c0
  obtain ⟨rb, hrb⟩ := boolOf (ComP (⟨zs.map PBox.box, l, gv⟩ : DStore) (⟨4, zs[i].box.validity, zs[i].box.next, f, ⟨#[]⟩, t⟩ : DCommit))
  obtain ⟨rs6, hrs6⟩ : ∃ x, (if rb then comD (⟨zs.map PBox.box, l, gv⟩ : DStore) (⟨4, zs[i].box.validity, zs[i].box.next, f, ⟨#[]⟩, t⟩ : DCommit) else (⟨zs.map PBox.box, l, gv⟩ : DStore)) = x := ⟨_, rfl⟩
  have HCT : Hid (CmtRel (⟨zs.map PBox.box, l, gv⟩ : DStore) (⟨4, zs[i].box.validity, zs[i].box.next, f, ⟨#[]⟩, t⟩ : DCommit) rs6 rb) := Lib.hid ⟨hrb, hrs6⟩
  obtain ⟨c6, hc6⟩ : ∃ c, (if rb then (0 : Int) else 2) = c := ⟨_, rfl⟩
  have HC6 := Lib.hid hc6
  clear hrb hrs6 hc6
  go_wp2_with fail
  first
  | go_region_law (first | (go_simp; (go_at_call 100; refine (append_any zs (some ⟨ob, oo, none⟩) q l la lc gv G B zs[i].name zs[i].validity zs[i].next zs[i].ma zs[i].msgs.length zs[i].mc f t _ (Lib.hid (StB.ext HS.out (show Ext w _ from bxt))) (Nat.le_trans hB (show Ext w _ from bxt).size) (HMX.out.ext bxt) HGN.out HGT.out ht rs6 rb HCT).mono ?_; rintro e w6 ⟨rfl, hst6⟩; have HST := Lib.hid (StTo.pre (show Ext w _ from bxt) hst6); clear hst6)) | (go_simp; (go_at_call 99; refine (fullUnless_any rb c6 _ HC6).mono ?_; rintro e wx ⟨rfl, hwx⟩; subst wx)))
  | fail
  all_goals go_wp2_with fail
  all_goals go_ret
  all_goals exact ⟨rs6, c6, rfl, HST.out, by rw [HB.out, one_cr HCT.out, HC6.out]⟩
end Go.Proofs.YtjcnhkmhcfmoeaaGreat

namespace Go.Proofs.YtjcnhkmhcfmoeaaGreat
open Go.RowKit
set_option linter.unusedVariables false
set_option linter.unusedSimpArgs false

set_option maxRecDepth 100000 in
theorem chPut_any (b : List PBox) (ba : Option Addr) (bc : Nat) (l : List DCommit) (la : Option Addr) (lc : Nat) (gv : Int) (n : ByteArray) (f : Int) (t : ByteArray) (nb fb tb : Nat) (w : World) (R : Rd w ba bc 4 b.length (b.flatMap PBox.cells)) (M : RdM w b) (RL : Rd w la lc 6 l.length (l.flatMap DCommit.cells)) (hl : b.length ≤ 1048576) (hlm : ∀ y ∈ b, y.msgs.length ≤ 1048576) (hll : l.length ≤ 1048576) (gn : ∀ y ∈ b, y.name.size ≤ 9223372036854775807) (gt : ∀ y ∈ b, ∀ m ∈ y.msgs, m.text.size ≤ 9223372036854775807) (gl : ∀ y ∈ l, y.name.size ≤ 9223372036854775807 ∧ y.text.size ≤ 9223372036854775807) (hm : MaxLen w) (ok : Bool) (HSK : Hid (Tells ok (StoreP ⟨b.map PBox.box, l, gv⟩))) (code : Int) (X : World) (hwX : Ext w X) (hn : n.size ≤ 9223372036854775807) (ht : t.size ≤ 9223372036854775807) (hnb : nb < X.heap.size) (cn : X.cell? ⟨nb, 0, none⟩ = some (.string n)) (hfb : fb < X.heap.size) (cf : X.cell? ⟨fb, 0, none⟩ = some (.int .i64 f)) (htb : tb < X.heap.size) (ct : X.cell? ⟨tb, 0, none⟩ = some (.string t)) :
    Calls Tryz.prog 95 #[.agg #[.slice ba b.length bc, .slice la l.length lc, .int .i64 gv], .int .i64 code, .func (.func 98) #[] #[.pointer (some ⟨nb, 0, none⟩), .pointer (some ⟨fb, 0, none⟩), .pointer (some ⟨tb, 0, none⟩)]] X fun e w' => ∃ g q zs g2 q2 rs rc, e = .returned (.tuple #[.agg #[.slice g zs.length q, .slice g2 rs.log.length q2, .int .i64 rs.given], .int .i64 rc]) ∧ OwnSt w' X.heap.size 49 66 41 g q zs g2 q2 rs.log ∧ zs.map PBox.box = rs.boxes ∧ Ext X w' ∧ ChRel ⟨b.map PBox.box, l, gv⟩ ok code (fun r2 c => putB ⟨b.map PBox.box, l, gv⟩ n f t = (if c = 0 then r2 else ⟨b.map PBox.box, l, gv⟩, c)) rs rc :=
  change_any b ba bc l la lc gv code 98 #[.pointer (some ⟨nb, 0, none⟩), .pointer (some ⟨fb, 0, none⟩), .pointer (some ⟨tb, 0, none⟩)] (fun r2 c => putB ⟨b.map PBox.box, l, gv⟩ n f t = (if c = 0 then r2 else ⟨b.map PBox.box, l, gv⟩, c)) X (R.ext hwX) (M.ext hwX) (RL.ext hwX) hl hlm hll gn gt gl (hm.ext hwX) ok HSK (callFunc_in Tryz.func98 (by kernel_rfl) (by kernel_rfl)) (fun wx G B zs ga q la2 lc2 hx HS hwB hBx hwG hz hst hc0 => (clPut_any zs ga q l la2 lc2 gv G B n f t nb fb tb wx HS hBx ((hm.ext hwX).ext hx) (box_names hz.out gn) (box_texts hz.out gt) hn ht (Nat.lt_of_lt_of_le hnb hx.size) ((hx.cell (p := ⟨nb, 0, none⟩) hnb).trans cn) (Nat.lt_of_lt_of_le hfb hx.size) ((hx.cell (p := ⟨fb, 0, none⟩) hfb).trans cf) (Nat.lt_of_lt_of_le htb hx.size) ((hx.cell (p := ⟨tb, 0, none⟩) htb).trans ct)).mono fun e w' ⟨r2, c, he, hs, hm⟩ => ⟨r2, c, he, hs, by rw [hz.out] at hm; exact hm⟩)
end Go.Proofs.YtjcnhkmhcfmoeaaGreat

namespace Go.Proofs.YtjcnhkmhcfmoeaaGreat
open Go.RowKit
set_option linter.unusedVariables false
set_option linter.unusedSimpArgs false

set_option maxRecDepth 100000 in
set_option maxHeartbeats 8000000 in
theorem implPutMsg_no (b : List PBox) (ba : Option Addr) (bc : Nat) (l : List DCommit) (la : Option Addr) (lc : Nat) (gv : Int) (n : ByteArray) (f : Int) (t : ByteArray) (w : World) (R : Rd w ba bc 4 b.length (b.flatMap PBox.cells)) (M : RdM w b) (RL : Rd w la lc 6 l.length (l.flatMap DCommit.cells)) (hl : b.length ≤ 1048576) (hlm : ∀ y ∈ b, y.msgs.length ≤ 1048576) (hll : l.length ≤ 1048576) (gn : ∀ y ∈ b, y.name.size ≤ 9223372036854775807) (gt : ∀ y ∈ b, ∀ m ∈ y.msgs, m.text.size ≤ 9223372036854775807) (gl : ∀ y ∈ l, y.name.size ≤ 9223372036854775807 ∧ y.text.size ≤ 9223372036854775807) (hn : n.size ≤ 1048576) (ht : t.size ≤ 1048576) (hm : MaxLen w) (HCF : Hid (Tells false (0 ≤ f ∧ f ≤ 31))) (rs : DStore) (rok : Int) (H : Hid (putD ⟨b.map PBox.box, l, gv⟩ n f t = (rs, rok))) :
    Calls Tryz.prog 36 #[.agg #[.slice ba b.length bc, .slice la l.length lc, .int .i64 gv], .string n, .int .i64 f, .string t] w fun e w' => ∃ g q zs g2 q2, e = .returned (.tuple #[.agg #[.slice g zs.length q, .slice g2 rs.log.length q2, .int .i64 rs.given], .int .i64 rok]) ∧ OwnSt w' w.heap.size 49 66 41 g q zs g2 q2 rs.log ∧ zs.map PBox.box = rs.boxes ∧ Ext w w' := by
  have HR := Lib.hid R
  have HM := Lib.hid M
  have HRL := Lib.hid RL
  have HLM := Lib.hid hlm
  have HGN := Lib.hid gn
  have HGT := Lib.hid gt
  have HGL := Lib.hid gl
  clear R M RL hlm gn gt gl
  have HMX := Lib.hid hm
  clear hm
  obtain ⟨ok, hok⟩ := boolOf (StoreP ⟨b.map PBox.box, l, gv⟩)
  have HSK := Lib.hid hok
  clear hok
  go_enter Tryz.func36, Tryz.ntmps36
  go_wp2_with fail
  refine wp_world (fun W hW => ?_)
  have hwW : Ext w W := by (rw [hW]; exact bxt)
  have bx0_0 : W.cell? ⟨w.heap.size, 0, none⟩ = some (.slice ba b.length bc) := by (rw [hW]; simp [go_sem])
  have bx0_1 : W.cell? ⟨w.heap.size, 1, none⟩ = some (.slice la l.length lc) := by (rw [hW]; simp [go_sem])
  have bx0_2 : W.cell? ⟨w.heap.size, 2, none⟩ = some (.int .i64 gv) := by (rw [hW]; simp [go_sem])
  have bx1_0 : W.cell? ⟨(w.heap.size + 1), 0, none⟩ = some (.string n) := by (rw [hW]; simp [go_sem])
  have bx2_0 : W.cell? ⟨(w.heap.size + 2), 0, none⟩ = some (.int .i64 f) := by (rw [hW]; simp [go_sem])
  have bx3_0 : W.cell? ⟨(w.heap.size + 3), 0, none⟩ = some (.string t) := by (rw [hW]; simp [go_sem])
  have bx4_0 : W.cell? ⟨(w.heap.size + 4), 0, none⟩ = some (.slice none 0 0) := by (rw [hW]; simp [go_sem])
  have bx4_1 : W.cell? ⟨(w.heap.size + 4), 1, none⟩ = some (.slice none 0 0) := by (rw [hW]; simp [go_sem])
  have bx4_2 : W.cell? ⟨(w.heap.size + 4), 2, none⟩ = some (.int .i64 0) := by (rw [hW]; simp [go_sem])
  have bf4_0 : W.frozen? ⟨(w.heap.size + 4), 0, none⟩ = false := by (rw [hW]; simp [go_sem])
  have bf4_1 : W.frozen? ⟨(w.heap.size + 4), 1, none⟩ = false := by (rw [hW]; simp [go_sem])
  have bf4_2 : W.frozen? ⟨(w.heap.size + 4), 2, none⟩ = false := by (rw [hW]; simp [go_sem])
  have sW : W.heap.size = w.heap.size + 5 := by (rw [hW]; simp)
  clear hW
  go_cut [9] (fun v wx => v = .int .i64 rok ∧ RBox 49 66 41 w (w.heap.size + 4) rs wx)
  case first =>
    first
    | go_region_law (first | (go_simp; go_at_call 97; refine (flagsOk_any f _ false HCF).mono ?_; rintro e wx ⟨rfl, hwx⟩; subst wx) | (go_simp; go_at_call 96; refine (wrongIf_any true 4 _ (Lib.hid rfl)).mono ?_; rintro e wx ⟨rfl, hwx⟩; subst wx) | (go_simp; go_at_call 95; refine (chPut_any b ba bc l la lc gv n f t (w.heap.size + 1) (w.heap.size + 2) (w.heap.size + 3) w HR.out HM.out HRL.out hl HLM.out hll HGN.out HGT.out HGL.out HMX.out ok HSK 4 _ bxt (by omega) (by omega) (Nat.lt_of_lt_of_le (show (w.heap.size + 1) < W.heap.size by omega) (show Below W.heap.size W _ from bxt).size) (((show Below W.heap.size W _ from bxt).cell (p := ⟨(w.heap.size + 1), 0, none⟩) (show (w.heap.size + 1) < W.heap.size by omega)).trans bx1_0) (Nat.lt_of_lt_of_le (show (w.heap.size + 2) < W.heap.size by omega) (show Below W.heap.size W _ from bxt).size) (((show Below W.heap.size W _ from bxt).cell (p := ⟨(w.heap.size + 2), 0, none⟩) (show (w.heap.size + 2) < W.heap.size by omega)).trans bx2_0) (Nat.lt_of_lt_of_le (show (w.heap.size + 3) < W.heap.size by omega) (show Below W.heap.size W _ from bxt).size) (((show Below W.heap.size W _ from bxt).cell (p := ⟨(w.heap.size + 3), 0, none⟩) (show (w.heap.size + 3) < W.heap.size by omega)).trans bx3_0)).mono ?_; rintro e w9 ⟨g9, q9, z9, g8, q8, rs9, rc9, rfl, hown9, hzb9, hb9, hch9⟩; have HO9 := Lib.hid hown9; have HZ9 := Lib.hid hzb9; have HC9 := Lib.hid hch9; clear hown9 hzb9 hch9; have cu0_0 : w9.cell? ⟨(w.heap.size + 4), 0, none⟩ = some (.slice none 0 0) := (hb9.cell (p := ⟨(w.heap.size + 4), 0, none⟩) smx).trans kpx; have fu0_0 : w9.frozen? ⟨(w.heap.size + 4), 0, none⟩ = false := (hb9.frozen (p := ⟨(w.heap.size + 4), 0, none⟩) smx).trans kfx; have cu0_1 : w9.cell? ⟨(w.heap.size + 4), 1, none⟩ = some (.slice none 0 0) := (hb9.cell (p := ⟨(w.heap.size + 4), 1, none⟩) smx).trans kpx; have fu0_1 : w9.frozen? ⟨(w.heap.size + 4), 1, none⟩ = false := (hb9.frozen (p := ⟨(w.heap.size + 4), 1, none⟩) smx).trans kfx; have cu0_2 : w9.cell? ⟨(w.heap.size + 4), 2, none⟩ = some (.int .i64 0) := (hb9.cell (p := ⟨(w.heap.size + 4), 2, none⟩) smx).trans kpx; have fu0_2 : w9.frozen? ⟨(w.heap.size + 4), 2, none⟩ = false := (hb9.frozen (p := ⟨(w.heap.size + 4), 2, none⟩) smx).trans kfx; have su0 : (w.heap.size + 4) < w9.heap.size := (by have hss := hb9.size; first | omega | (simp at hss; omega))))
    | fail
    all_goals go_wp2_with fail
    all_goals go_meet
    all_goals obtain ⟨rfl, rfl⟩ : rs9 = rs ∧ rc9 = rok := Prod.mk.inj ((ch_op HC9.out HSK.out (fun h => absurd h.1 (no_of HCF.out)) (fun _ => rfl)).symm.trans H.out)
    all_goals exact ⟨rfl, RBox.put HO9.out (by exact (Below.ext hwW (show Below W.heap.size W _ from bxt)).size) (by exact (Nat.lt_of_lt_of_le (show (w.heap.size + 4) < W.heap.size by omega) (show Below W.heap.size W _ from bxt).size)) (by omega) HZ9.out (Below.ext hwW (by exact bxt)) cu0_0 cu0_1 cu0_2⟩
  case rest =>
    obtain ⟨rfl, g9, q9, z9, g8, q8, e0, e1, e2, hown, hz, hx⟩ := hcut
    go_wp2_with fail
    refine bodyPost_ret (v := .tuple #[.agg #[.slice g9 z9.length q9, .slice g8 rs.log.length q8, .int .i64 rs.given], .int .i64 rok]) (by simp [results, Tryz.results36, go_sem, *]) rfl ⟨g9, q9, z9, g8, q8, rfl, hown, hz, hx⟩
end Go.Proofs.YtjcnhkmhcfmoeaaGreat

namespace Go.Proofs.YtjcnhkmhcfmoeaaGreat
open Go.RowKit
set_option linter.unusedVariables false
set_option linter.unusedSimpArgs false

set_option maxRecDepth 100000 in
set_option maxHeartbeats 8000000 in
theorem implPutMsg_law (b : List PBox) (ba : Option Addr) (bc : Nat) (l : List DCommit) (la : Option Addr) (lc : Nat) (gv : Int) (n : ByteArray) (f : Int) (t : ByteArray) (w : World) (R : Rd w ba bc 4 b.length (b.flatMap PBox.cells)) (M : RdM w b) (RL : Rd w la lc 6 l.length (l.flatMap DCommit.cells)) (hl : b.length ≤ 1048576) (hlm : ∀ y ∈ b, y.msgs.length ≤ 1048576) (hll : l.length ≤ 1048576) (gn : ∀ y ∈ b, y.name.size ≤ 9223372036854775807) (gt : ∀ y ∈ b, ∀ m ∈ y.msgs, m.text.size ≤ 9223372036854775807) (gl : ∀ y ∈ l, y.name.size ≤ 9223372036854775807 ∧ y.text.size ≤ 9223372036854775807) (hn : n.size ≤ 1048576) (ht : t.size ≤ 1048576) (hm : MaxLen w) (rs : DStore) (rok : Int) (H : Hid (putD ⟨b.map PBox.box, l, gv⟩ n f t = (rs, rok))) :
    Calls Tryz.prog 36 #[.agg #[.slice ba b.length bc, .slice la l.length lc, .int .i64 gv], .string n, .int .i64 f, .string t] w fun e w' => ∃ g q zs g2 q2, e = .returned (.tuple #[.agg #[.slice g zs.length q, .slice g2 rs.log.length q2, .int .i64 rs.given], .int .i64 rok]) ∧ OwnSt w' w.heap.size 49 66 41 g q zs g2 q2 rs.log ∧ zs.map PBox.box = rs.boxes ∧ Ext w w' := by
  have HR := Lib.hid R
  have HM := Lib.hid M
  have HRL := Lib.hid RL
  have HLM := Lib.hid hlm
  have HGN := Lib.hid gn
  have HGT := Lib.hid gt
  have HGL := Lib.hid gl
  clear R M RL hlm gn gt gl
  have HMX := Lib.hid hm
  clear hm
  obtain ⟨ok, hok⟩ := boolOf (StoreP ⟨b.map PBox.box, l, gv⟩)
  have HSK := Lib.hid hok
  clear hok
  obtain ⟨cf, hcf⟩ := boolOf (0 ≤ f ∧ f ≤ 31)
  have HCF := Lib.hid hcf
  clear hcf
  cases cf with
  | false =>
    exact implPutMsg_no b ba bc l la lc gv n f t w HR.out HM.out HRL.out hl HLM.out hll HGN.out HGT.out HGL.out hn ht HMX.out HCF rs rok H
  | true =>
  by_cases hq : 40 < t.size
  · have hdq : decide ((40 : Int) < (t.size : Int)) = true := decide_eq_true (by omega)
    have HQ := Lib.hid hq
    clear hq
    go_enter Tryz.func36, Tryz.ntmps36
    go_wp2_with fail
    refine wp_world (fun W hW => ?_)
    have hwW : Ext w W := by (rw [hW]; exact bxt)
    have bx0_0 : W.cell? ⟨w.heap.size, 0, none⟩ = some (.slice ba b.length bc) := by (rw [hW]; simp [go_sem])
    have bx0_1 : W.cell? ⟨w.heap.size, 1, none⟩ = some (.slice la l.length lc) := by (rw [hW]; simp [go_sem])
    have bx0_2 : W.cell? ⟨w.heap.size, 2, none⟩ = some (.int .i64 gv) := by (rw [hW]; simp [go_sem])
    have bx1_0 : W.cell? ⟨(w.heap.size + 1), 0, none⟩ = some (.string n) := by (rw [hW]; simp [go_sem])
    have bx2_0 : W.cell? ⟨(w.heap.size + 2), 0, none⟩ = some (.int .i64 f) := by (rw [hW]; simp [go_sem])
    have bx3_0 : W.cell? ⟨(w.heap.size + 3), 0, none⟩ = some (.string t) := by (rw [hW]; simp [go_sem])
    have bx4_0 : W.cell? ⟨(w.heap.size + 4), 0, none⟩ = some (.slice none 0 0) := by (rw [hW]; simp [go_sem])
    have bx4_1 : W.cell? ⟨(w.heap.size + 4), 1, none⟩ = some (.slice none 0 0) := by (rw [hW]; simp [go_sem])
    have bx4_2 : W.cell? ⟨(w.heap.size + 4), 2, none⟩ = some (.int .i64 0) := by (rw [hW]; simp [go_sem])
    have bf4_0 : W.frozen? ⟨(w.heap.size + 4), 0, none⟩ = false := by (rw [hW]; simp [go_sem])
    have bf4_1 : W.frozen? ⟨(w.heap.size + 4), 1, none⟩ = false := by (rw [hW]; simp [go_sem])
    have bf4_2 : W.frozen? ⟨(w.heap.size + 4), 2, none⟩ = false := by (rw [hW]; simp [go_sem])
    have sW : W.heap.size = w.heap.size + 5 := by (rw [hW]; simp)
    clear hW
    first
    | go_region_held3 (fun w' => Below (w.heap.size + 4) W w' ∧ (∀ b o, b < w.heap.size + 4 → w'.cell? ⟨b, o, none⟩ = W.cell? ⟨b, o, none⟩)) ((refine iMkN ?_; exact (by repeat' (first | with_reducible exact Below.refl _ _ | with_reducible assumption | with_reducible refine Below.alloc ?_ ?_ _ | with_reducible refine Below.setCell ?_ ?_ _ | with_reducible refine Below.drew ?_ | with_reducible refine Below.extB ?_ (by assumption) ?_ | (simp <;> omega) | omega)))) ((first | (go_at_call 97; refine (flagsOk_any f _ true HCF).mono ?_; rintro e wx ⟨rfl, hwx⟩; subst wx) | (go_at_call 96; refine (wrongIf_any true 4 _ (Lib.hid rfl)).mono ?_; rintro e wx ⟨rfl, hwx⟩; subst wx) | (go_at_call 95; refine (chPut_any b ba bc l la lc gv n f t (w.heap.size + 1) (w.heap.size + 2) (w.heap.size + 3) w HR.out HM.out HRL.out hl HLM.out hll HGN.out HGT.out HGL.out HMX.out ok HSK 4 _ bxt (by omega) (by omega) (Nat.lt_of_lt_of_le (show (w.heap.size + 1) < W.heap.size by omega) (show Below W.heap.size W _ from bxt).size) (((show Below W.heap.size W _ from bxt).cell (p := ⟨(w.heap.size + 1), 0, none⟩) (show (w.heap.size + 1) < W.heap.size by omega)).trans bx1_0) (Nat.lt_of_lt_of_le (show (w.heap.size + 2) < W.heap.size by omega) (show Below W.heap.size W _ from bxt).size) (((show Below W.heap.size W _ from bxt).cell (p := ⟨(w.heap.size + 2), 0, none⟩) (show (w.heap.size + 2) < W.heap.size by omega)).trans bx2_0) (Nat.lt_of_lt_of_le (show (w.heap.size + 3) < W.heap.size by omega) (show Below W.heap.size W _ from bxt).size) (((show Below W.heap.size W _ from bxt).cell (p := ⟨(w.heap.size + 3), 0, none⟩) (show (w.heap.size + 3) < W.heap.size by omega)).trans bx3_0)).mono ?_; rintro e w9 ⟨g9, q9, z9, g8, q8, rs9, rc9, rfl, hown9, hzb9, hb9, hch9⟩; have HO9 := Lib.hid hown9; have HZ9 := Lib.hid hzb9; have HC9 := Lib.hid hch9; clear hown9 hzb9 hch9; have cu0_0 : w9.cell? ⟨(w.heap.size + 4), 0, none⟩ = some (.slice none 0 0) := (hb9.cell (p := ⟨(w.heap.size + 4), 0, none⟩) smx).trans kpx; have fu0_0 : w9.frozen? ⟨(w.heap.size + 4), 0, none⟩ = false := (hb9.frozen (p := ⟨(w.heap.size + 4), 0, none⟩) smx).trans kfx; have cu0_1 : w9.cell? ⟨(w.heap.size + 4), 1, none⟩ = some (.slice none 0 0) := (hb9.cell (p := ⟨(w.heap.size + 4), 1, none⟩) smx).trans kpx; have fu0_1 : w9.frozen? ⟨(w.heap.size + 4), 1, none⟩ = false := (hb9.frozen (p := ⟨(w.heap.size + 4), 1, none⟩) smx).trans kfx; have cu0_2 : w9.cell? ⟨(w.heap.size + 4), 2, none⟩ = some (.int .i64 0) := (hb9.cell (p := ⟨(w.heap.size + 4), 2, none⟩) smx).trans kpx; have fu0_2 : w9.frozen? ⟨(w.heap.size + 4), 2, none⟩ = false := (hb9.frozen (p := ⟨(w.heap.size + 4), 2, none⟩) smx).trans kfx; have su0 : (w.heap.size + 4) < w9.heap.size := (by have hss := hb9.size; first | omega | (simp at hss; omega)))))
    | fail
    all_goals go_wp2_with fail
    all_goals obtain ⟨rfl, rfl⟩ : rs9 = rs ∧ rc9 = rok := Prod.mk.inj ((ch_op HC9.out HSK.out (fun h => absurd h.2 (Nat.not_le.2 HQ.out)) (fun _ => rfl)).symm.trans H.out)
    all_goals refine bodyPost_ret (v := .tuple #[.agg #[.slice g9 z9.length q9, .slice g8 rs9.log.length q8, .int .i64 rs9.given], .int .i64 rc9]) (by simp [results, Tryz.results36, go_sem, *]) rfl ⟨g9, q9, z9, g8, q8, rfl, ?_, HZ9.out, ?_⟩
    all_goals first | exact bxt | exact (by (repeat' (first | with_reducible refine OwnSt.set_at ?_ HO9.out (by (first | omega | (simp <;> omega))) _ | with_reducible refine OwnSt.alloc1 ?_ _ | with_reducible refine OwnSt.drew1 ?_)); exact OwnSt.le HO9.out (by (first | omega | (simp <;> omega))))
  · have hdq : decide ((40 : Int) < (t.size : Int)) = false := decide_eq_false (by omega)
    have HQ := Lib.hid hq
    clear hq
    go_enter Tryz.func36, Tryz.ntmps36
    go_wp2_with fail
    refine wp_world (fun W hW => ?_)
    have hwW : Ext w W := by (rw [hW]; exact bxt)
    have bx0_0 : W.cell? ⟨w.heap.size, 0, none⟩ = some (.slice ba b.length bc) := by (rw [hW]; simp [go_sem])
    have bx0_1 : W.cell? ⟨w.heap.size, 1, none⟩ = some (.slice la l.length lc) := by (rw [hW]; simp [go_sem])
    have bx0_2 : W.cell? ⟨w.heap.size, 2, none⟩ = some (.int .i64 gv) := by (rw [hW]; simp [go_sem])
    have bx1_0 : W.cell? ⟨(w.heap.size + 1), 0, none⟩ = some (.string n) := by (rw [hW]; simp [go_sem])
    have bx2_0 : W.cell? ⟨(w.heap.size + 2), 0, none⟩ = some (.int .i64 f) := by (rw [hW]; simp [go_sem])
    have bx3_0 : W.cell? ⟨(w.heap.size + 3), 0, none⟩ = some (.string t) := by (rw [hW]; simp [go_sem])
    have bx4_0 : W.cell? ⟨(w.heap.size + 4), 0, none⟩ = some (.slice none 0 0) := by (rw [hW]; simp [go_sem])
    have bx4_1 : W.cell? ⟨(w.heap.size + 4), 1, none⟩ = some (.slice none 0 0) := by (rw [hW]; simp [go_sem])
    have bx4_2 : W.cell? ⟨(w.heap.size + 4), 2, none⟩ = some (.int .i64 0) := by (rw [hW]; simp [go_sem])
    have bf4_0 : W.frozen? ⟨(w.heap.size + 4), 0, none⟩ = false := by (rw [hW]; simp [go_sem])
    have bf4_1 : W.frozen? ⟨(w.heap.size + 4), 1, none⟩ = false := by (rw [hW]; simp [go_sem])
    have bf4_2 : W.frozen? ⟨(w.heap.size + 4), 2, none⟩ = false := by (rw [hW]; simp [go_sem])
    have sW : W.heap.size = w.heap.size + 5 := by (rw [hW]; simp)
    clear hW
    go_region_held3 (fun w' => Below (w.heap.size + 4) W w' ∧ (∀ b o, b < w.heap.size + 4 → w'.cell? ⟨b, o, none⟩ = W.cell? ⟨b, o, none⟩)) ((refine iMkN ?_; exact (by repeat' (first | with_reducible exact Below.refl _ _ | with_reducible assumption | with_reducible refine Below.alloc ?_ ?_ _ | with_reducible refine Below.setCell ?_ ?_ _ | with_reducible refine Below.drew ?_ | with_reducible refine Below.extB ?_ (by assumption) ?_ | (simp <;> omega) | omega)))) ((first | (go_at_call 97; refine (flagsOk_any f _ true HCF).mono ?_; rintro e wx ⟨rfl, hwx⟩; subst wx) | (go_at_call 96; refine (wrongIf_any false 0 _ (Lib.hid rfl)).mono ?_; rintro e wx ⟨rfl, hwx⟩; subst wx) | (go_at_call 95; refine (chPut_any b ba bc l la lc gv n f t (w.heap.size + 1) (w.heap.size + 2) (w.heap.size + 3) w HR.out HM.out HRL.out hl HLM.out hll HGN.out HGT.out HGL.out HMX.out ok HSK 0 _ bxt (by omega) (by omega) (Nat.lt_of_lt_of_le (show (w.heap.size + 1) < W.heap.size by omega) (show Below W.heap.size W _ from bxt).size) (((show Below W.heap.size W _ from bxt).cell (p := ⟨(w.heap.size + 1), 0, none⟩) (show (w.heap.size + 1) < W.heap.size by omega)).trans bx1_0) (Nat.lt_of_lt_of_le (show (w.heap.size + 2) < W.heap.size by omega) (show Below W.heap.size W _ from bxt).size) (((show Below W.heap.size W _ from bxt).cell (p := ⟨(w.heap.size + 2), 0, none⟩) (show (w.heap.size + 2) < W.heap.size by omega)).trans bx2_0) (Nat.lt_of_lt_of_le (show (w.heap.size + 3) < W.heap.size by omega) (show Below W.heap.size W _ from bxt).size) (((show Below W.heap.size W _ from bxt).cell (p := ⟨(w.heap.size + 3), 0, none⟩) (show (w.heap.size + 3) < W.heap.size by omega)).trans bx3_0)).mono ?_; rintro e w9 ⟨g9, q9, z9, g8, q8, rs9, rc9, rfl, hown9, hzb9, hb9, hch9⟩; have HO9 := Lib.hid hown9; have HZ9 := Lib.hid hzb9; have HC9 := Lib.hid hch9; clear hown9 hzb9 hch9; have cu0_0 : w9.cell? ⟨(w.heap.size + 4), 0, none⟩ = some (.slice none 0 0) := (hb9.cell (p := ⟨(w.heap.size + 4), 0, none⟩) smx).trans kpx; have fu0_0 : w9.frozen? ⟨(w.heap.size + 4), 0, none⟩ = false := (hb9.frozen (p := ⟨(w.heap.size + 4), 0, none⟩) smx).trans kfx; have cu0_1 : w9.cell? ⟨(w.heap.size + 4), 1, none⟩ = some (.slice none 0 0) := (hb9.cell (p := ⟨(w.heap.size + 4), 1, none⟩) smx).trans kpx; have fu0_1 : w9.frozen? ⟨(w.heap.size + 4), 1, none⟩ = false := (hb9.frozen (p := ⟨(w.heap.size + 4), 1, none⟩) smx).trans kfx; have cu0_2 : w9.cell? ⟨(w.heap.size + 4), 2, none⟩ = some (.int .i64 0) := (hb9.cell (p := ⟨(w.heap.size + 4), 2, none⟩) smx).trans kpx; have fu0_2 : w9.frozen? ⟨(w.heap.size + 4), 2, none⟩ = false := (hb9.frozen (p := ⟨(w.heap.size + 4), 2, none⟩) smx).trans kfx; have su0 : (w.heap.size + 4) < w9.heap.size := (by have hss := hb9.size; first | omega | (simp at hss; omega)))))
    all_goals go_wp2_with fail
    all_goals obtain ⟨rfl, rfl⟩ : rs9 = rs ∧ rc9 = rok := Prod.mk.inj ((ch_op HC9.out HSK.out (fun _ => rfl) (fun h => absurd ⟨yes_of HCF.out, Nat.not_lt.1 HQ.out⟩ h)).symm.trans H.out)
    all_goals refine bodyPost_ret (v := .tuple #[.agg #[.slice g9 z9.length q9, .slice g8 rs9.log.length q8, .int .i64 rs9.given], .int .i64 rc9]) (by simp [results, Tryz.results36, go_sem, *]) rfl ⟨g9, q9, z9, g8, q8, rfl, ?_, HZ9.out, ?_⟩
    all_goals first | exact bxt | exact (by (repeat' (first | with_reducible refine OwnSt.set_at ?_ HO9.out (by (first | omega | (simp <;> omega))) _ | with_reducible refine OwnSt.alloc1 ?_ _ | with_reducible refine OwnSt.drew1 ?_)); exact OwnSt.le HO9.out (by (first | omega | (simp <;> omega))))
end Go.Proofs.YtjcnhkmhcfmoeaaGreat
