/-
  CopyMsgs: the reference's function.
-/
import Derived.Test.YtjcnhkmhcfmoeaaGreatWCopP
import Derived.Test.YtjcnhkmhcfmoeaaGreatXOps
import Derived.Test.YtjcnhkmhcfmoeaaGreatXEach
import Derived.IntWalk
import Derived.Deep.RegionHeldLaw
namespace Go.Proofs.YtjcnhkmhcfmoeaaGreat
open Go.RowKit
set_option linter.unusedVariables false
set_option linter.unusedSimpArgs false

theorem cp_sizes (tv : Int) (n : Nat) : ∀ (x : Int) (a : List DMsg), (∀ m ∈ a, m.text.size ≤ n) → ∀ y ∈ cpLog tv x a, y.name.size ≤ n ∧ y.text.size ≤ n
  | _, [], _ => fun y hy => by cases hy
  | x, m :: a, h => fun y hy => by
    rw [cpLog] at hy
    rcases List.mem_cons.1 hy with rfl | h2
    · exact ⟨Nat.zero_le _, h m (by simp)⟩
    · exact cp_sizes tv n (x + 1) a (fun z hz => h z (List.mem_cons_of_mem _ hz)) y h2
theorem hits_mem (l : List DMsg) : ∀ us, ∀ m ∈ hitsOf l us, m ∈ l
  | [], m, h => by cases h
  | u :: us, m, h => by
    rw [hitsOf] at h
    split at h
    · exact hits_mem l us m h
    · rename_i hp
      rcases List.mem_cons.1 h with rfl | h2
      · have hj := pl_lt (u := u) (l := l) (by omega)
        rw [theM_of hj]
        exact List.getElem_mem hj
      · exact hits_mem l us m h2
def CopS (LOG : List DCommit) (us : List Int) (fm : List DMsg) (tv x0 : Int) (EC : Nat) (W : World) (vv i : Value) (wr : World) : Prop :=
  ∃ (k : Nat) (L : List DCommit) (g : Option Addr) (q : Nat), k ≤ us.length ∧ i = .int .i64 k ∧ vv = .slice g L.length q ∧ Hid (Own wr W.heap.size EC 6 (.slice g L.length q) L.length (L.flatMap DCommit.cells)) ∧ Hid (LOG = L ++ cpLog tv (x0 + L.length) (hitsOf fm (us.drop k))) ∧ L.length ≤ k ∧ Below W.heap.size W wr
set_option maxRecDepth 100000 in
set_option maxHeartbeats 16000000 in
theorem specCopyMsgs_law (b : List PBox) (ba : Option Addr) (bc : Nat) (l : List DCommit) (la : Option Addr) (lc : Nat) (gv : Int) (v : Int) (us : List Int) (ua : Option Addr) (uc : Nat) (n : ByteArray) (w : World) (R : Rd w ba bc 4 b.length (b.flatMap PBox.cells)) (M : RdM w b) (RL : Rd w la lc 6 l.length (l.flatMap DCommit.cells)) (hl : b.length ≤ 1048576) (hlm : ∀ y ∈ b, y.msgs.length ≤ 1048576) (hll : l.length ≤ 1048576) (gn : ∀ y ∈ b, y.name.size ≤ 9223372036854775807) (gt : ∀ y ∈ b, ∀ m ∈ y.msgs, m.text.size ≤ 9223372036854775807) (gl : ∀ y ∈ l, y.name.size ≤ 9223372036854775807 ∧ y.text.size ≤ 9223372036854775807) (RU : Rd w ua uc 1 us.length (us.flatMap intCells)) (hul : us.length ≤ 1048576) (hn : n.size ≤ 1048576) (rs : DStore) (rok : Int) (H : Hid (copyD (⟨b.map PBox.box, l, gv⟩ : DStore) v us n = (rs, rok))) :
    Calls Tryz.prog 47 #[.agg #[.slice ba b.length bc, .slice la l.length lc, .int .i64 gv], .int .i64 v, .slice ua us.length uc, .string n] w fun e w' => ∃ g q zs g2 q2, e = .returned (.tuple #[.agg #[.slice g zs.length q, .slice g2 rs.log.length q2, .int .i64 rs.given], .int .i64 rok]) ∧ OwnSt w' w.heap.size 49 66 41 g q zs g2 q2 rs.log ∧ zs.map PBox.box = rs.boxes ∧ Ext w w' := by
  have HR := Lib.hid R
  have HM := Lib.hid M
  have HRL := Lib.hid RL
  have HLM := Lib.hid hlm
  have HGN := Lib.hid gn
  have HGT := Lib.hid gt
  have HGL := Lib.hid gl
  clear R M RL hlm gn gt gl
  have HRU := Lib.hid RU
  clear RU
  obtain ⟨ok, hok⟩ := boolOf (StoreP (⟨b.map PBox.box, l, gv⟩ : DStore))
  have HSK := Lib.hid hok
  obtain ⟨z1, hz1⟩ : ∃ z, boxWith v (b.map PBox.box) = z := ⟨_, rfl⟩
  have HZ1 := Lib.hid hz1
  obtain ⟨z2, hz2⟩ : ∃ z, boxNamed n (b.map PBox.box) = z := ⟨_, rfl⟩
  have HZ2 := Lib.hid hz2
  clear hz1 hz2 hok
  cases ok with
  | false =>
    obtain ⟨rfl, rfl⟩ : (⟨b.map PBox.box, l, gv⟩ : DStore) = rs ∧ (4 : Int) = rok := by
      have h := H.out
      rw [copyD, opD_no (fun h => no_of HSK.out h.1)] at h
      exact Prod.mk.inj h
    go_enter Tryz.func47, Tryz.ntmps47
    go_wp2_with (first | (go_at_call 19; refine (specStoreOk_any b ba bc l la lc gv _ (HR.out.ext bxt) (RdM.ext HM.out (show Below w.heap.size w _ from bxt)) (HRL.out.ext bxt) hl HLM.out hll HGN.out HGT.out HGL.out false HSK).mono ?_; rintro e w2 ⟨rfl, hb2⟩; have cp0_0 : w2.cell? ⟨w.heap.size, 0, none⟩ = some (.slice ba b.length bc) := (hb2.cell (p := ⟨w.heap.size, 0, none⟩) smx).trans kpx; have fp0_0 : w2.frozen? ⟨w.heap.size, 0, none⟩ = false := (hb2.frozen (p := ⟨w.heap.size, 0, none⟩) smx).trans kfx; have cp0_1 : w2.cell? ⟨w.heap.size, 1, none⟩ = some (.slice la l.length lc) := (hb2.cell (p := ⟨w.heap.size, 1, none⟩) smx).trans kpx; have fp0_1 : w2.frozen? ⟨w.heap.size, 1, none⟩ = false := (hb2.frozen (p := ⟨w.heap.size, 1, none⟩) smx).trans kfx; have cp0_2 : w2.cell? ⟨w.heap.size, 2, none⟩ = some (.int .i64 gv) := (hb2.cell (p := ⟨w.heap.size, 2, none⟩) smx).trans kpx; have fp0_2 : w2.frozen? ⟨w.heap.size, 2, none⟩ = false := (hb2.frozen (p := ⟨w.heap.size, 2, none⟩) smx).trans kfx; have sp0 : w.heap.size < w2.heap.size := (by have hss := hb2.size; first | omega | (simp at hss; omega)); have cp1_0 : w2.cell? ⟨(w.heap.size + 1), 0, none⟩ = some (.slice none 0 0) := (hb2.cell (p := ⟨(w.heap.size + 1), 0, none⟩) smx).trans kpx; have fp1_0 : w2.frozen? ⟨(w.heap.size + 1), 0, none⟩ = false := (hb2.frozen (p := ⟨(w.heap.size + 1), 0, none⟩) smx).trans kfx; have cp1_1 : w2.cell? ⟨(w.heap.size + 1), 1, none⟩ = some (.slice none 0 0) := (hb2.cell (p := ⟨(w.heap.size + 1), 1, none⟩) smx).trans kpx; have fp1_1 : w2.frozen? ⟨(w.heap.size + 1), 1, none⟩ = false := (hb2.frozen (p := ⟨(w.heap.size + 1), 1, none⟩) smx).trans kfx; have cp1_2 : w2.cell? ⟨(w.heap.size + 1), 2, none⟩ = some (.int .i64 0) := (hb2.cell (p := ⟨(w.heap.size + 1), 2, none⟩) smx).trans kpx; have fp1_2 : w2.frozen? ⟨(w.heap.size + 1), 2, none⟩ = false := (hb2.frozen (p := ⟨(w.heap.size + 1), 2, none⟩) smx).trans kfx; have sp1 : (w.heap.size + 1) < w2.heap.size := (by have hss := hb2.size; first | omega | (simp at hss; omega))) | (go_at_call 42; refine (specBoxWith_any b ba bc v _ (HR.out.ext bxt) z1 HZ1).mono ?_; rintro e wx ⟨rfl, hwx⟩; subst wx) | (go_at_call 38; refine (specBoxNamed_any b ba bc n _ (HR.out.ext bxt) z2 HZ2).mono ?_; rintro e wx ⟨rfl, hwx⟩; subst wx) | (go_at_call 68; refine (specCopySt_any b ba bc l la lc gv _ (HR.out.ext bxt) (RdM.ext HM.out (show Below w.heap.size w _ from bxt)) (HRL.out.ext bxt) hl HLM.out hll).mono ?_; rintro e w7 ⟨gb7, q7, zs7, g7, q8, rfl, hown7, hzb7, hb7⟩; have HO7 := Lib.hid hown7; have HZ7 := Lib.hid hzb7; clear hown7 hzb7; have cu0_0 : w7.cell? ⟨(w.heap.size + 1), 0, none⟩ = some (.slice none 0 0) := (hb7.cell (p := ⟨(w.heap.size + 1), 0, none⟩) smx).trans kpx; have fu0_0 : w7.frozen? ⟨(w.heap.size + 1), 0, none⟩ = false := (hb7.frozen (p := ⟨(w.heap.size + 1), 0, none⟩) smx).trans kfx; have cu0_1 : w7.cell? ⟨(w.heap.size + 1), 1, none⟩ = some (.slice none 0 0) := (hb7.cell (p := ⟨(w.heap.size + 1), 1, none⟩) smx).trans kpx; have fu0_1 : w7.frozen? ⟨(w.heap.size + 1), 1, none⟩ = false := (hb7.frozen (p := ⟨(w.heap.size + 1), 1, none⟩) smx).trans kfx; have cu0_2 : w7.cell? ⟨(w.heap.size + 1), 2, none⟩ = some (.int .i64 0) := (hb7.cell (p := ⟨(w.heap.size + 1), 2, none⟩) smx).trans kpx; have fu0_2 : w7.frozen? ⟨(w.heap.size + 1), 2, none⟩ = false := (hb7.frozen (p := ⟨(w.heap.size + 1), 2, none⟩) smx).trans kfx; have su0 : (w.heap.size + 1) < w7.heap.size := (by have hss := hb7.size; first | omega | (simp at hss; omega))))
    refine bodyPost_ret (v := .tuple #[.agg #[.slice gb7 zs7.length q7, .slice g7 l.length q8, .int .i64 gv], .int .i64 4]) (by simp [results, Tryz.results47, go_sem, *]) rfl ⟨gb7, q7, zs7, g7, q8, rfl, ?_, HZ7.out, ?_⟩
    · exact (by (repeat' (first | with_reducible refine OwnSt.set_at ?_ HO7.out (by (first | omega | (simp <;> omega))) _ | with_reducible refine OwnSt.alloc1 ?_ _ | with_reducible refine OwnSt.drew1 ?_)); exact OwnSt.le HO7.out (by (first | omega | (simp <;> omega))))
    · exact bxt
  | true =>
  have HB0 : Hid (copyB (⟨b.map PBox.box, l, gv⟩ : DStore) v us n = (rs, rok)) := Lib.hid (by
    have h := H.out
    rwa [copyD, opD_yes (yes_of HSK.out) trivial] at h)
  by_cases h1 : z1 < 0
  · have hd1 : decide (z1 < 0) = true := decide_eq_true h1
    obtain ⟨rfl, rfl⟩ : (⟨b.map PBox.box, l, gv⟩ : DStore) = rs ∧ (1 : Int) = rok := by
      have h := HB0.out
      rw [copyB, if_pos (Or.inl (show boxWith v (b.map PBox.box) < 0 by rw [HZ1.out]; exact h1))] at h
      exact Prod.mk.inj h
    have H1 := Lib.hid h1
    clear h1
    go_enter Tryz.func47, Tryz.ntmps47
    go_wp2_with (first | (go_at_call 19; refine (specStoreOk_any b ba bc l la lc gv _ (HR.out.ext bxt) (RdM.ext HM.out (show Below w.heap.size w _ from bxt)) (HRL.out.ext bxt) hl HLM.out hll HGN.out HGT.out HGL.out true HSK).mono ?_; rintro e w2 ⟨rfl, hb2⟩; have cp0_0 : w2.cell? ⟨w.heap.size, 0, none⟩ = some (.slice ba b.length bc) := (hb2.cell (p := ⟨w.heap.size, 0, none⟩) smx).trans kpx; have fp0_0 : w2.frozen? ⟨w.heap.size, 0, none⟩ = false := (hb2.frozen (p := ⟨w.heap.size, 0, none⟩) smx).trans kfx; have cp0_1 : w2.cell? ⟨w.heap.size, 1, none⟩ = some (.slice la l.length lc) := (hb2.cell (p := ⟨w.heap.size, 1, none⟩) smx).trans kpx; have fp0_1 : w2.frozen? ⟨w.heap.size, 1, none⟩ = false := (hb2.frozen (p := ⟨w.heap.size, 1, none⟩) smx).trans kfx; have cp0_2 : w2.cell? ⟨w.heap.size, 2, none⟩ = some (.int .i64 gv) := (hb2.cell (p := ⟨w.heap.size, 2, none⟩) smx).trans kpx; have fp0_2 : w2.frozen? ⟨w.heap.size, 2, none⟩ = false := (hb2.frozen (p := ⟨w.heap.size, 2, none⟩) smx).trans kfx; have sp0 : w.heap.size < w2.heap.size := (by have hss := hb2.size; first | omega | (simp at hss; omega)); have cp1_0 : w2.cell? ⟨(w.heap.size + 1), 0, none⟩ = some (.slice none 0 0) := (hb2.cell (p := ⟨(w.heap.size + 1), 0, none⟩) smx).trans kpx; have fp1_0 : w2.frozen? ⟨(w.heap.size + 1), 0, none⟩ = false := (hb2.frozen (p := ⟨(w.heap.size + 1), 0, none⟩) smx).trans kfx; have cp1_1 : w2.cell? ⟨(w.heap.size + 1), 1, none⟩ = some (.slice none 0 0) := (hb2.cell (p := ⟨(w.heap.size + 1), 1, none⟩) smx).trans kpx; have fp1_1 : w2.frozen? ⟨(w.heap.size + 1), 1, none⟩ = false := (hb2.frozen (p := ⟨(w.heap.size + 1), 1, none⟩) smx).trans kfx; have cp1_2 : w2.cell? ⟨(w.heap.size + 1), 2, none⟩ = some (.int .i64 0) := (hb2.cell (p := ⟨(w.heap.size + 1), 2, none⟩) smx).trans kpx; have fp1_2 : w2.frozen? ⟨(w.heap.size + 1), 2, none⟩ = false := (hb2.frozen (p := ⟨(w.heap.size + 1), 2, none⟩) smx).trans kfx; have sp1 : (w.heap.size + 1) < w2.heap.size := (by have hss := hb2.size; first | omega | (simp at hss; omega))) | (go_at_call 42; refine (specBoxWith_any b ba bc v _ (HR.out.ext bxt) z1 HZ1).mono ?_; rintro e wx ⟨rfl, hwx⟩; subst wx) | (go_at_call 38; refine (specBoxNamed_any b ba bc n _ (HR.out.ext bxt) z2 HZ2).mono ?_; rintro e wx ⟨rfl, hwx⟩; subst wx) | (go_at_call 68; refine (specCopySt_any b ba bc l la lc gv _ (HR.out.ext bxt) (RdM.ext HM.out (show Below w.heap.size w _ from bxt)) (HRL.out.ext bxt) hl HLM.out hll).mono ?_; rintro e w7 ⟨gb7, q7, zs7, g7, q8, rfl, hown7, hzb7, hb7⟩; have HO7 := Lib.hid hown7; have HZ7 := Lib.hid hzb7; clear hown7 hzb7; have cu0_0 : w7.cell? ⟨(w.heap.size + 1), 0, none⟩ = some (.slice none 0 0) := (hb7.cell (p := ⟨(w.heap.size + 1), 0, none⟩) smx).trans kpx; have fu0_0 : w7.frozen? ⟨(w.heap.size + 1), 0, none⟩ = false := (hb7.frozen (p := ⟨(w.heap.size + 1), 0, none⟩) smx).trans kfx; have cu0_1 : w7.cell? ⟨(w.heap.size + 1), 1, none⟩ = some (.slice none 0 0) := (hb7.cell (p := ⟨(w.heap.size + 1), 1, none⟩) smx).trans kpx; have fu0_1 : w7.frozen? ⟨(w.heap.size + 1), 1, none⟩ = false := (hb7.frozen (p := ⟨(w.heap.size + 1), 1, none⟩) smx).trans kfx; have cu0_2 : w7.cell? ⟨(w.heap.size + 1), 2, none⟩ = some (.int .i64 0) := (hb7.cell (p := ⟨(w.heap.size + 1), 2, none⟩) smx).trans kpx; have fu0_2 : w7.frozen? ⟨(w.heap.size + 1), 2, none⟩ = false := (hb7.frozen (p := ⟨(w.heap.size + 1), 2, none⟩) smx).trans kfx; have su0 : (w.heap.size + 1) < w7.heap.size := (by have hss := hb7.size; first | omega | (simp at hss; omega))))
    refine bodyPost_ret (v := .tuple #[.agg #[.slice gb7 zs7.length q7, .slice g7 l.length q8, .int .i64 gv], .int .i64 1]) (by simp [results, Tryz.results47, go_sem, *]) rfl ⟨gb7, q7, zs7, g7, q8, rfl, ?_, HZ7.out, ?_⟩
    · exact (by (repeat' (first | with_reducible refine OwnSt.set_at ?_ HO7.out (by (first | omega | (simp <;> omega))) _ | with_reducible refine OwnSt.alloc1 ?_ _ | with_reducible refine OwnSt.drew1 ?_)); exact OwnSt.le HO7.out (by (first | omega | (simp <;> omega))))
    · exact bxt
  have hd1 : decide (z1 < 0) = false := decide_eq_false h1
  by_cases h2 : z2 < 0
  · have hd2 : decide (z2 < 0) = true := decide_eq_true h2
    obtain ⟨rfl, rfl⟩ : (⟨b.map PBox.box, l, gv⟩ : DStore) = rs ∧ (1 : Int) = rok := by
      have h := HB0.out
      rw [copyB, if_pos (Or.inr (show boxNamed n (b.map PBox.box) < 0 by rw [HZ2.out]; exact h2))] at h
      exact Prod.mk.inj h
    have H2 := Lib.hid h2
    clear h1 h2
    go_enter Tryz.func47, Tryz.ntmps47
    go_wp2_with (first | (go_at_call 19; refine (specStoreOk_any b ba bc l la lc gv _ (HR.out.ext bxt) (RdM.ext HM.out (show Below w.heap.size w _ from bxt)) (HRL.out.ext bxt) hl HLM.out hll HGN.out HGT.out HGL.out true HSK).mono ?_; rintro e w2 ⟨rfl, hb2⟩; have cp0_0 : w2.cell? ⟨w.heap.size, 0, none⟩ = some (.slice ba b.length bc) := (hb2.cell (p := ⟨w.heap.size, 0, none⟩) smx).trans kpx; have fp0_0 : w2.frozen? ⟨w.heap.size, 0, none⟩ = false := (hb2.frozen (p := ⟨w.heap.size, 0, none⟩) smx).trans kfx; have cp0_1 : w2.cell? ⟨w.heap.size, 1, none⟩ = some (.slice la l.length lc) := (hb2.cell (p := ⟨w.heap.size, 1, none⟩) smx).trans kpx; have fp0_1 : w2.frozen? ⟨w.heap.size, 1, none⟩ = false := (hb2.frozen (p := ⟨w.heap.size, 1, none⟩) smx).trans kfx; have cp0_2 : w2.cell? ⟨w.heap.size, 2, none⟩ = some (.int .i64 gv) := (hb2.cell (p := ⟨w.heap.size, 2, none⟩) smx).trans kpx; have fp0_2 : w2.frozen? ⟨w.heap.size, 2, none⟩ = false := (hb2.frozen (p := ⟨w.heap.size, 2, none⟩) smx).trans kfx; have sp0 : w.heap.size < w2.heap.size := (by have hss := hb2.size; first | omega | (simp at hss; omega)); have cp1_0 : w2.cell? ⟨(w.heap.size + 1), 0, none⟩ = some (.slice none 0 0) := (hb2.cell (p := ⟨(w.heap.size + 1), 0, none⟩) smx).trans kpx; have fp1_0 : w2.frozen? ⟨(w.heap.size + 1), 0, none⟩ = false := (hb2.frozen (p := ⟨(w.heap.size + 1), 0, none⟩) smx).trans kfx; have cp1_1 : w2.cell? ⟨(w.heap.size + 1), 1, none⟩ = some (.slice none 0 0) := (hb2.cell (p := ⟨(w.heap.size + 1), 1, none⟩) smx).trans kpx; have fp1_1 : w2.frozen? ⟨(w.heap.size + 1), 1, none⟩ = false := (hb2.frozen (p := ⟨(w.heap.size + 1), 1, none⟩) smx).trans kfx; have cp1_2 : w2.cell? ⟨(w.heap.size + 1), 2, none⟩ = some (.int .i64 0) := (hb2.cell (p := ⟨(w.heap.size + 1), 2, none⟩) smx).trans kpx; have fp1_2 : w2.frozen? ⟨(w.heap.size + 1), 2, none⟩ = false := (hb2.frozen (p := ⟨(w.heap.size + 1), 2, none⟩) smx).trans kfx; have sp1 : (w.heap.size + 1) < w2.heap.size := (by have hss := hb2.size; first | omega | (simp at hss; omega))) | (go_at_call 42; refine (specBoxWith_any b ba bc v _ (HR.out.ext bxt) z1 HZ1).mono ?_; rintro e wx ⟨rfl, hwx⟩; subst wx) | (go_at_call 38; refine (specBoxNamed_any b ba bc n _ (HR.out.ext bxt) z2 HZ2).mono ?_; rintro e wx ⟨rfl, hwx⟩; subst wx) | (go_at_call 68; refine (specCopySt_any b ba bc l la lc gv _ (HR.out.ext bxt) (RdM.ext HM.out (show Below w.heap.size w _ from bxt)) (HRL.out.ext bxt) hl HLM.out hll).mono ?_; rintro e w7 ⟨gb7, q7, zs7, g7, q8, rfl, hown7, hzb7, hb7⟩; have HO7 := Lib.hid hown7; have HZ7 := Lib.hid hzb7; clear hown7 hzb7; have cu0_0 : w7.cell? ⟨(w.heap.size + 1), 0, none⟩ = some (.slice none 0 0) := (hb7.cell (p := ⟨(w.heap.size + 1), 0, none⟩) smx).trans kpx; have fu0_0 : w7.frozen? ⟨(w.heap.size + 1), 0, none⟩ = false := (hb7.frozen (p := ⟨(w.heap.size + 1), 0, none⟩) smx).trans kfx; have cu0_1 : w7.cell? ⟨(w.heap.size + 1), 1, none⟩ = some (.slice none 0 0) := (hb7.cell (p := ⟨(w.heap.size + 1), 1, none⟩) smx).trans kpx; have fu0_1 : w7.frozen? ⟨(w.heap.size + 1), 1, none⟩ = false := (hb7.frozen (p := ⟨(w.heap.size + 1), 1, none⟩) smx).trans kfx; have cu0_2 : w7.cell? ⟨(w.heap.size + 1), 2, none⟩ = some (.int .i64 0) := (hb7.cell (p := ⟨(w.heap.size + 1), 2, none⟩) smx).trans kpx; have fu0_2 : w7.frozen? ⟨(w.heap.size + 1), 2, none⟩ = false := (hb7.frozen (p := ⟨(w.heap.size + 1), 2, none⟩) smx).trans kfx; have su0 : (w.heap.size + 1) < w7.heap.size := (by have hss := hb7.size; first | omega | (simp at hss; omega))))
    refine bodyPost_ret (v := .tuple #[.agg #[.slice gb7 zs7.length q7, .slice g7 l.length q8, .int .i64 gv], .int .i64 1]) (by simp [results, Tryz.results47, go_sem, *]) rfl ⟨gb7, q7, zs7, g7, q8, rfl, ?_, HZ7.out, ?_⟩
    · exact (by (repeat' (first | with_reducible refine OwnSt.set_at ?_ HO7.out (by (first | omega | (simp <;> omega))) _ | with_reducible refine OwnSt.alloc1 ?_ _ | with_reducible refine OwnSt.drew1 ?_)); exact OwnSt.le HO7.out (by (first | omega | (simp <;> omega))))
    · exact bxt
  have hd2 : decide (z2 < 0) = false := decide_eq_false h2
  have hz1l : z1 < (b.length : Int) := by
    have h := (firstI_range (fun y : DBox => decide (y.validity = v)) (b.map PBox.box)).2
    rw [List.length_map] at h
    rw [← HZ1.out]
    exact h
  have hz2l : z2 < (b.length : Int) := by
    have h := (firstI_range (fun y : DBox => decide (y.name = n)) (b.map PBox.box)).2
    rw [List.length_map] at h
    rw [← HZ2.out]
    exact h
  obtain ⟨kf, hkf⟩ : ∃ k : Nat, z1 = k := ⟨z1.toNat, by omega⟩
  obtain ⟨kt, hkt⟩ : ∃ k : Nat, z2 = k := ⟨z2.toNat, by omega⟩
  subst hkf hkt
  have hkf1 : kf < b.length := by omega
  have hkt1 : kt < b.length := by omega
  have hfr : fromD (⟨b.map PBox.box, l, gv⟩ : DStore) v = b[kf].box := by
    show theD (b.map PBox.box) (boxWith v (b.map PBox.box)).toNat = _
    rw [HZ1.out, Int.toNat_natCast, theD_of (by simpa using hkf1)]; simp
  have hto : toD (⟨b.map PBox.box, l, gv⟩ : DStore) n = b[kt].box := by
    show theD (b.map PBox.box) (boxNamed n (b.map PBox.box)).toNat = _
    rw [HZ2.out, Int.toNat_natCast, theD_of (by simpa using hkt1)]; simp
  have HF : Hid (FullRel (⟨b.map PBox.box, l, gv⟩ : DStore) (cpLog b[kt].validity b[kt].next (hitsOf b[kf].msgs us)) rs rok) := Lib.hid (by
    have h := HB0.out
    rw [copyB, if_neg (fun h => h.elim (fun h => by rw [show boxWith v (b.map PBox.box) = _ from HZ1.out] at h; omega) (fun h => by rw [show boxNamed n (b.map PBox.box) = _ from HZ2.out] at h; omega)), hfr, hto] at h
    obtain ⟨⟨tt, rk⟩, htt⟩ : ∃ x, cmtAll (⟨b.map PBox.box, l, gv⟩ : DStore) (cpLog b[kt].validity b[kt].next (hitsOf b[kf].msgs us)) = x := ⟨_, rfl⟩
    rw [show cmtAll (⟨b.map PBox.box, l, gv⟩ : DStore) (cpLog b[kt].box.validity b[kt].box.next (hitsOf b[kf].box.msgs us)) = _ from htt] at h
    refine ⟨rk, ⟨tt, htt, ?_⟩, ?_⟩
    · cases rk <;> exact (Prod.mk.inj h).1.symm
    · cases rk <;> exact (Prod.mk.inj h).2.symm)
  have hnx : 1 ≤ b[kt].next ∧ b[kt].next ≤ 999999999 := by
    obtain ⟨h0, h3, -⟩ := (storeP_boxes (yes_of HSK.out)).1 kt (by simpa using hkt1)
    have h4 := h3.2.2.1
    simpa [PBox.box] using h4
  have HKL : Hid ((cpLog b[kt].validity b[kt].next (hitsOf b[kf].msgs us)).length ≤ 1048576) := Lib.hid (by rw [cp_len]; exact Nat.le_trans (hits_len _ _) hul)
  have HGK : Hid (∀ y ∈ (cpLog b[kt].validity b[kt].next (hitsOf b[kf].msgs us)), y.name.size ≤ 9223372036854775807 ∧ y.text.size ≤ 9223372036854775807) := Lib.hid (cp_sizes _ _ _ _ (fun m hm => HGT.out _ (List.getElem_mem hkf1) m (hits_mem _ _ m hm)))
  obtain ⟨i0, hi0, hy0, hy1, hy2⟩ := info_parts info_Commit
  have HL0 : Hid ((cpLog b[kt].validity b[kt].next (hitsOf b[kf].msgs us)) = [] ++ cpLog b[kt].validity (b[kt].next + (([] : List DCommit).length : Int)) (hitsOf b[kf].msgs (us.drop 0))) := Lib.hid (by simp)
  clear hfr hto hz1l hz2l h1 h2
  go_enter Tryz.func47, Tryz.ntmps47
  go_wp2_with (first | (go_at_call 19; refine (specStoreOk_any b ba bc l la lc gv _ (HR.out.ext bxt) (RdM.ext HM.out (show Below w.heap.size w _ from bxt)) (HRL.out.ext bxt) hl HLM.out hll HGN.out HGT.out HGL.out true HSK).mono ?_; rintro e w2 ⟨rfl, hb2⟩; have cp0_0 : w2.cell? ⟨w.heap.size, 0, none⟩ = some (.slice ba b.length bc) := (hb2.cell (p := ⟨w.heap.size, 0, none⟩) smx).trans kpx; have fp0_0 : w2.frozen? ⟨w.heap.size, 0, none⟩ = false := (hb2.frozen (p := ⟨w.heap.size, 0, none⟩) smx).trans kfx; have cp0_1 : w2.cell? ⟨w.heap.size, 1, none⟩ = some (.slice la l.length lc) := (hb2.cell (p := ⟨w.heap.size, 1, none⟩) smx).trans kpx; have fp0_1 : w2.frozen? ⟨w.heap.size, 1, none⟩ = false := (hb2.frozen (p := ⟨w.heap.size, 1, none⟩) smx).trans kfx; have cp0_2 : w2.cell? ⟨w.heap.size, 2, none⟩ = some (.int .i64 gv) := (hb2.cell (p := ⟨w.heap.size, 2, none⟩) smx).trans kpx; have fp0_2 : w2.frozen? ⟨w.heap.size, 2, none⟩ = false := (hb2.frozen (p := ⟨w.heap.size, 2, none⟩) smx).trans kfx; have sp0 : w.heap.size < w2.heap.size := (by have hss := hb2.size; first | omega | (simp at hss; omega)); have cp1_0 : w2.cell? ⟨(w.heap.size + 1), 0, none⟩ = some (.slice none 0 0) := (hb2.cell (p := ⟨(w.heap.size + 1), 0, none⟩) smx).trans kpx; have fp1_0 : w2.frozen? ⟨(w.heap.size + 1), 0, none⟩ = false := (hb2.frozen (p := ⟨(w.heap.size + 1), 0, none⟩) smx).trans kfx; have cp1_1 : w2.cell? ⟨(w.heap.size + 1), 1, none⟩ = some (.slice none 0 0) := (hb2.cell (p := ⟨(w.heap.size + 1), 1, none⟩) smx).trans kpx; have fp1_1 : w2.frozen? ⟨(w.heap.size + 1), 1, none⟩ = false := (hb2.frozen (p := ⟨(w.heap.size + 1), 1, none⟩) smx).trans kfx; have cp1_2 : w2.cell? ⟨(w.heap.size + 1), 2, none⟩ = some (.int .i64 0) := (hb2.cell (p := ⟨(w.heap.size + 1), 2, none⟩) smx).trans kpx; have fp1_2 : w2.frozen? ⟨(w.heap.size + 1), 2, none⟩ = false := (hb2.frozen (p := ⟨(w.heap.size + 1), 2, none⟩) smx).trans kfx; have sp1 : (w.heap.size + 1) < w2.heap.size := (by have hss := hb2.size; first | omega | (simp at hss; omega))) | (go_at_call 42; refine (specBoxWith_any b ba bc v _ (HR.out.ext bxt) (kf : Int) HZ1).mono ?_; rintro e wx ⟨rfl, hwx⟩; subst wx) | (go_at_call 38; refine (specBoxNamed_any b ba bc n _ (HR.out.ext bxt) (kt : Int) HZ2).mono ?_; rintro e wx ⟨rfl, hwx⟩; subst wx))
  refine wp_world (fun W hW => ?_)
  have hwW : Ext w W := by (rw [hW]; exact bxt)
  have bx0_0 : W.cell? ⟨w.heap.size, 0, none⟩ = some (.slice ba b.length bc) := by (rw [hW]; exact kpx)
  have bf0_0 : W.frozen? ⟨w.heap.size, 0, none⟩ = false := by (rw [hW]; exact kfx)
  have bx0_1 : W.cell? ⟨w.heap.size, 1, none⟩ = some (.slice la l.length lc) := by (rw [hW]; exact kpx)
  have bf0_1 : W.frozen? ⟨w.heap.size, 1, none⟩ = false := by (rw [hW]; exact kfx)
  have bx0_2 : W.cell? ⟨w.heap.size, 2, none⟩ = some (.int .i64 gv) := by (rw [hW]; exact kpx)
  have bf0_2 : W.frozen? ⟨w.heap.size, 2, none⟩ = false := by (rw [hW]; exact kfx)
  have bx1_0 : W.cell? ⟨(w.heap.size + 1), 0, none⟩ = some (.slice none 0 0) := by (rw [hW]; exact kpx)
  have bf1_0 : W.frozen? ⟨(w.heap.size + 1), 0, none⟩ = false := by (rw [hW]; exact kfx)
  have bx1_1 : W.cell? ⟨(w.heap.size + 1), 1, none⟩ = some (.slice none 0 0) := by (rw [hW]; exact kpx)
  have bf1_1 : W.frozen? ⟨(w.heap.size + 1), 1, none⟩ = false := by (rw [hW]; exact kfx)
  have bx1_2 : W.cell? ⟨(w.heap.size + 1), 2, none⟩ = some (.int .i64 0) := by (rw [hW]; exact kpx)
  have bf1_2 : W.frozen? ⟨(w.heap.size + 1), 2, none⟩ = false := by (rw [hW]; exact kfx)
  have sW : w.heap.size + 2 ≤ W.heap.size := by (rw [hW]; first | omega | (simp <;> omega))
  clear hW
  have sW1 : w.heap.size + 1 < W.heap.size := by omega
  have sW0 : w.heap.size < W.heap.size := by omega
  go_loopw [12, 13] (fun vv i wr => CopS (cpLog b[kt].validity b[kt].next (hitsOf b[kf].msgs us)) us b[kf].msgs b[kt].validity b[kt].next 41 W vv i wr) (fun _ i _ => us.length - (intOf i).toNat)
  case atStart => exact ⟨0, [], _, 0, Nat.zero_le _, rfl, rfl, Lib.hid (Own.none0 _), HL0, Nat.le_refl _, Below.refl _ _⟩
  case round =>
    obtain ⟨k, L, g, q, hk, rfl, rfl, HO, HLG, hLk, hbe⟩ := hrel
    have hbw : Below w.heap.size w wr := Below.ext hwW hbe
    have ca0_0 : wr.cell? ⟨w.heap.size, 0, none⟩ = some (.slice ba b.length bc) := (hbe.cell (p := ⟨w.heap.size, 0, none⟩) smx).trans kpx
    have fa0_0 : wr.frozen? ⟨w.heap.size, 0, none⟩ = false := (hbe.frozen (p := ⟨w.heap.size, 0, none⟩) smx).trans kfx
    have ca0_1 : wr.cell? ⟨w.heap.size, 1, none⟩ = some (.slice la l.length lc) := (hbe.cell (p := ⟨w.heap.size, 1, none⟩) smx).trans kpx
    have fa0_1 : wr.frozen? ⟨w.heap.size, 1, none⟩ = false := (hbe.frozen (p := ⟨w.heap.size, 1, none⟩) smx).trans kfx
    have ca0_2 : wr.cell? ⟨w.heap.size, 2, none⟩ = some (.int .i64 gv) := (hbe.cell (p := ⟨w.heap.size, 2, none⟩) smx).trans kpx
    have fa0_2 : wr.frozen? ⟨w.heap.size, 2, none⟩ = false := (hbe.frozen (p := ⟨w.heap.size, 2, none⟩) smx).trans kfx
    have sa0 : w.heap.size < wr.heap.size := (by have hss := hbe.size; first | omega | (simp at hss; omega))
    have ca1_0 : wr.cell? ⟨(w.heap.size + 1), 0, none⟩ = some (.slice none 0 0) := (hbe.cell (p := ⟨(w.heap.size + 1), 0, none⟩) smx).trans kpx
    have fa1_0 : wr.frozen? ⟨(w.heap.size + 1), 0, none⟩ = false := (hbe.frozen (p := ⟨(w.heap.size + 1), 0, none⟩) smx).trans kfx
    have ca1_1 : wr.cell? ⟨(w.heap.size + 1), 1, none⟩ = some (.slice none 0 0) := (hbe.cell (p := ⟨(w.heap.size + 1), 1, none⟩) smx).trans kpx
    have fa1_1 : wr.frozen? ⟨(w.heap.size + 1), 1, none⟩ = false := (hbe.frozen (p := ⟨(w.heap.size + 1), 1, none⟩) smx).trans kfx
    have ca1_2 : wr.cell? ⟨(w.heap.size + 1), 2, none⟩ = some (.int .i64 0) := (hbe.cell (p := ⟨(w.heap.size + 1), 2, none⟩) smx).trans kpx
    have fa1_2 : wr.frozen? ⟨(w.heap.size + 1), 2, none⟩ = false := (hbe.frozen (p := ⟨(w.heap.size + 1), 2, none⟩) smx).trans kfx
    have sa1 : (w.heap.size + 1) < wr.heap.size := (by have hss := hbe.size; first | omega | (simp at hss; omega))
    by_cases hlt : k < us.length
    · obtain ⟨ub, uo, rfl, hubl, hatu⟩ := HRU.out.ptr (by omega)
      have cu := intCells_at (hatu.ext hubl hbw) k hlt
      have hub2 : ub < wr.heap.size := Nat.lt_of_lt_of_le hubl hbw.size
      obtain ⟨gb, go, rfl, hgb0, hat0⟩ := HR.out.ptr (by omega)
      have hgb : gb < wr.heap.size := Nat.lt_of_lt_of_le hgb0 hbw.size
      have hat := hat0.ext hgb0 hbw
      obtain ⟨x0, x1, x2, x3⟩ := PBox.at hat kf hkf1
      obtain ⟨y0, y1, y2, y3⟩ := PBox.at hat kt hkt1
      have i1 : (kf : Int) < (b.length : Int) := by omega
      have i2 : (kt : Int) < (b.length : Int) := by omega
      have hk1 : (k : Int) < (us.length : Int) := by omega
      obtain ⟨z3, hz3⟩ : ∃ z, placeOf us[k] b[kf].msgs = z := ⟨_, rfl⟩
      have HZ3 := Lib.hid hz3
      have HAT := Lib.hid hat
      clear hat hat0 hatu hz3
      have q0 := fun y : ExtW wr => (y.h.cell (p := ⟨w.heap.size, 0, none⟩) sa0).trans ca0_0
      have q1 := fun y : ExtW wr => (y.h.cell (p := ⟨ub, uo + k, none⟩) hub2).trans cu
      have q2 := fun y : ExtW wr => (y.h.cell (p := ⟨gb, go + kf * 4, none⟩) hgb).trans x0
      have q3 := fun y : ExtW wr => (y.h.cell (p := ⟨gb, go + kf * 4 + 1, none⟩) hgb).trans x1
      have q4 := fun y : ExtW wr => (y.h.cell (p := ⟨gb, go + kf * 4 + 2, none⟩) hgb).trans x2
      have q5 := fun y : ExtW wr => (y.h.cell (p := ⟨gb, go + kf * 4 + 3, none⟩) hgb).trans x3
      go_wp2_with fail
      refine wp_region_ext (by kernel_rfl) (by kernel_rfl) ?_
      repeat (go_big_quiet_step ((go_at_call 48; refine (specPlaceOf_any b[kf].name b[kf].validity b[kf].next b[kf].msgs _ _ us[k] _ ((HM.out _ (List.getElem_mem hkf1)).ext (ExtW.of hbw _)) z3 HZ3).mono ?_; rintro e w5 ⟨rfl, hb5⟩; exact ⟨rfl, ExtW.on _ hb5⟩)))
      refine wpQuiet_nil ?_
      rintro w3 ⟨⟨w3x, hw3⟩, hx3⟩
      have hx3' : w3 = w3x := hx3
      subst hx3'
      clear hx3 q0 q1 q2 q3 q4 q5
      have hbe3 : Below W.heap.size W w3 := Below.ext hbe hw3
      have hbw3 : Below w.heap.size w w3 := Below.ext hbw hw3
      by_cases hz0 : z3 < 0
      · have hd0 : decide (0 ≤ z3) = false := decide_eq_false (by omega)
        have HZ0 := Lib.hid hz0
        clear hz0
        go_wp2_with fail
        go_roundw
        case rel => exact ⟨k + 1, L, g, q, by omega, by go_num, rfl, Lib.hid (HO.out.ext hw3), Lib.hid (by have h := HLG.out; rw [drop_cons us k hlt, hits_miss (by rw [HZ3.out]; exact HZ0.out)] at h; exact h), by omega, hbe3⟩
        case measure => simp [intOf]; omega
      have hd0 : decide (0 ≤ z3) = true := decide_eq_true (by omega)
      have hzl : z3 < (b[kf].msgs.length : Int) := by
        have h := (firstI_range (fun m : DMsg => decide (m.uid = us[k])) b[kf].msgs).2
        rw [← HZ3.out]
        exact h
      obtain ⟨j, hj⟩ : ∃ j : Nat, z3 = j := ⟨z3.toNat, by omega⟩
      subst hj
      have hjl : j < b[kf].msgs.length := by omega
      have j1 : (j : Int) < (b[kf].msgs.length : Int) := by omega
      obtain ⟨mb, mo, hma, hmb, hatm⟩ := ((HM.out _ (List.getElem_mem hkf1)).ext hbw3).ptr (by omega)
      obtain ⟨m0, m1, m2⟩ := DMsg.at hatm j hjl
      have t0 : w3.cell? ⟨w.heap.size, 0, none⟩ = _ := (hw3.cell (p := ⟨w.heap.size, 0, none⟩) sa0).trans ca0_0
      have t3 : w3.cell? ⟨gb, go + kf * 4 + 3, none⟩ = _ := (hw3.cell (p := ⟨gb, go + kf * 4 + 3, none⟩) hgb).trans x3
      have t1 : w3.cell? ⟨gb, go + kt * 4 + 1, none⟩ = _ := (hw3.cell (p := ⟨gb, go + kt * 4 + 1, none⟩) hgb).trans y1
      have t2 : w3.cell? ⟨gb, go + kt * 4 + 2, none⟩ = _ := (hw3.cell (p := ⟨gb, go + kt * 4 + 2, none⟩) hgb).trans y2
      have hg3 : gb < w3.heap.size := Nat.lt_of_lt_of_le hgb hw3.size
      have hs3 : w.heap.size < w3.heap.size := Nat.lt_of_lt_of_le sa0 hw3.size
      have hs4 : W.heap.size ≤ w3.heap.size := hbe3.size
      rw [hma] at t3
      have HOW := Lib.hid (HO.out.ext hw3)
      have HLG2 : Hid ((cpLog b[kt].validity b[kt].next (hitsOf b[kf].msgs us)) = (L ++ [(⟨4, b[kt].validity, b[kt].next + L.length, b[kf].msgs[j].flags, ⟨#[]⟩, b[kf].msgs[j].text⟩ : DCommit)]) ++ cpLog b[kt].validity (b[kt].next + ((L ++ [(⟨4, b[kt].validity, b[kt].next + L.length, b[kf].msgs[j].flags, ⟨#[]⟩, b[kf].msgs[j].text⟩ : DCommit)]).length : Int)) (hitsOf b[kf].msgs (us.drop (k + 1)))) := Lib.hid (by
        have h := HLG.out
        rw [drop_cons us k hlt, hits_hit hjl HZ3.out, cpLog] at h
        rw [h, List.append_assoc]
        have e : b[kt].next + (L.length : Int) + 1 = b[kt].next + ((L ++ [(⟨4, b[kt].validity, b[kt].next + L.length, b[kf].msgs[j].flags, ⟨#[]⟩, b[kf].msgs[j].text⟩ : DCommit)]).length : Int) := by simp; omega
        rw [e]; rfl)
      have hL1 : L.length + 1 ≤ 4194304 := by omega
      have hadd : IntKind.i64.wrap (b[kt].next + (L.length : Int)) = b[kt].next + (L.length : Int) := IntWalk.i64_in _ (by omega)
      have HADD := Lib.hid hadd
      clear hadd
      have hN0 : foot (.slice g L.length q) ≠ some w.heap.size := HO.out.ne_lt (by omega)
      have hN1 : foot (.slice g L.length q) ≠ some gb := HO.out.ne_lt (by omega)
      have hN3 : foot (.slice g L.length q) ≠ some w3.heap.size := HO.out.ne_ge hw3.size
      clear x0 x1 x2 x3 y0 y1 y2 y3 cu hatm hz0 hzl hma
      go_wp2_with fail
      refine wp_world (fun W5 hW5 => ?_)
      have h35 : Ext w3 W5 := by (rw [hW5]; exact bxt)
      have u0 : W5.cell? ⟨w.heap.size, 0, none⟩ = _ := (h35.cell (p := ⟨w.heap.size, 0, none⟩) hs3).trans t0
      have u1 : W5.cell? ⟨gb, go + kt * 4 + 1, none⟩ = _ := (h35.cell (p := ⟨gb, go + kt * 4 + 1, none⟩) hg3).trans t1
      have u2 : W5.cell? ⟨gb, go + kt * 4 + 2, none⟩ = _ := (h35.cell (p := ⟨gb, go + kt * 4 + 2, none⟩) hg3).trans t2
      have u3 : W5.cell? ⟨w3.heap.size, 1, none⟩ = some (.int .i64 b[kf].msgs[j].flags) := by (rw [hW5]; simp [go_sem])
      have u4 : W5.cell? ⟨w3.heap.size, 2, none⟩ = some (.string b[kf].msgs[j].text) := by (rw [hW5]; simp [go_sem])
      have HO5 := Lib.hid (HOW.out.ext h35)
      have hs5 : W.heap.size ≤ W5.heap.size := Nat.le_trans hs4 h35.size
      have hb5 : Below W.heap.size W W5 := Below.ext hbe3 h35
      clear hW5 t0 t1 t2 t3 m0 m1 m2
      have hadd := HADD.out
      first
      | go_region_held_law (fun w' => w'.cell? ⟨w.heap.size, 0, none⟩ = some (.slice (some ⟨gb, go, none⟩) b.length bc) ∧ w'.cell? ⟨gb, go + kt * 4 + 1, none⟩ = some (.int .i64 b[kt].validity) ∧ w'.cell? ⟨gb, go + kt * 4 + 2, none⟩ = some (.int .i64 b[kt].next) ∧ w'.cell? ⟨w3.heap.size, 1, none⟩ = some (.int .i64 b[kf].msgs[j].flags) ∧ w'.cell? ⟨w3.heap.size, 2, none⟩ = some (.string b[kf].msgs[j].text)) ((first | with_reducible exact ⟨v0, v1, v2, v3, v4⟩ | exact ⟨(by repeat' (first | with_reducible assumption | with_reducible refine keep_alloc ?_ | with_reducible refine keep_drewN ?_ | with_reducible refine keep_drew ?_)), (by repeat' (first | with_reducible assumption | with_reducible refine keep_alloc ?_ | with_reducible refine keep_drewN ?_ | with_reducible refine keep_drew ?_)), (by repeat' (first | with_reducible assumption | with_reducible refine keep_alloc ?_ | with_reducible refine keep_drewN ?_ | with_reducible refine keep_drew ?_)), (by repeat' (first | with_reducible assumption | with_reducible refine keep_alloc ?_ | with_reducible refine keep_drewN ?_ | with_reducible refine keep_drew ?_)), (by repeat' (first | with_reducible assumption | with_reducible refine keep_alloc ?_ | with_reducible refine keep_drewN ?_ | with_reducible refine keep_drew ?_))⟩)) ((refine step_app (B := W.heap.size) (n := L.length) (xs := L.flatMap DCommit.cells) (s := 6) (v := .slice g L.length q) rfl (.tmp 67) (.tmp 88) 25 rfl 41 i0 _ _ Tryz.underlying25 hi0 hy0 hy1 hy2 rfl (by decide) (by simp [Act.eval, Act.put]) (by repeat' (first | with_reducible exact HO5.out | with_reducible refine Own.alloc1 ?_ _ | with_reducible refine Own.drew1 ?_ | with_reducible refine Own.drewN1 ?_)) (some ⟨W5.heap.size, 0, none⟩) 1 1 #[.int .i64 4, .int .i64 b[kt].validity, .int .i64 (b[kt].next + L.length), .int .i64 b[kf].msgs[j].flags, .string ⟨#[]⟩, .string b[kf].msgs[j].text].toList (by simp [Act.eval, Act.put]) ⟨rfl, Nat.le_refl _, (by decide), fun _ => ⟨W5.heap.size, 0, rfl, (by simp), at_cons (by repeat' (first | with_reducible refine keep_drew ?_ | with_reducible refine keep_drewN ?_ | (simp [go_sem]; done))) (at_cons (by repeat' (first | with_reducible refine keep_drew ?_ | with_reducible refine keep_drewN ?_ | (simp [go_sem]; done))) (at_cons (by repeat' (first | with_reducible refine keep_drew ?_ | with_reducible refine keep_drewN ?_ | (simp [go_sem]; done))) (at_cons (by repeat' (first | with_reducible refine keep_drew ?_ | with_reducible refine keep_drewN ?_ | (simp [go_sem]; done))) (at_cons (by repeat' (first | with_reducible refine keep_drew ?_ | with_reducible refine keep_drewN ?_ | (simp [go_sem]; done))) (at_cons (by repeat' (first | with_reducible refine keep_drew ?_ | with_reducible refine keep_drewN ?_ | (simp [go_sem]; done))) (at_nil))))))⟩⟩ (by simp [Value.oneCell']) hL1 (by decide) (Nat.le_trans hs5 (show Ext W5 _ from bxt).size) ?_; intro g2 q2 w6 hown2 hg2; have hbel : Below W.heap.size W w6 := below_foot (B := W.heap.size) (Below.extB hb5 (show Ext W5 _ from bxt) hs5) (show Own _ W.heap.size 41 6 (.slice g L.length q) L.length (L.flatMap DCommit.cells) from (by repeat' (first | with_reducible exact HO5.out | with_reducible refine Own.alloc1 ?_ _ | with_reducible refine Own.drew1 ?_ | with_reducible refine Own.drewN1 ?_))) (Nat.le_refl _) (Nat.le_trans hs5 (show Ext W5 _ from bxt).size) hg2; have H2 := Lib.hid hown2; have v0 : w6.cell? ⟨w.heap.size, 0, none⟩ = some (.slice (some ⟨gb, go, none⟩) b.length bc) := grown_cell hg2 (by repeat' (first | with_reducible assumption | with_reducible refine keep_alloc ?_ | with_reducible refine keep_drewN ?_ | with_reducible refine keep_drew ?_)) hN0; have v1 : w6.cell? ⟨gb, go + kt * 4 + 1, none⟩ = some (.int .i64 b[kt].validity) := grown_cell hg2 (by repeat' (first | with_reducible assumption | with_reducible refine keep_alloc ?_ | with_reducible refine keep_drewN ?_ | with_reducible refine keep_drew ?_)) hN1; have v2 : w6.cell? ⟨gb, go + kt * 4 + 2, none⟩ = some (.int .i64 b[kt].next) := grown_cell hg2 (by repeat' (first | with_reducible assumption | with_reducible refine keep_alloc ?_ | with_reducible refine keep_drewN ?_ | with_reducible refine keep_drew ?_)) hN1; have v3 : w6.cell? ⟨w3.heap.size, 1, none⟩ = some (.int .i64 b[kf].msgs[j].flags) := grown_cell hg2 (by repeat' (first | with_reducible assumption | with_reducible refine keep_alloc ?_ | with_reducible refine keep_drewN ?_ | with_reducible refine keep_drew ?_)) hN3; have v4 : w6.cell? ⟨w3.heap.size, 2, none⟩ = some (.string b[kf].msgs[j].text) := grown_cell hg2 (by repeat' (first | with_reducible assumption | with_reducible refine keep_alloc ?_ | with_reducible refine keep_drewN ?_ | with_reducible refine keep_drew ?_)) hN3; clear hown2 hg2))
      | fail
      all_goals clear hadd
      all_goals go_wp2_with fail
      all_goals
        go_roundw
        case rel => exact ⟨k + 1, L ++ [(⟨4, b[kt].validity, b[kt].next + L.length, b[kf].msgs[j].flags, ⟨#[]⟩, b[kf].msgs[j].text⟩ : DCommit)], g2, q2, by omega, by go_num, by simp, Lib.hid (by have h := H2.out; simpa [DCommit.cells] using h), HLG2, by simp; omega, hbel⟩
        case measure => simp [intOf]; omega
    · have hkk : k = us.length := by omega
      have h5 := HLG.out
      rw [hkk, List.drop_length, hitsOf, cpLog, List.append_nil] at h5
      have HRK : Hid (Rd wr g q 6 (cpLog b[kt].validity b[kt].next (hitsOf b[kf].msgs us)).length ((cpLog b[kt].validity b[kt].next (hitsOf b[kf].msgs us)).flatMap DCommit.cells)) := Lib.hid (by rw [h5]; exact Rd.of_Own HO.out)
      have hll2 : (L.length : Int) = ((cpLog b[kt].validity b[kt].next (hitsOf b[kf].msgs us)).length : Int) := by rw [h5]
      have HLL := Lib.hid hll2
      have HKK := Lib.hid hkk
      have h6 : L.length = (cpLog b[kt].validity b[kt].next (hitsOf b[kf].msgs us)).length := by rw [h5]
      rw [h6]
      clear hkk h5 hll2 h6
      go_wp2_with (go_at_call 102; refine (specFull_any b ba bc l la lc gv (cpLog b[kt].validity b[kt].next (hitsOf b[kf].msgs us)) g q _ (HR.out.ext (Below.ext hbw bxt)) (RdM.ext HM.out (Below.ext hbw bxt)) (HRL.out.ext (Below.ext hbw bxt)) hl HLM.out hll HGN.out HGT.out HGL.out ((HRK.out).ext bxt) HKL.out HGK.out rs rok HF).mono ?_; rintro e w9 ⟨g9, q9, z9, g8, q8, rfl, hown9, hzb9, hb9⟩; have HO9 := Lib.hid hown9; have HZ9 := Lib.hid hzb9; clear hown9 hzb9; have cu0_0 : w9.cell? ⟨(w.heap.size + 1), 0, none⟩ = some (.slice none 0 0) := (hb9.cell (p := ⟨(w.heap.size + 1), 0, none⟩) smx).trans kpx; have fu0_0 : w9.frozen? ⟨(w.heap.size + 1), 0, none⟩ = false := (hb9.frozen (p := ⟨(w.heap.size + 1), 0, none⟩) smx).trans kfx; have cu0_1 : w9.cell? ⟨(w.heap.size + 1), 1, none⟩ = some (.slice none 0 0) := (hb9.cell (p := ⟨(w.heap.size + 1), 1, none⟩) smx).trans kpx; have fu0_1 : w9.frozen? ⟨(w.heap.size + 1), 1, none⟩ = false := (hb9.frozen (p := ⟨(w.heap.size + 1), 1, none⟩) smx).trans kfx; have cu0_2 : w9.cell? ⟨(w.heap.size + 1), 2, none⟩ = some (.int .i64 0) := (hb9.cell (p := ⟨(w.heap.size + 1), 2, none⟩) smx).trans kpx; have fu0_2 : w9.frozen? ⟨(w.heap.size + 1), 2, none⟩ = false := (hb9.frozen (p := ⟨(w.heap.size + 1), 2, none⟩) smx).trans kfx; have su0 : (w.heap.size + 1) < w9.heap.size := (by have hss := hb9.size; first | omega | (simp at hss; omega)))
      refine bodyPost_ret (v := .tuple #[.agg #[.slice g9 z9.length q9, .slice g8 rs.log.length q8, .int .i64 rs.given], .int .i64 rok]) (by simp [results, Tryz.results47, go_sem, *]) rfl ⟨g9, q9, z9, g8, q8, rfl, ?_, HZ9.out, ?_⟩
      · exact (by (repeat' (first | with_reducible refine OwnSt.set_at ?_ HO9.out (by (first | omega | (simp <;> omega))) _ | with_reducible refine OwnSt.alloc1 ?_ _ | with_reducible refine OwnSt.drew1 ?_)); exact OwnSt.le HO9.out (by (first | omega | (simp <;> omega))))
      · exact bxt
end Go.Proofs.YtjcnhkmhcfmoeaaGreat
