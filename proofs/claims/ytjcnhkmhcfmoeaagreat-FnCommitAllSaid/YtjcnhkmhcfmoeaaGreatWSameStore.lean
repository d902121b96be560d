/-
  Whether two stores are equal: the program's function and the reference's.
-/
import Derived.Test.YtjcnhkmhcfmoeaaGreatXFam
import Derived.Test.YtjcnhkmhcfmoeaaGreatWSameBoxes
namespace Go.Proofs.YtjcnhkmhcfmoeaaGreat
open Go.RowKit
set_option linter.unusedVariables false
set_option linter.unusedSimpArgs false

set_option maxRecDepth 100000 in
set_option maxHeartbeats 4000000 in
theorem specSameStore_any (xb : List PBox) (xbA : Option Addr) (xbC : Nat) (xl : List DCommit) (xlA : Option Addr) (xlC : Nat) (xg : Int) (yb : List PBox) (ybA : Option Addr) (ybC : Nat) (yl : List DCommit) (ylA : Option Addr) (ylC : Nat) (yg : Int) (w : World) (xRB : Rd w xbA xbC 4 xb.length (xb.flatMap PBox.cells)) (xRM : RdM w xb) (xRL : Rd w xlA xlC 6 xl.length (xl.flatMap DCommit.cells)) (yRB : Rd w ybA ybC 4 yb.length (yb.flatMap PBox.cells)) (yRM : RdM w yb) (yRL : Rd w ylA ylC 6 yl.length (yl.flatMap DCommit.cells)) (r : Bool) (Hr : Hid (decide (xb.map PBox.box = yb.map PBox.box ∧ xl = yl ∧ xg = yg) = r)) :
    Calls Tryz.prog 16 #[.agg #[.slice xbA xb.length xbC, .slice xlA xl.length xlC, .int .i64 xg], .agg #[.slice ybA yb.length ybC, .slice ylA yl.length ylC, .int .i64 yg]] w fun e w' => e = .returned (.bool r) ∧ Ext w w' := by
  have hnx := xRL.nc
  have hmx := xRL.cm
  have hgE := eqCommitG
  have HxRB := Lib.hid xRB
  have HxRM := Lib.hid xRM
  have HxRL := Lib.hid xRL
  clear xRB xRM xRL
  have HyRB := Lib.hid yRB
  have HyRM := Lib.hid yRM
  have HyRL := Lib.hid yRL
  clear yRB yRM yRL
  obtain ⟨d1, hd1⟩ : ∃ d, decide (xb.map PBox.box = yb.map PBox.box) = d := ⟨_, rfl⟩
  have HD1 := Lib.hid hd1
  clear hd1
  by_cases hg : xg = yg
  rotate_left
  · have g1 : (xg != yg) = true := bne_iff_ne.2 hg
    have HG := Lib.hid hg
    clear hg
    go_enter Tryz.func16, Tryz.ntmps16
    go_wp2_with (go_at_call 20; refine (specSameBoxes_any xb yb _ _ _ _ _ (HxRB.out.ext bxt) (HxRM.out.ext bxt) (HyRB.out.ext bxt) (HyRM.out.ext bxt) d1 HD1).mono ?_; rintro e w1 ⟨rfl, hb1⟩; have cl0_0 : w1.cell? ⟨w.heap.size, 0, none⟩ = some (.slice xbA xb.length xbC) := (hb1.cell (p := ⟨w.heap.size, 0, none⟩) smx).trans kpx; have cl0_1 : w1.cell? ⟨w.heap.size, 1, none⟩ = some (.slice xlA xl.length xlC) := (hb1.cell (p := ⟨w.heap.size, 1, none⟩) smx).trans kpx; have cl0_2 : w1.cell? ⟨w.heap.size, 2, none⟩ = some (.int .i64 xg) := (hb1.cell (p := ⟨w.heap.size, 2, none⟩) smx).trans kpx; have sl0 : w.heap.size < w1.heap.size := (by have hss := hb1.size; first | omega | (simp at hss; omega)); have cl1_0 : w1.cell? ⟨w.heap.size + 1, 0, none⟩ = some (.slice ybA yb.length ybC) := (hb1.cell (p := ⟨w.heap.size + 1, 0, none⟩) smx).trans kpx; have cl1_1 : w1.cell? ⟨w.heap.size + 1, 1, none⟩ = some (.slice ylA yl.length ylC) := (hb1.cell (p := ⟨w.heap.size + 1, 1, none⟩) smx).trans kpx; have cl1_2 : w1.cell? ⟨w.heap.size + 1, 2, none⟩ = some (.int .i64 yg) := (hb1.cell (p := ⟨w.heap.size + 1, 2, none⟩) smx).trans kpx; have sl1 : w.heap.size + 1 < w1.heap.size := (by have hss := hb1.size; first | omega | (simp at hss; omega)))
    go_ret
    refine ⟨ret_bool ?_, bxt⟩
    rw [← Hr.out]
    simp [HG.out]
  have g1 : (xg != yg) = false := by simp [hg]
  have HG := Lib.hid hg
  clear hg
  by_cases hn : xl.length = yl.length
  rotate_left
  · have g2 : ((xl.length : Int) != (yl.length : Int)) = true := by simp; omega
    have HN : Hid (xl ≠ yl) := fun h => hn (by rw [h])
    clear hn
    go_enter Tryz.func16, Tryz.ntmps16
    go_wp2_with (go_at_call 20; refine (specSameBoxes_any xb yb _ _ _ _ _ (HxRB.out.ext bxt) (HxRM.out.ext bxt) (HyRB.out.ext bxt) (HyRM.out.ext bxt) d1 HD1).mono ?_; rintro e w1 ⟨rfl, hb1⟩; have cl0_0 : w1.cell? ⟨w.heap.size, 0, none⟩ = some (.slice xbA xb.length xbC) := (hb1.cell (p := ⟨w.heap.size, 0, none⟩) smx).trans kpx; have cl0_1 : w1.cell? ⟨w.heap.size, 1, none⟩ = some (.slice xlA xl.length xlC) := (hb1.cell (p := ⟨w.heap.size, 1, none⟩) smx).trans kpx; have cl0_2 : w1.cell? ⟨w.heap.size, 2, none⟩ = some (.int .i64 xg) := (hb1.cell (p := ⟨w.heap.size, 2, none⟩) smx).trans kpx; have sl0 : w.heap.size < w1.heap.size := (by have hss := hb1.size; first | omega | (simp at hss; omega)); have cl1_0 : w1.cell? ⟨w.heap.size + 1, 0, none⟩ = some (.slice ybA yb.length ybC) := (hb1.cell (p := ⟨w.heap.size + 1, 0, none⟩) smx).trans kpx; have cl1_1 : w1.cell? ⟨w.heap.size + 1, 1, none⟩ = some (.slice ylA yl.length ylC) := (hb1.cell (p := ⟨w.heap.size + 1, 1, none⟩) smx).trans kpx; have cl1_2 : w1.cell? ⟨w.heap.size + 1, 2, none⟩ = some (.int .i64 yg) := (hb1.cell (p := ⟨w.heap.size + 1, 2, none⟩) smx).trans kpx; have sl1 : w.heap.size + 1 < w1.heap.size := (by have hss := hb1.size; first | omega | (simp at hss; omega)))
    go_ret
    refine ⟨ret_bool ?_, bxt⟩
    rw [← Hr.out]
    simp [HN.out]
  have g2 : ((xl.length : Int) != (yl.length : Int)) = false := by simp; omega
  have HN := Lib.hid hn
  clear hn
  cases d1 with
  | false =>
    go_enter Tryz.func16, Tryz.ntmps16
    go_wp2_with (go_at_call 20; refine (specSameBoxes_any xb yb _ _ _ _ _ (HxRB.out.ext bxt) (HxRM.out.ext bxt) (HyRB.out.ext bxt) (HyRM.out.ext bxt) false HD1).mono ?_; rintro e w1 ⟨rfl, hb1⟩; have cl0_0 : w1.cell? ⟨w.heap.size, 0, none⟩ = some (.slice xbA xb.length xbC) := (hb1.cell (p := ⟨w.heap.size, 0, none⟩) smx).trans kpx; have cl0_1 : w1.cell? ⟨w.heap.size, 1, none⟩ = some (.slice xlA xl.length xlC) := (hb1.cell (p := ⟨w.heap.size, 1, none⟩) smx).trans kpx; have cl0_2 : w1.cell? ⟨w.heap.size, 2, none⟩ = some (.int .i64 xg) := (hb1.cell (p := ⟨w.heap.size, 2, none⟩) smx).trans kpx; have sl0 : w.heap.size < w1.heap.size := (by have hss := hb1.size; first | omega | (simp at hss; omega)); have cl1_0 : w1.cell? ⟨w.heap.size + 1, 0, none⟩ = some (.slice ybA yb.length ybC) := (hb1.cell (p := ⟨w.heap.size + 1, 0, none⟩) smx).trans kpx; have cl1_1 : w1.cell? ⟨w.heap.size + 1, 1, none⟩ = some (.slice ylA yl.length ylC) := (hb1.cell (p := ⟨w.heap.size + 1, 1, none⟩) smx).trans kpx; have cl1_2 : w1.cell? ⟨w.heap.size + 1, 2, none⟩ = some (.int .i64 yg) := (hb1.cell (p := ⟨w.heap.size + 1, 2, none⟩) smx).trans kpx; have sl1 : w.heap.size + 1 < w1.heap.size := (by have hss := hb1.size; first | omega | (simp at hss; omega)))
    go_ret
    refine ⟨ret_bool ?_, bxt⟩
    rw [← Hr.out]
    simp [of_decide_eq_false HD1.out]
  | true =>
    go_enter Tryz.func16, Tryz.ntmps16
    go_wp2_with (go_at_call 20; refine (specSameBoxes_any xb yb _ _ _ _ _ (HxRB.out.ext bxt) (HxRM.out.ext bxt) (HyRB.out.ext bxt) (HyRM.out.ext bxt) true HD1).mono ?_; rintro e w1 ⟨rfl, hb1⟩; have cl0_0 : w1.cell? ⟨w.heap.size, 0, none⟩ = some (.slice xbA xb.length xbC) := (hb1.cell (p := ⟨w.heap.size, 0, none⟩) smx).trans kpx; have cl0_1 : w1.cell? ⟨w.heap.size, 1, none⟩ = some (.slice xlA xl.length xlC) := (hb1.cell (p := ⟨w.heap.size, 1, none⟩) smx).trans kpx; have cl0_2 : w1.cell? ⟨w.heap.size, 2, none⟩ = some (.int .i64 xg) := (hb1.cell (p := ⟨w.heap.size, 2, none⟩) smx).trans kpx; have sl0 : w.heap.size < w1.heap.size := (by have hss := hb1.size; first | omega | (simp at hss; omega)); have cl1_0 : w1.cell? ⟨w.heap.size + 1, 0, none⟩ = some (.slice ybA yb.length ybC) := (hb1.cell (p := ⟨w.heap.size + 1, 0, none⟩) smx).trans kpx; have cl1_1 : w1.cell? ⟨w.heap.size + 1, 1, none⟩ = some (.slice ylA yl.length ylC) := (hb1.cell (p := ⟨w.heap.size + 1, 1, none⟩) smx).trans kpx; have cl1_2 : w1.cell? ⟨w.heap.size + 1, 2, none⟩ = some (.int .i64 yg) := (hb1.cell (p := ⟨w.heap.size + 1, 2, none⟩) smx).trans kpx; have sl1 : w.heap.size + 1 < w1.heap.size := (by have hss := hb1.size; first | omega | (simp at hss; omega)))
    go_loopw [5] (fun i wr => ∃ k : Nat, k ≤ xl.length ∧ i = .int .i64 k ∧ Hid (∀ j, j < k → xl[j]? = yl[j]?) ∧ Hid (∃ n, wr = w1.drewN n)) (fun i _ => xl.length - (intOf i).toNat)
    case atStart => exact ⟨0, Nat.zero_le _, rfl, by simp [Hid], ⟨0, rfl⟩⟩
    case round =>
      obtain ⟨k, hk, rfl, HP, HB⟩ := hrel
      obtain ⟨nq0, hw0⟩ := HB.out
      subst hw0
      have hw01 : Below w.heap.size w w1 := bxt
      by_cases hlt : k < xl.length
      · have hlty : k < yl.length := by have := HN.out; omega
        have hlty2 : (k : Int) < (yl.length : Int) := by omega
        obtain ⟨b1, o1, rfl, hb1q, hat1⟩ := HxRL.out.ptr (by omega)
        obtain ⟨b2, o2, rfl, hb2q, hat2⟩ := HyRL.out.ptr (by omega)
        obtain ⟨hx0, hx1, hx2, hx3, hx4, hx5⟩ := DCommit.at (hat1.ext hb1q hw01) k hlt
        obtain ⟨hy0, hy1, hy2, hy3, hy4, hy5⟩ := DCommit.at (hat2.ext hb2q hw01) k hlty
        have HA1 := Lib.hid hat1
        have HA2 := Lib.hid hat2
        clear hat1 hat2
        obtain ⟨d, hd⟩ : ∃ d, decide (xl[k] = yl[k]) = d := ⟨_, rfl⟩
        have hq := eqCommitB xl[k] yl[k] d hd
        have HD := Lib.hid hd
        clear hd
        go_wp2_with fail
        go_quiet (fail)
        cases d
        · go_wp2_with fail
          go_ret
          refine ⟨ret_bool ?_, bxt⟩
          rw [← Hr.out]
          simp [ne_at hlt hlty (of_decide_eq_false HD.out)]
        · go_wp2_with fail
          go_roundw
          case rel => exact ⟨k + 1, by omega, by go_num, pre_succ HP.out hlt hlty (of_decide_eq_true HD.out), ⟨_, rfl⟩⟩
          case measure => simp [intOf]; omega
      · go_wp2_with fail
        go_ret
        refine ⟨ret_bool ?_, bxt⟩
        rw [← Hr.out]
        have hkk : k = xl.length := by omega
        subst hkk
        simp [all_pre HP.out HN.out, of_decide_eq_true HD1.out, HG.out]
end Go.Proofs.YtjcnhkmhcfmoeaaGreat
