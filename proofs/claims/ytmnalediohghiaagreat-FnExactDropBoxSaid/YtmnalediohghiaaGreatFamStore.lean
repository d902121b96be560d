/-
  The laws' functions over a store: size, copy, equality.
-/
import Derived.Test.YtmnalediohghiaaGreatFamBoxS
import Derived.Test.YtmnalediohghiaaGreatFamCommit
namespace Go.Proofs.YtmnalediohghiaaGreat
open Go.RowKit
set_option linter.unusedVariables false
set_option linter.unusedSimpArgs false

set_option maxHeartbeats 1000000 in
theorem szStore_any (xb : List PBox) (xbA : Option Addr) (xbC : Nat) (xl : List DCommit) (xlA : Option Addr) (xlC : Nat) (xg : Int) (left : Int) (w : World) (xRB : Rd w xbA xbC 4 xb.length (xb.flatMap PBox.cells)) (xRM : RdM w xb) (xRL : Rd w xlA xlC 6 xl.length (xl.flatMap DCommit.cells)) (h0 : 0 ≤ left) (h1 : left ≤ 1048576) (hbn : ∀ y ∈ xb, y.name.size ≤ 9223372036854775807) (hbt : ∀ y ∈ xb, ∀ m ∈ y.msgs, m.text.size ≤ 9223372036854775807) (hcn : ∀ y ∈ xl, y.name.size ≤ 9223372036854775807) (hct : ∀ y ∈ xl, y.text.size ≤ 9223372036854775807) :
    Calls Tryz.prog 10 #[.agg #[.slice xbA xb.length xbC, .slice xlA xl.length xlC, .int .i64 xg], .int .i64 left] w (SzPost left (PBox.szS xb + DCommit.szS xl) w) := by
  have HxRB := Lib.hid xRB
  have HxRM := Lib.hid xRM
  have HxRL := Lib.hid xRL
  clear xRB xRM xRL
  have HBN := Lib.hid hbn
  have HBT := Lib.hid hbt
  have HCN := Lib.hid hcn
  have HCT := Lib.hid hct
  clear hbn hbt hcn hct
  go_enter Tryz.func10, Tryz.ntmps10
  go_wp2_with fail
  refine (szBoxS_any xb _ _ left _ (HxRB.out.ext bxt) (HxRM.out.ext bxt) h0 h1 HBN.out HBT.out).mono ?_
  rintro e w1 ⟨r1, rfl, hr1, hb1⟩
  rcases hr1 with hr1 | ⟨hr10, hr1⟩
  · go_wp2_with fail
    go_ret
    exact ⟨_, rfl, Or.inl (by omega), bxt⟩
  have cl0_0 : w1.cell? ⟨w.heap.size, 0, none⟩ = some (.slice xbA xb.length xbC) := (hb1.cell (p := ⟨w.heap.size, 0, none⟩) smx).trans kpx; have cl0_1 : w1.cell? ⟨w.heap.size, 1, none⟩ = some (.slice xlA xl.length xlC) := (hb1.cell (p := ⟨w.heap.size, 1, none⟩) smx).trans kpx; have cl0_2 : w1.cell? ⟨w.heap.size, 2, none⟩ = some (.int .i64 xg) := (hb1.cell (p := ⟨w.heap.size, 2, none⟩) smx).trans kpx; have sl0 : w.heap.size < w1.heap.size := (by have hss := hb1.size; first | omega | (simp at hss; omega))
  have hr2 : r1 ≤ 1048576 := by omega
  have HR1 := Lib.hid hr1
  clear hr1
  go_wp2_with fail
  refine (szCommitS_any xl _ _ r1 _ (HxRL.out.ext bxt) hr10 hr2 HCN.out HCT.out).mono ?_
  rintro e w2 ⟨r3, rfl, hr3, hb2⟩
  rcases hr3 with hr3 | ⟨hr30, hr3⟩
  · go_wp2_with fail
    go_ret
    exact ⟨_, rfl, Or.inl (by omega), bxt⟩
  have HR3 := Lib.hid hr3
  clear hr3
  go_wp2_with fail
  go_ret
  exact ⟨_, rfl, Or.inr ⟨hr30, by (have h4 := HR1.out; have h5 := HR3.out; omega)⟩, bxt⟩

set_option maxHeartbeats 1000000 in
theorem eqStore_any (xb : List PBox) (xbA : Option Addr) (xbC : Nat) (xl : List DCommit) (xlA : Option Addr) (xlC : Nat) (xg : Int) (yb : List PBox) (ybA : Option Addr) (ybC : Nat) (yl : List DCommit) (ylA : Option Addr) (ylC : Nat) (yg : Int) (w : World) (xRB : Rd w xbA xbC 4 xb.length (xb.flatMap PBox.cells)) (xRM : RdM w xb) (xRL : Rd w xlA xlC 6 xl.length (xl.flatMap DCommit.cells)) (yRB : Rd w ybA ybC 4 yb.length (yb.flatMap PBox.cells)) (yRM : RdM w yb) (yRL : Rd w ylA ylC 6 yl.length (yl.flatMap DCommit.cells)) (r : Bool) (Hr : Hid (decide (xb.map PBox.box = yb.map PBox.box ∧ xl = yl ∧ xg = yg) = r)) :
    Calls Tryz.prog 14 #[.agg #[.slice xbA xb.length xbC, .slice xlA xl.length xlC, .int .i64 xg], .agg #[.slice ybA yb.length ybC, .slice ylA yl.length ylC, .int .i64 yg]] w fun e w' => e = .returned (.bool r) ∧ Ext w w' := by
  have HxRB := Lib.hid xRB
  have HxRM := Lib.hid xRM
  have HxRL := Lib.hid xRL
  clear xRB xRM xRL
  have HyRB := Lib.hid yRB
  have HyRM := Lib.hid yRM
  have HyRL := Lib.hid yRL
  clear yRB yRM yRL
  obtain ⟨d1, hd1⟩ : ∃ d, decide (xb.map PBox.box = yb.map PBox.box) = d := ⟨_, rfl⟩
  have HD1 := Lib.hid hd1
  clear hd1
  obtain ⟨d2, hd2⟩ : ∃ d, decide (xl = yl) = d := ⟨_, rfl⟩
  have HD2 := Lib.hid hd2
  clear hd2
  go_enter Tryz.func14, Tryz.ntmps14
  go_wp2_with (first | (go_at_call 48; refine (eqBoxS_any xb yb _ _ _ _ _ (HxRB.out.ext bxt) (HxRM.out.ext bxt) (HyRB.out.ext bxt) (HyRM.out.ext bxt) d1 HD1).mono ?_; rintro e w1 ⟨rfl, hb1⟩; have cl0_0 : w1.cell? ⟨w.heap.size, 0, none⟩ = some (.slice xbA xb.length xbC) := (hb1.cell (p := ⟨w.heap.size, 0, none⟩) smx).trans kpx; have cl0_1 : w1.cell? ⟨w.heap.size, 1, none⟩ = some (.slice xlA xl.length xlC) := (hb1.cell (p := ⟨w.heap.size, 1, none⟩) smx).trans kpx; have cl0_2 : w1.cell? ⟨w.heap.size, 2, none⟩ = some (.int .i64 xg) := (hb1.cell (p := ⟨w.heap.size, 2, none⟩) smx).trans kpx; have sl0 : w.heap.size < w1.heap.size := (by have hss := hb1.size; first | omega | (simp at hss; omega)); have cl1_0 : w1.cell? ⟨w.heap.size + 1, 0, none⟩ = some (.slice ybA yb.length ybC) := (hb1.cell (p := ⟨w.heap.size + 1, 0, none⟩) smx).trans kpx; have cl1_1 : w1.cell? ⟨w.heap.size + 1, 1, none⟩ = some (.slice ylA yl.length ylC) := (hb1.cell (p := ⟨w.heap.size + 1, 1, none⟩) smx).trans kpx; have cl1_2 : w1.cell? ⟨w.heap.size + 1, 2, none⟩ = some (.int .i64 yg) := (hb1.cell (p := ⟨w.heap.size + 1, 2, none⟩) smx).trans kpx; have sl1 : w.heap.size + 1 < w1.heap.size := (by have hss := hb1.size; first | omega | (simp at hss; omega))) | (go_at_call 49; refine (eqCommitS_any xl yl _ _ _ _ _ (HxRL.out.ext bxt) (HyRL.out.ext bxt) d2 HD2).mono ?_; rintro e w2 ⟨rfl, hb2⟩; have cl0_0 : w2.cell? ⟨w.heap.size, 0, none⟩ = some (.slice xbA xb.length xbC) := (hb2.cell (p := ⟨w.heap.size, 0, none⟩) smx).trans kpx; have cl0_1 : w2.cell? ⟨w.heap.size, 1, none⟩ = some (.slice xlA xl.length xlC) := (hb2.cell (p := ⟨w.heap.size, 1, none⟩) smx).trans kpx; have cl0_2 : w2.cell? ⟨w.heap.size, 2, none⟩ = some (.int .i64 xg) := (hb2.cell (p := ⟨w.heap.size, 2, none⟩) smx).trans kpx; have sl0 : w.heap.size < w2.heap.size := (by have hss := hb2.size; first | omega | (simp at hss; omega)); have cl1_0 : w2.cell? ⟨w.heap.size + 1, 0, none⟩ = some (.slice ybA yb.length ybC) := (hb2.cell (p := ⟨w.heap.size + 1, 0, none⟩) smx).trans kpx; have cl1_1 : w2.cell? ⟨w.heap.size + 1, 1, none⟩ = some (.slice ylA yl.length ylC) := (hb2.cell (p := ⟨w.heap.size + 1, 1, none⟩) smx).trans kpx; have cl1_2 : w2.cell? ⟨w.heap.size + 1, 2, none⟩ = some (.int .i64 yg) := (hb2.cell (p := ⟨w.heap.size + 1, 2, none⟩) smx).trans kpx; have sl1 : w.heap.size + 1 < w2.heap.size := (by have hss := hb2.size; first | omega | (simp at hss; omega))))
  all_goals go_ret
  all_goals go_tidy
  all_goals refine ⟨ret_bool ?_, bxt⟩
  all_goals rw [← Hr.out]
  all_goals (have hd1 := HD1.out; have hd2 := HD2.out)
  all_goals clear HD1 HD2
  all_goals simp_all

/-- a store of the call's own -/
structure OwnSt (w : World) (B E EM EC : Nat) (ba : Option Addr) (bc : Nat) (zs : List PBox) (la : Option Addr) (lc : Nat) (l : List DCommit) : Prop where
  box : OwnBs w B E EM ba bc zs
  log : Own w B EC 6 (.slice la l.length lc) l.length (l.flatMap DCommit.cells)
  offr : Off2 (.slice ba zs.length bc) (.slice la l.length lc)
  offm : ∀ z ∈ zs, Off2 (.slice z.ma z.msgs.length z.mc) (.slice la l.length lc)
theorem OwnSt.ext {w w' : World} {B E EM EC : Nat} {ba la : Option Addr} {bc lc : Nat} {zs : List PBox} {l : List DCommit} (h : OwnSt w B E EM EC ba bc zs la lc l) (hb : Below w.heap.size w w') : OwnSt w' B E EM EC ba bc zs la lc l := ⟨h.box.ext hb, h.log.ext hb, h.offr, h.offm⟩
set_option maxRecDepth 100000 in
set_option maxHeartbeats 1000000 in
theorem toStore_any (xb : List PBox) (xbA : Option Addr) (xbC : Nat) (xl : List DCommit) (xlA : Option Addr) (xlC : Nat) (xg : Int) (w : World) (xRB : Rd w xbA xbC 4 xb.length (xb.flatMap PBox.cells)) (xRM : RdM w xb) (xRL : Rd w xlA xlC 6 xl.length (xl.flatMap DCommit.cells)) (hl : xb.length ≤ 1048576) (hlm : ∀ y ∈ xb, y.msgs.length ≤ 1048576) (hll : xl.length ≤ 1048576) :
    Calls Tryz.prog 12 #[.agg #[.slice xbA xb.length xbC, .slice xlA xl.length xlC, .int .i64 xg]] w fun e w' => ∃ g1 zs g2, e = .returned (.agg #[.slice (some ⟨g1, 0, none⟩) zs.length zs.length, .slice (some ⟨g2, 0, none⟩) xl.length xl.length, .int .i64 xg]) ∧ OwnSt w' w.heap.size 73 78 59 (some ⟨g1, 0, none⟩) zs.length zs (some ⟨g2, 0, none⟩) xl.length xl ∧ zs.map PBox.box = xb.map PBox.box ∧ Ext w w' := by
  have HxRB := Lib.hid xRB
  have HxRM := Lib.hid xRM
  have HxRL := Lib.hid xRL
  clear xRB xRM xRL
  have HLM := Lib.hid hlm
  clear hlm
  go_enter Tryz.func12, Tryz.ntmps12
  go_wp2_with (first | (go_at_call 39; refine (toBoxS_any xb _ _ _ (HxRB.out.ext bxt) (HxRM.out.ext bxt) hl HLM.out).mono ?_; rintro e w1 ⟨g1, zs, rfl, hown, hz, hb1⟩; have HO := Lib.hid (hown.le (by first | (simp; done) | (simp; omega) | omega : w.heap.size + 3 ≤ _)); have HZ := Lib.hid hz; clear hown hz; have c0_0 : w1.cell? ⟨w.heap.size + 1, 0, none⟩ = some (.slice none 0 0) := (hb1.cell (p := ⟨w.heap.size + 1, 0, none⟩) smx).trans kpx; have f0_0 : w1.frozen? ⟨w.heap.size + 1, 0, none⟩ = false := (hb1.frozen (p := ⟨w.heap.size + 1, 0, none⟩) smx).trans kfx; have c0_1 : w1.cell? ⟨w.heap.size + 1, 1, none⟩ = some (.slice none 0 0) := (hb1.cell (p := ⟨w.heap.size + 1, 1, none⟩) smx).trans kpx; have f0_1 : w1.frozen? ⟨w.heap.size + 1, 1, none⟩ = false := (hb1.frozen (p := ⟨w.heap.size + 1, 1, none⟩) smx).trans kfx; have c0_2 : w1.cell? ⟨w.heap.size + 1, 2, none⟩ = some (.int .i64 0) := (hb1.cell (p := ⟨w.heap.size + 1, 2, none⟩) smx).trans kpx; have f0_2 : w1.frozen? ⟨w.heap.size + 1, 2, none⟩ = false := (hb1.frozen (p := ⟨w.heap.size + 1, 2, none⟩) smx).trans kfx; have s0 : w.heap.size + 1 < w1.heap.size := (by have hss := hb1.size; first | omega | (simp at hss; omega)); have c1_0 : w1.cell? ⟨w.heap.size + 2, 0, none⟩ = some (.slice none 0 0) := (hb1.cell (p := ⟨w.heap.size + 2, 0, none⟩) smx).trans kpx; have f1_0 : w1.frozen? ⟨w.heap.size + 2, 0, none⟩ = false := (hb1.frozen (p := ⟨w.heap.size + 2, 0, none⟩) smx).trans kfx; have c1_1 : w1.cell? ⟨w.heap.size + 2, 1, none⟩ = some (.slice none 0 0) := (hb1.cell (p := ⟨w.heap.size + 2, 1, none⟩) smx).trans kpx; have f1_1 : w1.frozen? ⟨w.heap.size + 2, 1, none⟩ = false := (hb1.frozen (p := ⟨w.heap.size + 2, 1, none⟩) smx).trans kfx; have c1_2 : w1.cell? ⟨w.heap.size + 2, 2, none⟩ = some (.int .i64 0) := (hb1.cell (p := ⟨w.heap.size + 2, 2, none⟩) smx).trans kpx; have f1_2 : w1.frozen? ⟨w.heap.size + 2, 2, none⟩ = false := (hb1.frozen (p := ⟨w.heap.size + 2, 2, none⟩) smx).trans kfx; have s1 : w.heap.size + 2 < w1.heap.size := (by have hss := hb1.size; first | omega | (simp at hss; omega)); have cl0_0 : w1.cell? ⟨w.heap.size, 0, none⟩ = some (.slice xbA xb.length xbC) := (hb1.cell (p := ⟨w.heap.size, 0, none⟩) smx).trans kpx; have cl0_1 : w1.cell? ⟨w.heap.size, 1, none⟩ = some (.slice xlA xl.length xlC) := (hb1.cell (p := ⟨w.heap.size, 1, none⟩) smx).trans kpx; have cl0_2 : w1.cell? ⟨w.heap.size, 2, none⟩ = some (.int .i64 xg) := (hb1.cell (p := ⟨w.heap.size, 2, none⟩) smx).trans kpx; have sl0 : w.heap.size < w1.heap.size := (by have hss := hb1.size; first | omega | (simp at hss; omega))) | (go_at_call 40; refine (toCommitS_any xl _ _ _ (HxRL.out.ext bxt) hll).mono ?_; rintro e w2 ⟨g2, rfl, hown, hb2⟩; have HL := Lib.hid (Own.of_row hown); clear hown; have c0_0 : w2.cell? ⟨w.heap.size + 1, 0, none⟩ = some (.slice none 0 0) := (hb2.cell (p := ⟨w.heap.size + 1, 0, none⟩) smx).trans kpx; have f0_0 : w2.frozen? ⟨w.heap.size + 1, 0, none⟩ = false := (hb2.frozen (p := ⟨w.heap.size + 1, 0, none⟩) smx).trans kfx; have c0_1 : w2.cell? ⟨w.heap.size + 1, 1, none⟩ = some (.slice none 0 0) := (hb2.cell (p := ⟨w.heap.size + 1, 1, none⟩) smx).trans kpx; have f0_1 : w2.frozen? ⟨w.heap.size + 1, 1, none⟩ = false := (hb2.frozen (p := ⟨w.heap.size + 1, 1, none⟩) smx).trans kfx; have c0_2 : w2.cell? ⟨w.heap.size + 1, 2, none⟩ = some (.int .i64 0) := (hb2.cell (p := ⟨w.heap.size + 1, 2, none⟩) smx).trans kpx; have f0_2 : w2.frozen? ⟨w.heap.size + 1, 2, none⟩ = false := (hb2.frozen (p := ⟨w.heap.size + 1, 2, none⟩) smx).trans kfx; have s0 : w.heap.size + 1 < w2.heap.size := (by have hss := hb2.size; first | omega | (simp at hss; omega)); have c1_0 : w2.cell? ⟨w.heap.size + 2, 0, none⟩ = some (.slice (some ⟨g1, 0, none⟩) zs.length zs.length) := (hb2.cell (p := ⟨w.heap.size + 2, 0, none⟩) smx).trans kpx; have f1_0 : w2.frozen? ⟨w.heap.size + 2, 0, none⟩ = false := (hb2.frozen (p := ⟨w.heap.size + 2, 0, none⟩) smx).trans kfx; have c1_1 : w2.cell? ⟨w.heap.size + 2, 1, none⟩ = some (.slice none 0 0) := (hb2.cell (p := ⟨w.heap.size + 2, 1, none⟩) smx).trans kpx; have f1_1 : w2.frozen? ⟨w.heap.size + 2, 1, none⟩ = false := (hb2.frozen (p := ⟨w.heap.size + 2, 1, none⟩) smx).trans kfx; have c1_2 : w2.cell? ⟨w.heap.size + 2, 2, none⟩ = some (.int .i64 0) := (hb2.cell (p := ⟨w.heap.size + 2, 2, none⟩) smx).trans kpx; have f1_2 : w2.frozen? ⟨w.heap.size + 2, 2, none⟩ = false := (hb2.frozen (p := ⟨w.heap.size + 2, 2, none⟩) smx).trans kfx; have s1 : w.heap.size + 2 < w2.heap.size := (by have hss := hb2.size; first | omega | (simp at hss; omega)); have cl0_0 : w2.cell? ⟨w.heap.size, 0, none⟩ = some (.slice xbA xb.length xbC) := (hb2.cell (p := ⟨w.heap.size, 0, none⟩) smx).trans kpx; have cl0_1 : w2.cell? ⟨w.heap.size, 1, none⟩ = some (.slice xlA xl.length xlC) := (hb2.cell (p := ⟨w.heap.size, 1, none⟩) smx).trans kpx; have cl0_2 : w2.cell? ⟨w.heap.size, 2, none⟩ = some (.int .i64 xg) := (hb2.cell (p := ⟨w.heap.size, 2, none⟩) smx).trans kpx; have sl0 : w.heap.size < w2.heap.size := (by have hss := hb2.size; first | omega | (simp at hss; omega))))
  have h1 : Own w1 (w.heap.size + 3) 73 4 (.slice (some ⟨g1, 0, none⟩) zs.length zs.length) zs.length (zs.flatMap PBox.cells) := HO.out.row
  refine bodyPost_ret (v := .agg #[.slice (some ⟨g1, 0, none⟩) zs.length zs.length, .slice (some ⟨g2, 0, none⟩) xl.length xl.length, .int .i64 xg]) (by simp [results, Tryz.results12, go_sem, *]) rfl ⟨g1, zs, g2, rfl, ⟨⟨?_, fun z hz => ?_, HO.out.off, HO.out.apart⟩, ?_, ?_, fun z hz => ?_⟩, HZ.out, ?_⟩
  · refine Own.le (B := w.heap.size + 3) ?_ (by omega)
    exact (by repeat' (first | with_reducible exact h1 | with_reducible refine Own.set_below ?_ smx _ | with_reducible refine Own.alloc1 ?_ _ | with_reducible refine Own.drew1 ?_ | with_reducible refine Own.drewN1 ?_ | with_reducible refine Own.ext ?_ (by assumption)))
  · have h2 := HO.out.msg z hz
    refine Own.le (B := w.heap.size + 3) ?_ (by omega)
    exact (by repeat' (first | with_reducible exact h2 | with_reducible refine Own.set_below ?_ smx _ | with_reducible refine Own.alloc1 ?_ _ | with_reducible refine Own.drew1 ?_ | with_reducible refine Own.drewN1 ?_ | with_reducible refine Own.ext ?_ (by assumption)))
  · have h3 : Own w2 (w.heap.size + 3) 59 6 (.slice (some ⟨g2, 0, none⟩) xl.length xl.length) xl.length (xl.flatMap DCommit.cells) := HL.out.le (by simp; omega)
    refine Own.le (B := w.heap.size + 3) ?_ (by omega)
    exact (by repeat' (first | with_reducible exact h3 | with_reducible refine Own.set_below ?_ smx _ | with_reducible refine Own.alloc1 ?_ _ | with_reducible refine Own.drew1 ?_ | with_reducible refine Own.drewN1 ?_ | with_reducible refine Own.ext ?_ (by assumption)))
  · exact Off2.of h1 HL.out (by simp)
  · exact Off2.of (HO.out.msg z hz) HL.out (by simp)
  · exact bxt
end Go.Proofs.YtmnalediohghiaaGreat
