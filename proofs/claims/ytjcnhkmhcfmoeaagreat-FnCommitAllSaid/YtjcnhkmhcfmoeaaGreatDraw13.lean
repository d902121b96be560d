/-
  The draws of the laws of stores.
-/
import Derived.Test.YtjcnhkmhcfmoeaaGreatXDrB
import Derived.Test.YtjcnhkmhcfmoeaaGreatXDr
namespace Go.Proofs.YtjcnhkmhcfmoeaaGreat
open Go.RowKit
set_option linter.unusedVariables false
set_option linter.unusedSimpArgs false

def DrRs1 (w : World) (e : Ending) (w' : World) : Prop := ∃ (ba : Option Addr) (bc : Nat) (zs : List PBox) (la : Option Addr) (lc : Nat) (l : List DCommit) (gv : Int), zs.length ≤ 5 ∧ SmB 6 zs ∧ l.length ≤ 320 ∧ SmL l ∧ e = .returned (.agg #[.slice ba zs.length bc, .slice la l.length lc, .int .i64 gv]) ∧ OwnRt w' w.heap.size 49 66 41 ba bc zs la lc l ∧ Ext w w'
def DrRsI (w : World) (e : Ending) (w' : World) : Prop := ∃ (ba : Option Addr) (bc : Nat) (zs : List PBox) (la : Option Addr) (lc : Nat) (l : List DCommit) (gv : Int) (v : Int), zs.length ≤ 5 ∧ SmB 6 zs ∧ l.length ≤ 320 ∧ SmL l ∧ e = .returned (.tuple #[.agg #[.slice ba zs.length bc, .slice la l.length lc, .int .i64 gv], .int .i64 v]) ∧ OwnRt w' w.heap.size 49 66 41 ba bc zs la lc l ∧ Ext w w'
theorem OwnSt.rt {w : World} {B E EM EC : Nat} {ba : Option Addr} {bc : Nat} {zs : List PBox} {la : Option Addr} {lc : Nat} {l : List DCommit} (h : OwnSt w B E EM EC ba bc zs la lc l) : OwnRt w B E EM EC ba bc zs la lc l := ⟨h.box.rs, h.log⟩
set_option maxRecDepth 100000 in
set_option maxHeartbeats 4000000 in
theorem drawStoreOk_any (lb : List Int) (a : Option Addr) (c : Nat) (w : World) (R : Rd w a c 1 lb.length (lb.flatMap byteCells)) (hb : ∀ y ∈ lb, 0 ≤ y ∧ y ≤ 255) (hl : lb.length ≤ 1048576) :
    Calls Tryz.prog 28 #[.slice a lb.length c] w (DrRs1 w) := by
  have HR := Lib.hid R
  have HB := Lib.hid hb
  clear R hb
  go_enter Tryz.func28, Tryz.ntmps28
  go_wp2_with fail
  refine (l1New_any lb a c _ (HR.out.ext bxt) HB.out hl).mono ?_
  rintro e w1 ⟨cb, hcb, rfl, hcu, hb1⟩
  (try simp at hcb)
  have hcl := hcu.lt
  have HCU := Lib.hid hcu
  clear hcu
  have hz1 := hb1.size; (try simp at hz1)
  have s1_0 : w.heap.size < w1.heap.size := (by omega)
  have c1_0_0 : w1.cell? ⟨w.heap.size, 0, none⟩ = some (.slice none 0 0) := (hb1.cell (p := ⟨w.heap.size, 0, none⟩) smx).trans kpx
  have f1_0_0 : w1.frozen? ⟨w.heap.size, 0, none⟩ = false := (hb1.frozen (p := ⟨w.heap.size, 0, none⟩) smx).trans kfx
  have c1_0_1 : w1.cell? ⟨w.heap.size, 1, none⟩ = some (.slice none 0 0) := (hb1.cell (p := ⟨w.heap.size, 1, none⟩) smx).trans kpx
  have f1_0_1 : w1.frozen? ⟨w.heap.size, 1, none⟩ = false := (hb1.frozen (p := ⟨w.heap.size, 1, none⟩) smx).trans kfx
  have c1_0_2 : w1.cell? ⟨w.heap.size, 2, none⟩ = some (.int .i64 0) := (hb1.cell (p := ⟨w.heap.size, 2, none⟩) smx).trans kpx
  have f1_0_2 : w1.frozen? ⟨w.heap.size, 2, none⟩ = false := (hb1.frozen (p := ⟨w.heap.size, 2, none⟩) smx).trans kfx
  go_wp2_with fail
  refine (l11Bent_any cb _ (HCU.out.ext bxt)).mono ?_
  rintro e w2 ⟨ba, bc, zs, la, lc, l, gv, hzl, hsm, hll, hsl, rfl, ho, hd2⟩
  have hz2 := hd2.size; (try simp at hz2)
  have s2_0 : w.heap.size < w2.heap.size := (by omega)
  have c2_0_0 : w2.cell? ⟨w.heap.size, 0, none⟩ = some (.slice none 0 0) := (hd2.cell (x := w.heap.size) (o := 0) smx (by omega)).trans kpx
  have f2_0_0 : w2.frozen? ⟨w.heap.size, 0, none⟩ = false := (hd2.frozen (x := w.heap.size) (o := 0) smx (by omega)).trans kfx
  have c2_0_1 : w2.cell? ⟨w.heap.size, 1, none⟩ = some (.slice none 0 0) := (hd2.cell (x := w.heap.size) (o := 1) smx (by omega)).trans kpx
  have f2_0_1 : w2.frozen? ⟨w.heap.size, 1, none⟩ = false := (hd2.frozen (x := w.heap.size) (o := 1) smx (by omega)).trans kfx
  have c2_0_2 : w2.cell? ⟨w.heap.size, 2, none⟩ = some (.int .i64 0) := (hd2.cell (x := w.heap.size) (o := 2) smx (by omega)).trans kpx
  have f2_0_2 : w2.frozen? ⟨w.heap.size, 2, none⟩ = false := (hd2.frozen (x := w.heap.size) (o := 2) smx (by omega)).trans kfx
  have HSM := Lib.hid hsm; have HSL := Lib.hid hsl; have HO := Lib.hid ho; clear hsm hsl ho
  go_wp2_with fail
  refine bodyPost_ret (v := .agg #[.slice ba zs.length bc, .slice la l.length lc, .int .i64 gv]) (by simp [results, Tryz.results28, go_sem, *]) rfl ⟨ba, bc, zs, la, lc, l, gv, by omega, HSM.out, by omega, HSL.out, rfl, ?_, btx⟩
  refine OwnRt.le (B := w1.heap.size) ?_ (by omega)
  exact (by repeat' (first | with_reducible exact HO.out | with_reducible refine OwnRt.set_below ?_ smx _ | with_reducible refine OwnRt.ext ?_ bxt))
set_option maxRecDepth 100000 in
set_option maxHeartbeats 4000000 in
theorem drawBoxesAt_any (lb : List Int) (a : Option Addr) (c : Nat) (w : World) (R : Rd w a c 1 lb.length (lb.flatMap byteCells)) (hb : ∀ y ∈ lb, 0 ≤ y ∧ y ≤ 255) (hl : lb.length ≤ 1048576) :
    Calls Tryz.prog 17 #[.slice a lb.length c] w (DrRsI w) := by
  have HR := Lib.hid R
  have HB := Lib.hid hb
  clear R hb
  go_enter Tryz.func17, Tryz.ntmps17
  go_wp2_with fail
  refine (l1New_any lb a c _ (HR.out.ext bxt) HB.out hl).mono ?_
  rintro e w1 ⟨cb, hcb, rfl, hcu, hb1⟩
  (try simp at hcb)
  have hcl := hcu.lt
  have HCU := Lib.hid hcu
  clear hcu
  have hz1 := hb1.size; (try simp at hz1)
  have s1_0 : w.heap.size < w1.heap.size := (by omega)
  have c1_0_0 : w1.cell? ⟨w.heap.size, 0, none⟩ = some (.slice none 0 0) := (hb1.cell (p := ⟨w.heap.size, 0, none⟩) smx).trans kpx
  have f1_0_0 : w1.frozen? ⟨w.heap.size, 0, none⟩ = false := (hb1.frozen (p := ⟨w.heap.size, 0, none⟩) smx).trans kfx
  have c1_0_1 : w1.cell? ⟨w.heap.size, 1, none⟩ = some (.slice none 0 0) := (hb1.cell (p := ⟨w.heap.size, 1, none⟩) smx).trans kpx
  have f1_0_1 : w1.frozen? ⟨w.heap.size, 1, none⟩ = false := (hb1.frozen (p := ⟨w.heap.size, 1, none⟩) smx).trans kfx
  have c1_0_2 : w1.cell? ⟨w.heap.size, 2, none⟩ = some (.int .i64 0) := (hb1.cell (p := ⟨w.heap.size, 2, none⟩) smx).trans kpx
  have f1_0_2 : w1.frozen? ⟨w.heap.size, 2, none⟩ = false := (hb1.frozen (p := ⟨w.heap.size, 2, none⟩) smx).trans kfx
  go_wp2_with fail
  refine (l11Bent_any cb _ (HCU.out.ext bxt)).mono ?_
  rintro e w2 ⟨ba, bc, zs, la, lc, l, gv, hzl, hsm, hll, hsl, rfl, ho, hd2⟩
  have hz2 := hd2.size; (try simp at hz2)
  have s2_0 : w.heap.size < w2.heap.size := (by omega)
  have c2_0_0 : w2.cell? ⟨w.heap.size, 0, none⟩ = some (.slice none 0 0) := (hd2.cell (x := w.heap.size) (o := 0) smx (by omega)).trans kpx
  have f2_0_0 : w2.frozen? ⟨w.heap.size, 0, none⟩ = false := (hd2.frozen (x := w.heap.size) (o := 0) smx (by omega)).trans kfx
  have c2_0_1 : w2.cell? ⟨w.heap.size, 1, none⟩ = some (.slice none 0 0) := (hd2.cell (x := w.heap.size) (o := 1) smx (by omega)).trans kpx
  have f2_0_1 : w2.frozen? ⟨w.heap.size, 1, none⟩ = false := (hd2.frozen (x := w.heap.size) (o := 1) smx (by omega)).trans kfx
  have c2_0_2 : w2.cell? ⟨w.heap.size, 2, none⟩ = some (.int .i64 0) := (hd2.cell (x := w.heap.size) (o := 2) smx (by omega)).trans kpx
  have f2_0_2 : w2.frozen? ⟨w.heap.size, 2, none⟩ = false := (hd2.frozen (x := w.heap.size) (o := 2) smx (by omega)).trans kfx
  have HSM := Lib.hid hsm; have HSL := Lib.hid hsl; have HO := Lib.hid ho; clear hsm hsl ho
  have HCR := Lib.hid hd2.cur; have HD2 : Hid (Ext w w2) := btx
  have hw1 : IntKind.i64.wrap ((l.length : Int) + 2) = (l.length : Int) + 2 := IntWalk.i64_in _ (by omega)
  go_wp2_with fail
  go_region_law ((first | (go_simp; go_at_call 63; refine (l1Below_any cb ((l.length : Int) + 2) _ (HCR.out.ext bxt) (by omega)).mono ?_; rintro e w3 ⟨kv, ⟨kv0, kv1, -⟩, rfl, hd3⟩; have kv1 := kv1 (by omega); have hz3 := hd3.size; (try simp at hz3); have s3_0 : w.heap.size < w3.heap.size := (by omega); have c3_0_0 : w3.cell? ⟨w.heap.size, 0, none⟩ = some (.slice none 0 0) := (hd3.cell (x := w.heap.size) (o := 0) smx (by omega)).trans kpx; have f3_0_0 : w3.frozen? ⟨w.heap.size, 0, none⟩ = false := (hd3.frozen (x := w.heap.size) (o := 0) smx (by omega)).trans kfx; have c3_0_1 : w3.cell? ⟨w.heap.size, 1, none⟩ = some (.slice none 0 0) := (hd3.cell (x := w.heap.size) (o := 1) smx (by omega)).trans kpx; have f3_0_1 : w3.frozen? ⟨w.heap.size, 1, none⟩ = false := (hd3.frozen (x := w.heap.size) (o := 1) smx (by omega)).trans kfx; have c3_0_2 : w3.cell? ⟨w.heap.size, 2, none⟩ = some (.int .i64 0) := (hd3.cell (x := w.heap.size) (o := 2) smx (by omega)).trans kpx; have f3_0_2 : w3.frozen? ⟨w.heap.size, 2, none⟩ = false := (hd3.frozen (x := w.heap.size) (o := 2) smx (by omega)).trans kfx; have s3_1 : w2.heap.size < w3.heap.size := (by omega); have c3_1_0 : w3.cell? ⟨w2.heap.size, 0, none⟩ = some (.slice ba zs.length bc) := (hd3.cell (x := w2.heap.size) (o := 0) smx (by omega)).trans kpx; have f3_1_0 : w3.frozen? ⟨w2.heap.size, 0, none⟩ = false := (hd3.frozen (x := w2.heap.size) (o := 0) smx (by omega)).trans kfx; have c3_1_1 : w3.cell? ⟨w2.heap.size, 1, none⟩ = some (.slice la l.length lc) := (hd3.cell (x := w2.heap.size) (o := 1) smx (by omega)).trans kpx; have f3_1_1 : w3.frozen? ⟨w2.heap.size, 1, none⟩ = false := (hd3.frozen (x := w2.heap.size) (o := 1) smx (by omega)).trans kfx; have c3_1_2 : w3.cell? ⟨w2.heap.size, 2, none⟩ = some (.int .i64 gv) := (hd3.cell (x := w2.heap.size) (o := 2) smx (by omega)).trans kpx; have f3_1_2 : w3.frozen? ⟨w2.heap.size, 2, none⟩ = false := (hd3.frozen (x := w2.heap.size) (o := 2) smx (by omega)).trans kfx; have hcr3 := hd3.cur; have HO3 := Lib.hid ((HO.out.ext (w' := _) bxt).dr hd3 (by omega)); have HE3 : Hid (Ext w w3) := btx) | (go_simp; go_at_call 70; refine (l1PickInt_any cb _ _ _ _ _ (Cur.ext hcr3 bxt) (Rd.lit _ _ _ _ 1 _ rfl rfl (by omega)) (by omega) (by omega) (by simp [intAll]; omega) (fun b o e => by have hq := hcr3.lt; simp at e; (try simp at hq); omega)).mono ?_; rintro e w4 ⟨pk, hpk, rfl, hd4⟩; have hz4 := hd4.size; (try simp at hz4); have s4_0 : w.heap.size < w4.heap.size := (by omega); have c4_0_0 : w4.cell? ⟨w.heap.size, 0, none⟩ = some (.slice none 0 0) := (hd4.cell (x := w.heap.size) (o := 0) smx (by omega)).trans kpx; have f4_0_0 : w4.frozen? ⟨w.heap.size, 0, none⟩ = false := (hd4.frozen (x := w.heap.size) (o := 0) smx (by omega)).trans kfx; have c4_0_1 : w4.cell? ⟨w.heap.size, 1, none⟩ = some (.slice none 0 0) := (hd4.cell (x := w.heap.size) (o := 1) smx (by omega)).trans kpx; have f4_0_1 : w4.frozen? ⟨w.heap.size, 1, none⟩ = false := (hd4.frozen (x := w.heap.size) (o := 1) smx (by omega)).trans kfx; have c4_0_2 : w4.cell? ⟨w.heap.size, 2, none⟩ = some (.int .i64 0) := (hd4.cell (x := w.heap.size) (o := 2) smx (by omega)).trans kpx; have f4_0_2 : w4.frozen? ⟨w.heap.size, 2, none⟩ = false := (hd4.frozen (x := w.heap.size) (o := 2) smx (by omega)).trans kfx; have s4_1 : w2.heap.size < w4.heap.size := (by omega); have c4_1_0 : w4.cell? ⟨w2.heap.size, 0, none⟩ = some (.slice ba zs.length bc) := (hd4.cell (x := w2.heap.size) (o := 0) smx (by omega)).trans kpx; have f4_1_0 : w4.frozen? ⟨w2.heap.size, 0, none⟩ = false := (hd4.frozen (x := w2.heap.size) (o := 0) smx (by omega)).trans kfx; have c4_1_1 : w4.cell? ⟨w2.heap.size, 1, none⟩ = some (.slice la l.length lc) := (hd4.cell (x := w2.heap.size) (o := 1) smx (by omega)).trans kpx; have f4_1_1 : w4.frozen? ⟨w2.heap.size, 1, none⟩ = false := (hd4.frozen (x := w2.heap.size) (o := 1) smx (by omega)).trans kfx; have c4_1_2 : w4.cell? ⟨w2.heap.size, 2, none⟩ = some (.int .i64 gv) := (hd4.cell (x := w2.heap.size) (o := 2) smx (by omega)).trans kpx; have f4_1_2 : w4.frozen? ⟨w2.heap.size, 2, none⟩ = false := (hd4.frozen (x := w2.heap.size) (o := 2) smx (by omega)).trans kfx; have HO4 := Lib.hid ((HO3.out.ext (w' := _) bxt).dr hd4 (by omega)); have HE4 : Hid (Ext w w4) := btx)))
  all_goals go_wp2_with fail
  all_goals refine bodyPost_ret (v := .tuple #[.agg #[.slice ba zs.length bc, .slice la l.length lc, .int .i64 gv], .int .i64 pk]) (by simp [results, Tryz.results17, go_sem, *]) rfl ⟨ba, bc, zs, la, lc, l, gv, pk, by omega, HSM.out, by omega, HSL.out, rfl, ?_, HE4.out.trans btx⟩
  all_goals refine OwnRt.le (B := w1.heap.size) ?_ (by omega)
  all_goals exact (by repeat' (first | with_reducible exact HO4.out | with_reducible refine OwnRt.set_below ?_ smx _ | with_reducible refine OwnRt.ext ?_ bxt))
set_option maxRecDepth 100000 in
set_option maxHeartbeats 4000000 in
theorem l12Store_any (cb : Nat) (w : World) (hc : Cur w cb) :
    Calls Tryz.prog 62 #[.pointer (some ⟨cb, 0, none⟩)] w (DrSt cb w) := by
  have hcl := hc.lt
  have HC := Lib.hid hc
  clear hc
  go_enter Tryz.func62, Tryz.ntmps62
  go_wp2_with fail
  refine (l1Once_any cb 10 _ (HC.out.ext bxt) (by omega)).mono ?_
  rintro e w1 ⟨t, rfl, hd1⟩
  have hz1 := hd1.size; (try simp at hz1)
  have s1_0 : w.heap.size < w1.heap.size := (by omega)
  have c1_0_0 : w1.cell? ⟨w.heap.size, 0, none⟩ = some (.slice none 0 0) := (hd1.cell (x := w.heap.size) (o := 0) smx (by omega)).trans kpx
  have f1_0_0 : w1.frozen? ⟨w.heap.size, 0, none⟩ = false := (hd1.frozen (x := w.heap.size) (o := 0) smx (by omega)).trans kfx
  have c1_0_1 : w1.cell? ⟨w.heap.size, 1, none⟩ = some (.slice none 0 0) := (hd1.cell (x := w.heap.size) (o := 1) smx (by omega)).trans kpx
  have f1_0_1 : w1.frozen? ⟨w.heap.size, 1, none⟩ = false := (hd1.frozen (x := w.heap.size) (o := 1) smx (by omega)).trans kfx
  have c1_0_2 : w1.cell? ⟨w.heap.size, 2, none⟩ = some (.int .i64 0) := (hd1.cell (x := w.heap.size) (o := 2) smx (by omega)).trans kpx
  have f1_0_2 : w1.frozen? ⟨w.heap.size, 2, none⟩ = false := (hd1.frozen (x := w.heap.size) (o := 2) smx (by omega)).trans kfx
  cases t
  · skip
    go_wp2_with fail
    refine (l11Right_any cb _ (hd1.cur.ext bxt)).mono ?_
    rintro e w2 ⟨ba, bc, zs, la, lc, l, gv, hzl, hsm, hll, hsl, rfl, ho, hd2⟩
    have hz2 := hd2.size; (try simp at hz2)
    have s2_0 : w.heap.size < w2.heap.size := (by omega)
    have c2_0_0 : w2.cell? ⟨w.heap.size, 0, none⟩ = some (.slice none 0 0) := (hd2.cell (x := w.heap.size) (o := 0) smx (by omega)).trans kpx
    have f2_0_0 : w2.frozen? ⟨w.heap.size, 0, none⟩ = false := (hd2.frozen (x := w.heap.size) (o := 0) smx (by omega)).trans kfx
    have c2_0_1 : w2.cell? ⟨w.heap.size, 1, none⟩ = some (.slice none 0 0) := (hd2.cell (x := w.heap.size) (o := 1) smx (by omega)).trans kpx
    have f2_0_1 : w2.frozen? ⟨w.heap.size, 1, none⟩ = false := (hd2.frozen (x := w.heap.size) (o := 1) smx (by omega)).trans kfx
    have c2_0_2 : w2.cell? ⟨w.heap.size, 2, none⟩ = some (.int .i64 0) := (hd2.cell (x := w.heap.size) (o := 2) smx (by omega)).trans kpx
    have f2_0_2 : w2.frozen? ⟨w.heap.size, 2, none⟩ = false := (hd2.frozen (x := w.heap.size) (o := 2) smx (by omega)).trans kfx
    have HSM := Lib.hid hsm; have HSL := Lib.hid hsl; have HO := Lib.hid ho; clear hsm hsl ho
    go_wp2_with fail
    refine bodyPost_ret (v := .agg #[.slice ba zs.length bc, .slice la l.length lc, .int .i64 gv]) (by simp [results, Tryz.results62, go_sem, *]) rfl ⟨ba, bc, zs, la, lc, l, gv, by omega, HSM.out, by omega, HSL.out, rfl, ?_, dtx⟩
    refine OwnRt.le (B := w1.heap.size) ?_ (by omega)
    exact (by repeat' (first | with_reducible exact HO.out.rt | with_reducible refine OwnRt.set_below ?_ smx _ | with_reducible refine OwnRt.ext ?_ bxt))
  · skip
    go_wp2_with fail
    refine (l11Bent_any cb _ (hd1.cur.ext bxt)).mono ?_
    rintro e w3 ⟨ba, bc, zs, la, lc, l, gv, hzl, hsm, hll, hsl, rfl, ho, hd3⟩
    have hz3 := hd3.size; (try simp at hz3)
    have s3_0 : w.heap.size < w3.heap.size := (by omega)
    have c3_0_0 : w3.cell? ⟨w.heap.size, 0, none⟩ = some (.slice none 0 0) := (hd3.cell (x := w.heap.size) (o := 0) smx (by omega)).trans kpx
    have f3_0_0 : w3.frozen? ⟨w.heap.size, 0, none⟩ = false := (hd3.frozen (x := w.heap.size) (o := 0) smx (by omega)).trans kfx
    have c3_0_1 : w3.cell? ⟨w.heap.size, 1, none⟩ = some (.slice none 0 0) := (hd3.cell (x := w.heap.size) (o := 1) smx (by omega)).trans kpx
    have f3_0_1 : w3.frozen? ⟨w.heap.size, 1, none⟩ = false := (hd3.frozen (x := w.heap.size) (o := 1) smx (by omega)).trans kfx
    have c3_0_2 : w3.cell? ⟨w.heap.size, 2, none⟩ = some (.int .i64 0) := (hd3.cell (x := w.heap.size) (o := 2) smx (by omega)).trans kpx
    have f3_0_2 : w3.frozen? ⟨w.heap.size, 2, none⟩ = false := (hd3.frozen (x := w.heap.size) (o := 2) smx (by omega)).trans kfx
    have HSM := Lib.hid hsm; have HSL := Lib.hid hsl; have HO := Lib.hid ho; clear hsm hsl ho
    go_wp2_with fail
    refine bodyPost_ret (v := .agg #[.slice ba zs.length bc, .slice la l.length lc, .int .i64 gv]) (by simp [results, Tryz.results62, go_sem, *]) rfl ⟨ba, bc, zs, la, lc, l, gv, by omega, HSM.out, by omega, HSL.out, rfl, ?_, dtx⟩
    refine OwnRt.le (B := w1.heap.size) ?_ (by omega)
    exact (by repeat' (first | with_reducible exact HO.out | with_reducible refine OwnRt.set_below ?_ smx _ | with_reducible refine OwnRt.ext ?_ bxt))
end Go.Proofs.YtjcnhkmhcfmoeaaGreat
