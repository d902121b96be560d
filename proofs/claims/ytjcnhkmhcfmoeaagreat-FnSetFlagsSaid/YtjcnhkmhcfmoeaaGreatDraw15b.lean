/-
  The draw of the law of flags.
-/
import Derived.Test.YtjcnhkmhcfmoeaaGreatDraw15
namespace Go.Proofs.YtjcnhkmhcfmoeaaGreat
open Go.RowKit
set_option linter.unusedVariables false
set_option linter.unusedSimpArgs false

set_option maxRecDepth 100000 in
set_option maxHeartbeats 4000000 in
theorem drawSetFlags_any (lb : List Int) (a : Option Addr) (c : Nat) (w : World) (R : Rd w a c 1 lb.length (lb.flatMap byteCells)) (hb : ∀ y ∈ lb, 0 ≤ y ∧ y ≤ 255) (hl : lb.length ≤ 1048576) :
    Calls Tryz.prog 57 #[.slice a lb.length c] w (DrSet w) := by
  have HR := Lib.hid R
  have HB := Lib.hid hb
  clear R hb
  go_enter Tryz.func57, Tryz.ntmps57
  go_wp2_with fail
  refine (l1New_any lb a c _ (HR.out.ext bxt) HB.out hl).mono ?_
  rintro e w1 ⟨cb, hcb, rfl, hcu, hb1⟩
  (try simp at hcb)
  have hcl := hcu.lt
  have HCU := Lib.hid hcu
  clear hcu
  have hz1 := hb1.size; (try simp at hz1)
  have s1_0 : w.heap.size < w1.heap.size := (by omega)
  have c1_0_0 : w1.cell? ⟨w.heap.size, 0, none⟩ = some (.slice none 0 0) := (hb1.cell (p := ⟨w.heap.size, 0, none⟩) smx).trans kpx
  have f1_0_0 : w1.frozen? ⟨w.heap.size, 0, none⟩ = false := (hb1.frozen (p := ⟨w.heap.size, 0, none⟩) smx).trans kfx
  have c1_0_1 : w1.cell? ⟨w.heap.size, 1, none⟩ = some (.slice none 0 0) := (hb1.cell (p := ⟨w.heap.size, 1, none⟩) smx).trans kpx
  have f1_0_1 : w1.frozen? ⟨w.heap.size, 1, none⟩ = false := (hb1.frozen (p := ⟨w.heap.size, 1, none⟩) smx).trans kfx
  have c1_0_2 : w1.cell? ⟨w.heap.size, 2, none⟩ = some (.int .i64 0) := (hb1.cell (p := ⟨w.heap.size, 2, none⟩) smx).trans kpx
  have f1_0_2 : w1.frozen? ⟨w.heap.size, 2, none⟩ = false := (hb1.frozen (p := ⟨w.heap.size, 2, none⟩) smx).trans kfx
  go_wp2_with fail
  refine (l12Store_any cb _ (HCU.out.ext bxt)).mono ?_
  rintro e w2 ⟨ba, bc, zs, la, lc, l, gv, hzl, hsm, hll, hsl, rfl, ho, hd2⟩
  have hz2 := hd2.size; (try simp at hz2)
  have s2_0 : w.heap.size < w2.heap.size := (by omega)
  have c2_0_0 : w2.cell? ⟨w.heap.size, 0, none⟩ = some (.slice none 0 0) := (hd2.cell (x := w.heap.size) (o := 0) smx (by omega)).trans kpx
  have f2_0_0 : w2.frozen? ⟨w.heap.size, 0, none⟩ = false := (hd2.frozen (x := w.heap.size) (o := 0) smx (by omega)).trans kfx
  have c2_0_1 : w2.cell? ⟨w.heap.size, 1, none⟩ = some (.slice none 0 0) := (hd2.cell (x := w.heap.size) (o := 1) smx (by omega)).trans kpx
  have f2_0_1 : w2.frozen? ⟨w.heap.size, 1, none⟩ = false := (hd2.frozen (x := w.heap.size) (o := 1) smx (by omega)).trans kfx
  have c2_0_2 : w2.cell? ⟨w.heap.size, 2, none⟩ = some (.int .i64 0) := (hd2.cell (x := w.heap.size) (o := 2) smx (by omega)).trans kpx
  have f2_0_2 : w2.frozen? ⟨w.heap.size, 2, none⟩ = false := (hd2.frozen (x := w.heap.size) (o := 2) smx (by omega)).trans kfx
  have HSM := Lib.hid hsm; have HSL := Lib.hid hsl; have HO := Lib.hid ho; clear hsm hsl ho
  go_wp2_with fail
  refine (l1Below_any cb 3 _ (hd2.cur.ext bxt) (by omega)).mono ?_
  rintro e w3 ⟨x, ⟨x0, x1, -⟩, rfl, hd3⟩
  have x1 := x1 (by omega)
  have hz3 := hd3.size; (try simp at hz3)
  have s3_0 : w.heap.size < w3.heap.size := (by omega)
  have c3_0_0 : w3.cell? ⟨w.heap.size, 0, none⟩ = some (.slice none 0 0) := (hd3.cell (x := w.heap.size) (o := 0) smx (by omega)).trans kpx
  have f3_0_0 : w3.frozen? ⟨w.heap.size, 0, none⟩ = false := (hd3.frozen (x := w.heap.size) (o := 0) smx (by omega)).trans kfx
  have c3_0_1 : w3.cell? ⟨w.heap.size, 1, none⟩ = some (.slice none 0 0) := (hd3.cell (x := w.heap.size) (o := 1) smx (by omega)).trans kpx
  have f3_0_1 : w3.frozen? ⟨w.heap.size, 1, none⟩ = false := (hd3.frozen (x := w.heap.size) (o := 1) smx (by omega)).trans kfx
  have c3_0_2 : w3.cell? ⟨w.heap.size, 2, none⟩ = some (.int .i64 0) := (hd3.cell (x := w.heap.size) (o := 2) smx (by omega)).trans kpx
  have f3_0_2 : w3.frozen? ⟨w.heap.size, 2, none⟩ = false := (hd3.frozen (x := w.heap.size) (o := 2) smx (by omega)).trans kfx
  go_wp2_with fail
  refine (l1Below_any cb 2 _ (hd3.cur.ext bxt) (by omega)).mono ?_
  rintro e w4 ⟨y, ⟨y0, y1, -⟩, rfl, hd4⟩
  have y1 := y1 (by omega)
  have hz4 := hd4.size; (try simp at hz4)
  have s4_0 : w.heap.size < w4.heap.size := (by omega)
  have c4_0_0 : w4.cell? ⟨w.heap.size, 0, none⟩ = some (.slice none 0 0) := (hd4.cell (x := w.heap.size) (o := 0) smx (by omega)).trans kpx
  have f4_0_0 : w4.frozen? ⟨w.heap.size, 0, none⟩ = false := (hd4.frozen (x := w.heap.size) (o := 0) smx (by omega)).trans kfx
  have c4_0_1 : w4.cell? ⟨w.heap.size, 1, none⟩ = some (.slice none 0 0) := (hd4.cell (x := w.heap.size) (o := 1) smx (by omega)).trans kpx
  have f4_0_1 : w4.frozen? ⟨w.heap.size, 1, none⟩ = false := (hd4.frozen (x := w.heap.size) (o := 1) smx (by omega)).trans kfx
  have c4_0_2 : w4.cell? ⟨w.heap.size, 2, none⟩ = some (.int .i64 0) := (hd4.cell (x := w.heap.size) (o := 2) smx (by omega)).trans kpx
  have f4_0_2 : w4.frozen? ⟨w.heap.size, 2, none⟩ = false := (hd4.frozen (x := w.heap.size) (o := 2) smx (by omega)).trans kfx
  obtain ⟨z, hz0, hz1, hze⟩ : ∃ z : Int, 0 ≤ z ∧ z ≤ 2 ∧ x * y = z := by rcases (show y = 0 ∨ y = 1 by omega) with rfl | rfl <;> exact ⟨_, by omega, by omega, rfl⟩
  go_wp2_with fail
  refine (l12Uids_any cb _ (hd4.cur.ext bxt)).mono ?_
  rintro e w5 ⟨ua, uc, us, hul, rfl, hus, hd5⟩
  have hz5 := hd5.size; (try simp at hz5)
  have s5_0 : w.heap.size < w5.heap.size := (by omega)
  have c5_0_0 : w5.cell? ⟨w.heap.size, 0, none⟩ = some (.slice none 0 0) := (hd5.cell (x := w.heap.size) (o := 0) smx (by omega)).trans kpx
  have f5_0_0 : w5.frozen? ⟨w.heap.size, 0, none⟩ = false := (hd5.frozen (x := w.heap.size) (o := 0) smx (by omega)).trans kfx
  have c5_0_1 : w5.cell? ⟨w.heap.size, 1, none⟩ = some (.slice none 0 0) := (hd5.cell (x := w.heap.size) (o := 1) smx (by omega)).trans kpx
  have f5_0_1 : w5.frozen? ⟨w.heap.size, 1, none⟩ = false := (hd5.frozen (x := w.heap.size) (o := 1) smx (by omega)).trans kfx
  have c5_0_2 : w5.cell? ⟨w.heap.size, 2, none⟩ = some (.int .i64 0) := (hd5.cell (x := w.heap.size) (o := 2) smx (by omega)).trans kpx
  have f5_0_2 : w5.frozen? ⟨w.heap.size, 2, none⟩ = false := (hd5.frozen (x := w.heap.size) (o := 2) smx (by omega)).trans kfx
  have HU := Lib.hid hus; clear hus
  go_wp2_with fail
  refine (l1Below_any cb 3 _ (hd5.cur.ext bxt) (by omega)).mono ?_
  rintro e w6 ⟨p, ⟨p0, p1, -⟩, rfl, hd6⟩
  have p1 := p1 (by omega)
  have hz6 := hd6.size; (try simp at hz6)
  have s6_0 : w.heap.size < w6.heap.size := (by omega)
  have c6_0_0 : w6.cell? ⟨w.heap.size, 0, none⟩ = some (.slice none 0 0) := (hd6.cell (x := w.heap.size) (o := 0) smx (by omega)).trans kpx
  have f6_0_0 : w6.frozen? ⟨w.heap.size, 0, none⟩ = false := (hd6.frozen (x := w.heap.size) (o := 0) smx (by omega)).trans kfx
  have c6_0_1 : w6.cell? ⟨w.heap.size, 1, none⟩ = some (.slice none 0 0) := (hd6.cell (x := w.heap.size) (o := 1) smx (by omega)).trans kpx
  have f6_0_1 : w6.frozen? ⟨w.heap.size, 1, none⟩ = false := (hd6.frozen (x := w.heap.size) (o := 1) smx (by omega)).trans kfx
  have c6_0_2 : w6.cell? ⟨w.heap.size, 2, none⟩ = some (.int .i64 0) := (hd6.cell (x := w.heap.size) (o := 2) smx (by omega)).trans kpx
  have f6_0_2 : w6.frozen? ⟨w.heap.size, 2, none⟩ = false := (hd6.frozen (x := w.heap.size) (o := 2) smx (by omega)).trans kfx
  go_wp2_with fail
  refine (l1Below_any cb 2 _ (hd6.cur.ext bxt) (by omega)).mono ?_
  rintro e w7 ⟨r, ⟨r0, r1, -⟩, rfl, hd7⟩
  have r1 := r1 (by omega)
  have hz7 := hd7.size; (try simp at hz7)
  have s7_0 : w.heap.size < w7.heap.size := (by omega)
  have c7_0_0 : w7.cell? ⟨w.heap.size, 0, none⟩ = some (.slice none 0 0) := (hd7.cell (x := w.heap.size) (o := 0) smx (by omega)).trans kpx
  have f7_0_0 : w7.frozen? ⟨w.heap.size, 0, none⟩ = false := (hd7.frozen (x := w.heap.size) (o := 0) smx (by omega)).trans kfx
  have c7_0_1 : w7.cell? ⟨w.heap.size, 1, none⟩ = some (.slice none 0 0) := (hd7.cell (x := w.heap.size) (o := 1) smx (by omega)).trans kpx
  have f7_0_1 : w7.frozen? ⟨w.heap.size, 1, none⟩ = false := (hd7.frozen (x := w.heap.size) (o := 1) smx (by omega)).trans kfx
  have c7_0_2 : w7.cell? ⟨w.heap.size, 2, none⟩ = some (.int .i64 0) := (hd7.cell (x := w.heap.size) (o := 2) smx (by omega)).trans kpx
  have f7_0_2 : w7.frozen? ⟨w.heap.size, 2, none⟩ = false := (hd7.frozen (x := w.heap.size) (o := 2) smx (by omega)).trans kfx
  have hdq5 : Dr cb w2 w7 := (((hd3.trans hd4).trans hd5).trans hd6).trans hd7
  have hdu5 : Dr cb w5 w7 := hd6.trans hd7
  obtain ⟨z2, hy0, hy1, hye⟩ : ∃ z2 : Int, 0 ≤ z2 ∧ z2 ≤ 4 ∧ p * (1 + r) = z2 := by rcases (show r = 0 ∨ r = 1 by omega) with rfl | rfl <;> exact ⟨_, by omega, by omega, rfl⟩
  obtain ⟨z3, hx0, hx1, hxe, hxf⟩ : ∃ z3 : Int, 0 ≤ z3 ∧ z3 ≤ 2 ∧ z2.tdiv 2 = z3 ∧ z2 / 2 = z3 := ⟨z2 / 2, by omega, by omega, Int.tdiv_eq_ediv_of_nonneg hy0, rfl⟩
  go_wp2_with fail
  refine (l5Bits_any cb _ (hd7.cur.ext bxt)).mono ?_
  rintro e w8 ⟨bi, -, rfl, hd8⟩
  have hz8 := hd8.size; (try simp at hz8)
  have s8_0 : w.heap.size < w8.heap.size := (by omega)
  have c8_0_0 : w8.cell? ⟨w.heap.size, 0, none⟩ = some (.slice none 0 0) := (hd8.cell (x := w.heap.size) (o := 0) smx (by omega)).trans kpx
  have f8_0_0 : w8.frozen? ⟨w.heap.size, 0, none⟩ = false := (hd8.frozen (x := w.heap.size) (o := 0) smx (by omega)).trans kfx
  have c8_0_1 : w8.cell? ⟨w.heap.size, 1, none⟩ = some (.slice none 0 0) := (hd8.cell (x := w.heap.size) (o := 1) smx (by omega)).trans kpx
  have f8_0_1 : w8.frozen? ⟨w.heap.size, 1, none⟩ = false := (hd8.frozen (x := w.heap.size) (o := 1) smx (by omega)).trans kfx
  have c8_0_2 : w8.cell? ⟨w.heap.size, 2, none⟩ = some (.int .i64 0) := (hd8.cell (x := w.heap.size) (o := 2) smx (by omega)).trans kpx
  have f8_0_2 : w8.frozen? ⟨w.heap.size, 2, none⟩ = false := (hd8.frozen (x := w.heap.size) (o := 2) smx (by omega)).trans kfx
  have hdq : Dr cb w2 w8 := hdq5.trans hd8
  have hdu : Dr cb w5 w8 := hdu5.trans hd8
  have HOq := Lib.hid (HO.out.dr hdq (by omega)); have HUq := Lib.hid (HU.out.dr hdu (by omega))
  go_wp2_with fail
  refine bodyPost_ret (v := .tuple #[.agg #[.slice ba zs.length bc, .slice la l.length lc, .int .i64 gv], .int .i64 (1 + z), .slice (some ⟨ua, 0, none⟩) us.length uc, .int .i64 (1 + z3), .int .i64 bi]) (by simp [results, Tryz.results57, go_sem, *]) rfl ⟨ba, bc, zs, la, lc, l, gv, 1 + z, ua, uc, us, 1 + z3, bi, hul, by omega, HSM.out, by omega, HSL.out, rfl, ?_, ?_, btx⟩
  · refine OwnRt.le (B := w1.heap.size) ?_ (by omega)
    exact (by repeat' (first | with_reducible exact HOq.out | with_reducible refine OwnRt.set_below ?_ smx _))
  · refine Own.le (B := w4.heap.size) ?_ (by omega)
    exact (by repeat' (first | with_reducible exact HUq.out | with_reducible refine Own.set_below ?_ smx _))
end Go.Proofs.YtjcnhkmhcfmoeaaGreat
