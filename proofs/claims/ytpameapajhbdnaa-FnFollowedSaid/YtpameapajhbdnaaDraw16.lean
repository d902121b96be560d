/-
  The draws of the laws of commits.
-/
import Derived.Test.YtpameapajhbdnaaWApAt
import Derived.Test.YtpameapajhbdnaaXDrA
import Derived.Test.YtpameapajhbdnaaXDr
namespace Go.Proofs.Ytpameapajhbdnaa
open Go.RowKit
set_option linter.unusedVariables false
set_option linter.unusedSimpArgs false

def DrAp (w : World) (e : Ending) (w' : World) : Prop := ∃ (g : Option Addr) (q : Nat) (zs : List PBox) (m : DCommit), zs.length ≤ 5 ∧ SmB 6 zs ∧ m.name.size ≤ 41 ∧ m.text.size ≤ 41 ∧ e = .returned (.tuple #[.slice g zs.length q, .agg #[.int .i64 m.kind, .int .i64 m.validity, .int .i64 m.uid, .int .i64 m.flags, .string m.name, .string m.text]]) ∧ OwnRs w' w.heap.size 52 111 g q zs ∧ Ext w w'
set_option maxRecDepth 100000 in
set_option maxHeartbeats 4000000 in
theorem l10Args_any (lb : List Int) (a : Option Addr) (c : Nat) (w : World) (R : Rd w a c 1 lb.length (lb.flatMap byteCells)) (hb : ∀ y ∈ lb, 0 ≤ y ∧ y ≤ 255) (hl : lb.length ≤ 1048576) :
    Calls Try.prog 92 #[.slice a lb.length c] w (DrAp w) := by
  have HR := Lib.hid R
  have HB := Lib.hid hb
  clear R hb
  go_enter Try.func92, Try.ntmps92
  go_wp2_with fail
  refine (l1New_any lb a c _ (HR.out.ext bxt) HB.out hl).mono ?_
  rintro e w1 ⟨cb, hcb, rfl, hcu, hb1⟩
  (try simp at hcb)
  have hcl := hcu.lt
  have HCU := Lib.hid hcu
  clear hcu
  have hz1 := hb1.size; (try simp at hz1)
  have s1_0 : w.heap.size < w1.heap.size := (by omega)
  have c1_0_0 : w1.cell? ⟨w.heap.size, 0, none⟩ = some (.int .i64 0) := (hb1.cell (p := ⟨w.heap.size, 0, none⟩) smx).trans kpx
  have f1_0_0 : w1.frozen? ⟨w.heap.size, 0, none⟩ = false := (hb1.frozen (p := ⟨w.heap.size, 0, none⟩) smx).trans kfx
  have c1_0_1 : w1.cell? ⟨w.heap.size, 1, none⟩ = some (.int .i64 0) := (hb1.cell (p := ⟨w.heap.size, 1, none⟩) smx).trans kpx
  have f1_0_1 : w1.frozen? ⟨w.heap.size, 1, none⟩ = false := (hb1.frozen (p := ⟨w.heap.size, 1, none⟩) smx).trans kfx
  have c1_0_2 : w1.cell? ⟨w.heap.size, 2, none⟩ = some (.int .i64 0) := (hb1.cell (p := ⟨w.heap.size, 2, none⟩) smx).trans kpx
  have f1_0_2 : w1.frozen? ⟨w.heap.size, 2, none⟩ = false := (hb1.frozen (p := ⟨w.heap.size, 2, none⟩) smx).trans kfx
  have c1_0_3 : w1.cell? ⟨w.heap.size, 3, none⟩ = some (.int .i64 0) := (hb1.cell (p := ⟨w.heap.size, 3, none⟩) smx).trans kpx
  have f1_0_3 : w1.frozen? ⟨w.heap.size, 3, none⟩ = false := (hb1.frozen (p := ⟨w.heap.size, 3, none⟩) smx).trans kfx
  have c1_0_4 : w1.cell? ⟨w.heap.size, 4, none⟩ = some (.string ⟨#[]⟩) := (hb1.cell (p := ⟨w.heap.size, 4, none⟩) smx).trans kpx
  have f1_0_4 : w1.frozen? ⟨w.heap.size, 4, none⟩ = false := (hb1.frozen (p := ⟨w.heap.size, 4, none⟩) smx).trans kfx
  have c1_0_5 : w1.cell? ⟨w.heap.size, 5, none⟩ = some (.string ⟨#[]⟩) := (hb1.cell (p := ⟨w.heap.size, 5, none⟩) smx).trans kpx
  have f1_0_5 : w1.frozen? ⟨w.heap.size, 5, none⟩ = false := (hb1.frozen (p := ⟨w.heap.size, 5, none⟩) smx).trans kfx
  go_wp2_with fail
  refine (l9Right_any cb _ (HCU.out.ext bxt)).mono ?_
  rintro e w2 ⟨g, q, zs, hzl, hsm, rfl, ho, hd2⟩
  have hz2 := hd2.size; (try simp at hz2)
  have s2_0 : w.heap.size < w2.heap.size := (by omega)
  have c2_0_0 : w2.cell? ⟨w.heap.size, 0, none⟩ = some (.int .i64 0) := (hd2.cell (x := w.heap.size) (o := 0) smx (by omega)).trans kpx
  have f2_0_0 : w2.frozen? ⟨w.heap.size, 0, none⟩ = false := (hd2.frozen (x := w.heap.size) (o := 0) smx (by omega)).trans kfx
  have c2_0_1 : w2.cell? ⟨w.heap.size, 1, none⟩ = some (.int .i64 0) := (hd2.cell (x := w.heap.size) (o := 1) smx (by omega)).trans kpx
  have f2_0_1 : w2.frozen? ⟨w.heap.size, 1, none⟩ = false := (hd2.frozen (x := w.heap.size) (o := 1) smx (by omega)).trans kfx
  have c2_0_2 : w2.cell? ⟨w.heap.size, 2, none⟩ = some (.int .i64 0) := (hd2.cell (x := w.heap.size) (o := 2) smx (by omega)).trans kpx
  have f2_0_2 : w2.frozen? ⟨w.heap.size, 2, none⟩ = false := (hd2.frozen (x := w.heap.size) (o := 2) smx (by omega)).trans kfx
  have c2_0_3 : w2.cell? ⟨w.heap.size, 3, none⟩ = some (.int .i64 0) := (hd2.cell (x := w.heap.size) (o := 3) smx (by omega)).trans kpx
  have f2_0_3 : w2.frozen? ⟨w.heap.size, 3, none⟩ = false := (hd2.frozen (x := w.heap.size) (o := 3) smx (by omega)).trans kfx
  have c2_0_4 : w2.cell? ⟨w.heap.size, 4, none⟩ = some (.string ⟨#[]⟩) := (hd2.cell (x := w.heap.size) (o := 4) smx (by omega)).trans kpx
  have f2_0_4 : w2.frozen? ⟨w.heap.size, 4, none⟩ = false := (hd2.frozen (x := w.heap.size) (o := 4) smx (by omega)).trans kfx
  have c2_0_5 : w2.cell? ⟨w.heap.size, 5, none⟩ = some (.string ⟨#[]⟩) := (hd2.cell (x := w.heap.size) (o := 5) smx (by omega)).trans kpx
  have f2_0_5 : w2.frozen? ⟨w.heap.size, 5, none⟩ = false := (hd2.frozen (x := w.heap.size) (o := 5) smx (by omega)).trans kfx
  have HSM := Lib.hid hsm; have HO := Lib.hid ho; clear hsm ho
  go_wp2_with fail
  refine (l1Once_any cb 8 _ (hd2.cur.ext bxt) (by omega)).mono ?_
  rintro e w3 ⟨t, rfl, hd3⟩
  have hz3 := hd3.size; (try simp at hz3)
  have s3_0 : w.heap.size < w3.heap.size := (by omega)
  have c3_0_0 : w3.cell? ⟨w.heap.size, 0, none⟩ = some (.int .i64 0) := (hd3.cell (x := w.heap.size) (o := 0) smx (by omega)).trans kpx
  have f3_0_0 : w3.frozen? ⟨w.heap.size, 0, none⟩ = false := (hd3.frozen (x := w.heap.size) (o := 0) smx (by omega)).trans kfx
  have c3_0_1 : w3.cell? ⟨w.heap.size, 1, none⟩ = some (.int .i64 0) := (hd3.cell (x := w.heap.size) (o := 1) smx (by omega)).trans kpx
  have f3_0_1 : w3.frozen? ⟨w.heap.size, 1, none⟩ = false := (hd3.frozen (x := w.heap.size) (o := 1) smx (by omega)).trans kfx
  have c3_0_2 : w3.cell? ⟨w.heap.size, 2, none⟩ = some (.int .i64 0) := (hd3.cell (x := w.heap.size) (o := 2) smx (by omega)).trans kpx
  have f3_0_2 : w3.frozen? ⟨w.heap.size, 2, none⟩ = false := (hd3.frozen (x := w.heap.size) (o := 2) smx (by omega)).trans kfx
  have c3_0_3 : w3.cell? ⟨w.heap.size, 3, none⟩ = some (.int .i64 0) := (hd3.cell (x := w.heap.size) (o := 3) smx (by omega)).trans kpx
  have f3_0_3 : w3.frozen? ⟨w.heap.size, 3, none⟩ = false := (hd3.frozen (x := w.heap.size) (o := 3) smx (by omega)).trans kfx
  have c3_0_4 : w3.cell? ⟨w.heap.size, 4, none⟩ = some (.string ⟨#[]⟩) := (hd3.cell (x := w.heap.size) (o := 4) smx (by omega)).trans kpx
  have f3_0_4 : w3.frozen? ⟨w.heap.size, 4, none⟩ = false := (hd3.frozen (x := w.heap.size) (o := 4) smx (by omega)).trans kfx
  have c3_0_5 : w3.cell? ⟨w.heap.size, 5, none⟩ = some (.string ⟨#[]⟩) := (hd3.cell (x := w.heap.size) (o := 5) smx (by omega)).trans kpx
  have f3_0_5 : w3.frozen? ⟨w.heap.size, 5, none⟩ = false := (hd3.frozen (x := w.heap.size) (o := 5) smx (by omega)).trans kfx
  cases t
  · skip
    have HBM := Lib.hid (fun (y : PBox) (hy : y ∈ zs) => (show y.msgs.length ≤ 1000 from by have := ((HSM.out.mono (N := 6) (by omega)) y hy).2.1; omega))
    have HO1 := Lib.hid (HO.out.rs.dr hd3 (by omega))
    go_wp2_with fail
    refine (l10Bent_any cb zs g q w1.heap.size _ (hd3.cur.ext bxt) (HO1.out.ext bxt) (by omega) (by omega) HBM.out).mono ?_
    rintro e w4 ⟨m, hmn, hmt, rfl, hd4⟩
    have hz4 := hd4.size; (try simp at hz4)
    have s4_0 : w.heap.size < w4.heap.size := (by omega)
    have c4_0_0 : w4.cell? ⟨w.heap.size, 0, none⟩ = some (.int .i64 0) := (hd4.cell (x := w.heap.size) (o := 0) smx (by omega)).trans kpx
    have f4_0_0 : w4.frozen? ⟨w.heap.size, 0, none⟩ = false := (hd4.frozen (x := w.heap.size) (o := 0) smx (by omega)).trans kfx
    have c4_0_1 : w4.cell? ⟨w.heap.size, 1, none⟩ = some (.int .i64 0) := (hd4.cell (x := w.heap.size) (o := 1) smx (by omega)).trans kpx
    have f4_0_1 : w4.frozen? ⟨w.heap.size, 1, none⟩ = false := (hd4.frozen (x := w.heap.size) (o := 1) smx (by omega)).trans kfx
    have c4_0_2 : w4.cell? ⟨w.heap.size, 2, none⟩ = some (.int .i64 0) := (hd4.cell (x := w.heap.size) (o := 2) smx (by omega)).trans kpx
    have f4_0_2 : w4.frozen? ⟨w.heap.size, 2, none⟩ = false := (hd4.frozen (x := w.heap.size) (o := 2) smx (by omega)).trans kfx
    have c4_0_3 : w4.cell? ⟨w.heap.size, 3, none⟩ = some (.int .i64 0) := (hd4.cell (x := w.heap.size) (o := 3) smx (by omega)).trans kpx
    have f4_0_3 : w4.frozen? ⟨w.heap.size, 3, none⟩ = false := (hd4.frozen (x := w.heap.size) (o := 3) smx (by omega)).trans kfx
    have c4_0_4 : w4.cell? ⟨w.heap.size, 4, none⟩ = some (.string ⟨#[]⟩) := (hd4.cell (x := w.heap.size) (o := 4) smx (by omega)).trans kpx
    have f4_0_4 : w4.frozen? ⟨w.heap.size, 4, none⟩ = false := (hd4.frozen (x := w.heap.size) (o := 4) smx (by omega)).trans kfx
    have c4_0_5 : w4.cell? ⟨w.heap.size, 5, none⟩ = some (.string ⟨#[]⟩) := (hd4.cell (x := w.heap.size) (o := 5) smx (by omega)).trans kpx
    have f4_0_5 : w4.frozen? ⟨w.heap.size, 5, none⟩ = false := (hd4.frozen (x := w.heap.size) (o := 5) smx (by omega)).trans kfx
    have HOq := Lib.hid ((HO1.out.ext (w' := _) bxt).dr hd4 (by omega))
    go_wp2_with fail
    refine bodyPost_ret (v := .tuple #[.slice g zs.length q, .agg #[.int .i64 m.kind, .int .i64 m.validity, .int .i64 m.uid, .int .i64 m.flags, .string m.name, .string m.text]]) (by simp [results, Try.results92, go_sem, *]) rfl ⟨g, q, zs, m, by omega, (HSM.out.mono (N := 6) (by omega)), hmn, hmt, rfl, ?_, btx⟩
    refine OwnRs.le (B := w1.heap.size) ?_ (by omega)
    exact (by repeat' (first | with_reducible exact HOq.out | with_reducible refine OwnRs.set_below ?_ smx _ | with_reducible refine OwnRs.ext ?_ bxt))
  · skip
    clear HSM HO hzl
    go_wp2_with fail
    refine (l9Bent_any cb _ (hd3.cur.ext bxt)).mono ?_
    rintro e w5 ⟨g, q, zs, hzl, hsm, rfl, ho, hd5⟩
    have hz5 := hd5.size; (try simp at hz5)
    have s5_0 : w.heap.size < w5.heap.size := (by omega)
    have c5_0_0 : w5.cell? ⟨w.heap.size, 0, none⟩ = some (.int .i64 0) := (hd5.cell (x := w.heap.size) (o := 0) smx (by omega)).trans kpx
    have f5_0_0 : w5.frozen? ⟨w.heap.size, 0, none⟩ = false := (hd5.frozen (x := w.heap.size) (o := 0) smx (by omega)).trans kfx
    have c5_0_1 : w5.cell? ⟨w.heap.size, 1, none⟩ = some (.int .i64 0) := (hd5.cell (x := w.heap.size) (o := 1) smx (by omega)).trans kpx
    have f5_0_1 : w5.frozen? ⟨w.heap.size, 1, none⟩ = false := (hd5.frozen (x := w.heap.size) (o := 1) smx (by omega)).trans kfx
    have c5_0_2 : w5.cell? ⟨w.heap.size, 2, none⟩ = some (.int .i64 0) := (hd5.cell (x := w.heap.size) (o := 2) smx (by omega)).trans kpx
    have f5_0_2 : w5.frozen? ⟨w.heap.size, 2, none⟩ = false := (hd5.frozen (x := w.heap.size) (o := 2) smx (by omega)).trans kfx
    have c5_0_3 : w5.cell? ⟨w.heap.size, 3, none⟩ = some (.int .i64 0) := (hd5.cell (x := w.heap.size) (o := 3) smx (by omega)).trans kpx
    have f5_0_3 : w5.frozen? ⟨w.heap.size, 3, none⟩ = false := (hd5.frozen (x := w.heap.size) (o := 3) smx (by omega)).trans kfx
    have c5_0_4 : w5.cell? ⟨w.heap.size, 4, none⟩ = some (.string ⟨#[]⟩) := (hd5.cell (x := w.heap.size) (o := 4) smx (by omega)).trans kpx
    have f5_0_4 : w5.frozen? ⟨w.heap.size, 4, none⟩ = false := (hd5.frozen (x := w.heap.size) (o := 4) smx (by omega)).trans kfx
    have c5_0_5 : w5.cell? ⟨w.heap.size, 5, none⟩ = some (.string ⟨#[]⟩) := (hd5.cell (x := w.heap.size) (o := 5) smx (by omega)).trans kpx
    have f5_0_5 : w5.frozen? ⟨w.heap.size, 5, none⟩ = false := (hd5.frozen (x := w.heap.size) (o := 5) smx (by omega)).trans kfx
    have HSM := Lib.hid hsm; have HO := Lib.hid (ho.le (B' := w1.heap.size) (by omega)); clear hsm ho
    have HBM := Lib.hid (fun (y : PBox) (hy : y ∈ zs) => (show y.msgs.length ≤ 1000 from by have := (HSM.out y hy).2.1; omega))
    have HO1 := Lib.hid (HO.out)
    go_wp2_with fail
    refine (l10Bent_any cb zs g q w1.heap.size _ (hd5.cur.ext bxt) (HO1.out.ext bxt) (by omega) (by omega) HBM.out).mono ?_
    rintro e w6 ⟨m, hmn, hmt, rfl, hd6⟩
    have hz6 := hd6.size; (try simp at hz6)
    have s6_0 : w.heap.size < w6.heap.size := (by omega)
    have c6_0_0 : w6.cell? ⟨w.heap.size, 0, none⟩ = some (.int .i64 0) := (hd6.cell (x := w.heap.size) (o := 0) smx (by omega)).trans kpx
    have f6_0_0 : w6.frozen? ⟨w.heap.size, 0, none⟩ = false := (hd6.frozen (x := w.heap.size) (o := 0) smx (by omega)).trans kfx
    have c6_0_1 : w6.cell? ⟨w.heap.size, 1, none⟩ = some (.int .i64 0) := (hd6.cell (x := w.heap.size) (o := 1) smx (by omega)).trans kpx
    have f6_0_1 : w6.frozen? ⟨w.heap.size, 1, none⟩ = false := (hd6.frozen (x := w.heap.size) (o := 1) smx (by omega)).trans kfx
    have c6_0_2 : w6.cell? ⟨w.heap.size, 2, none⟩ = some (.int .i64 0) := (hd6.cell (x := w.heap.size) (o := 2) smx (by omega)).trans kpx
    have f6_0_2 : w6.frozen? ⟨w.heap.size, 2, none⟩ = false := (hd6.frozen (x := w.heap.size) (o := 2) smx (by omega)).trans kfx
    have c6_0_3 : w6.cell? ⟨w.heap.size, 3, none⟩ = some (.int .i64 0) := (hd6.cell (x := w.heap.size) (o := 3) smx (by omega)).trans kpx
    have f6_0_3 : w6.frozen? ⟨w.heap.size, 3, none⟩ = false := (hd6.frozen (x := w.heap.size) (o := 3) smx (by omega)).trans kfx
    have c6_0_4 : w6.cell? ⟨w.heap.size, 4, none⟩ = some (.string ⟨#[]⟩) := (hd6.cell (x := w.heap.size) (o := 4) smx (by omega)).trans kpx
    have f6_0_4 : w6.frozen? ⟨w.heap.size, 4, none⟩ = false := (hd6.frozen (x := w.heap.size) (o := 4) smx (by omega)).trans kfx
    have c6_0_5 : w6.cell? ⟨w.heap.size, 5, none⟩ = some (.string ⟨#[]⟩) := (hd6.cell (x := w.heap.size) (o := 5) smx (by omega)).trans kpx
    have f6_0_5 : w6.frozen? ⟨w.heap.size, 5, none⟩ = false := (hd6.frozen (x := w.heap.size) (o := 5) smx (by omega)).trans kfx
    have HOq := Lib.hid ((HO1.out.ext (w' := _) bxt).dr hd6 (by omega))
    go_wp2_with fail
    refine bodyPost_ret (v := .tuple #[.slice g zs.length q, .agg #[.int .i64 m.kind, .int .i64 m.validity, .int .i64 m.uid, .int .i64 m.flags, .string m.name, .string m.text]]) (by simp [results, Try.results92, go_sem, *]) rfl ⟨g, q, zs, m, by omega, HSM.out, hmn, hmt, rfl, ?_, btx⟩
    refine OwnRs.le (B := w1.heap.size) ?_ (by omega)
    exact (by repeat' (first | with_reducible exact HOq.out | with_reducible refine OwnRs.set_below ?_ smx _ | with_reducible refine OwnRs.ext ?_ bxt))
set_option maxRecDepth 100000 in
set_option maxHeartbeats 4000000 in
theorem drawApplied_any (lb : List Int) (a : Option Addr) (c : Nat) (w : World) (R : Rd w a c 1 lb.length (lb.flatMap byteCells)) (hb : ∀ y ∈ lb, 0 ≤ y ∧ y ≤ 255) (hl : lb.length ≤ 1048576) :
    Calls Try.prog 30 #[.slice a lb.length c] w (DrAp w) := by
  have HR := Lib.hid R
  have HB := Lib.hid hb
  clear R hb
  go_enter Try.func30, Try.ntmps30
  go_wp2_with fail
  refine (l10Args_any lb a c _ (HR.out.ext bxt) HB.out hl).mono ?_
  rintro e w1 ⟨g, q, zs, m, hzl, hsm, hmn, hmt, rfl, ho, hb1⟩
  have HO := Lib.hid (ho.le (B' := w.heap.size + 1) (by simp))
  have HSM := Lib.hid hsm
  have hz1 := hb1.size
  (try simp at hz1)
  clear ho hsm
  obtain ⟨hc1, hf1⟩ := bcell hb1
  have s1 : w.heap.size < w1.heap.size := by omega
  go_wp2_with fail
  refine bodyPost_ret (v := .tuple #[.slice g zs.length q, .agg #[.int .i64 m.kind, .int .i64 m.validity, .int .i64 m.uid, .int .i64 m.flags, .string m.name, .string m.text]]) (by simp [results, Try.results30, go_sem, *]) rfl ⟨g, q, zs, m, hzl, HSM.out, hmn, hmt, rfl, ?_, bxt⟩
  refine OwnRs.le (B := w.heap.size + 1) ?_ (by omega)
  exact (by repeat' (first | with_reducible exact HO.out | with_reducible refine OwnRs.set_below ?_ smx _ | with_reducible refine OwnRs.ext ?_ bxt))
theorem OwnRs.offA {w w' : World} {B E EM c : Nat} {a : Option Addr} {l : List PBox} {row : Option Nat} (h : OwnRs w B E EM a c l) (hg : w.grownBy w' row) (hn : ∀ k, rowsB a c l k → row ≠ some k) : OwnRs w' B E EM a c l :=
  ⟨h.row.chg (S := fun k => row = some k) (Chg.grown hg (fun _ e => e)) (fun k hk => hn k (Or.inl hk)), fun z hz => (h.msg z hz).chg (S := fun k => row = some k) (Chg.grown hg (fun _ e => e)) (fun k hk => hn k (Or.inr ⟨z.key, List.mem_map_of_mem hz, hk⟩))⟩
theorem OwnRs.rows_ltA {w : World} {B E EM c : Nat} {a : Option Addr} {l : List PBox} (h : OwnRs w B E EM a c l) : ∀ k, rowsB a c l k → B ≤ k ∧ k < w.heap.size := fun k hk => by
  rcases hk with hk | ⟨v, hv, hk⟩
  · exact h.row.lt k hk
  · obtain ⟨z, hz, rfl⟩ := List.mem_map.1 hv
    exact (h.msg z hz).lt k hk
def DrAl (w : World) (e : Ending) (w' : World) : Prop := ∃ (g : Option Addr) (q : Nat) (zs : List PBox) (la lc : Nat) (lg : List DCommit), zs.length ≤ 5 ∧ SmB 6 zs ∧ lg.length ≤ 5 ∧ (∀ y ∈ lg, y.name.size ≤ 41 ∧ y.text.size ≤ 41) ∧ e = .returned (.tuple #[.slice g zs.length q, .slice (some ⟨la, 0, none⟩) lg.length lc]) ∧ OwnRs w' w.heap.size 52 111 g q zs ∧ Own w' w.heap.size 38 6 (.slice (some ⟨la, 0, none⟩) lg.length lc) lg.length (lg.flatMap DCommit.cells) ∧ Ext w w'
/-- the loop that gathers commits -/
def ASt (cb : Nat) (W : World) (B : Nat) (g : Option Addr) (q : Nat) (zs : List PBox) (K : Nat) (nv lv : Value) (wr : World) : Prop :=
  ∃ (ga : Option Addr) (qa : Nat) (ns : List PBox) (la lc : Nat) (lg : List DCommit), nv = .slice ga ns.length qa ∧ lv = .slice (some ⟨la, 0, none⟩) lg.length lc ∧ ns.length ≤ 5 ∧ SmB 6 ns ∧ lg.length ≤ K ∧ (∀ y ∈ lg, y.name.size ≤ 41 ∧ y.text.size ≤ 41) ∧
    OwnRs wr B 52 111 g q zs ∧ OwnRs wr B 52 111 ga qa ns ∧ Own wr B 38 6 (.slice (some ⟨la, 0, none⟩) lg.length lc) lg.length (lg.flatMap DCommit.cells) ∧ (∀ k, rowsB g q zs k → foot (.slice (some ⟨la, 0, none⟩) lg.length lc) ≠ some k) ∧ (∀ k, rowsB ga qa ns k → foot (.slice (some ⟨la, 0, none⟩) lg.length lc) ≠ some k) ∧ Dr cb W wr
def ALoop (cb : Nat) (W : World) (B : Nat) (g : Option Addr) (q : Nat) (zs : List PBox) (n : Int) (nv lv i : Value) (wr : World) : Prop := ∃ k : Nat, (k : Int) ≤ n ∧ i = .int .i64 k ∧ Hid (ASt cb W B g q zs k nv lv wr)
set_option maxRecDepth 100000 in
set_option maxHeartbeats 8000000 in
theorem drawAppliedAll_any (lb : List Int) (a : Option Addr) (c : Nat) (w : World) (R : Rd w a c 1 lb.length (lb.flatMap byteCells)) (hb : ∀ y ∈ lb, 0 ≤ y ∧ y ≤ 255) (hl : lb.length ≤ 1048576) :
    Calls Try.prog 38 #[.slice a lb.length c] w (DrAl w) := by
  obtain ⟨i0, hi, hy0, hy1, hy2⟩ := info_parts info_Commit
  have HR := Lib.hid R
  have HB := Lib.hid hb
  clear R hb
  go_enter Try.func38, Try.ntmps38
  go_wp2_with fail
  refine (l1New_any lb a c _ (HR.out.ext bxt) HB.out hl).mono ?_
  rintro e w1 ⟨cb, hcb, rfl, hcu, hb1⟩
  (try simp at hcb)
  have hcl := hcu.lt
  have HCU := Lib.hid hcu
  clear hcu
  have hz1 := hb1.size; (try simp at hz1)
  go_wp2_with fail
  refine (l9Right_any cb _ (HCU.out.ext bxt)).mono ?_
  rintro e w2 ⟨g, q, zs, hzl, hsm, rfl, ho, hd2⟩
  have hz2 := hd2.size; (try simp at hz2)
  have hs2 := hd2.size; have HSM := Lib.hid (hsm.mono (N := 6) (by omega)); have HO := Lib.hid ho.rs; have HRL := Lib.hid ho.rs.rows_ltA; clear hsm ho
  go_wp2_with fail
  refine (l1Below_any cb 6 _ (hd2.cur.ext bxt) (by omega)).mono ?_
  rintro e w3 ⟨n, ⟨n0, n1, -⟩, rfl, hd3⟩
  have n1 := n1 (by omega)
  have hs3 := hd3.size; (try simp at hs3)
  have HS0 : Hid (ASt cb w1 w1.heap.size g q zs 0 (.slice g zs.length q) (.slice (some ⟨w2.heap.size, 0, none⟩) 0 0) w3) := ⟨g, q, zs, w2.heap.size, 0, [], rfl, rfl, by omega, HSM.out, Nat.le_refl _, (fun y hy => by cases hy), (HO.out.ext (w' := _) bxt).dr hd3 (by omega), (HO.out.ext (w' := _) bxt).dr hd3 (by omega), Own.none0 _, (fun k hk e => by simp [foot] at e), (fun k hk e => by simp [foot] at e), (hd2.alloc _).trans hd3⟩
  have hE1 := Lib.hid hb1
  clear HO hd2 hd3 hb1
  go_wp2_with fail
  go_loopw [6, 7, 9] (ALoop cb w1 w1.heap.size g q zs n) (fun _ _ i _ => (n - intOf i).toNat)
  case atStart => exact ⟨0, n0, rfl, HS0.out⟩
  case round =>
    obtain ⟨k, hk, rfl, HS⟩ := hrel
    clear HS0
    obtain ⟨ga, qa, ns, la, lc, lg, rfl, rfl, hal, hsa, hll, hsl, hoz, hoa, hol, hnz, hna, hd⟩ := HS.out
    have HOZ := Lib.hid hoz; have HOA := Lib.hid hoa; have HOL := Lib.hid hol; have HNZ := Lib.hid hnz; have HNA := Lib.hid hna; have HSA := Lib.hid hsa; have HSL := Lib.hid hsl; have hcr := Lib.hid hd.cur
    clear hoz hoa hol hnz hna hsa hsl HS
    have hsz := hd.size
    by_cases hlt : (k : Int) < n
    · skip
      go_wp2_with fail
      refine (l10Commit_any cb ns ga qa w1.heap.size _ (hcr.out.ext bxt) (HOA.out.ext bxt) (by omega) (by omega) (fun y hy => by have := (HSA.out y hy).2.1; omega)).mono ?_
      rintro e w4 ⟨m, hmn, hmt, rfl, hd4⟩
      have hz4 := hd4.size; (try simp at hz4)
      have hs4 := hd4.size; (try simp at hs4)
      obtain ⟨rr, rok, hrel⟩ := appRel_ex (ns.map PBox.box) m
      have HREL := Lib.hid hrel; clear hrel
      go_wp2_with fail
      refine (specApplied_bq ns ga qa _ (((HOA.out.ext (w' := _) bxt).dr hd4 (by omega)).ext bxt |>.bq hal HSA.out) m hmn hmt rr rok HREL).mono ?_
      rintro e w5 ⟨gn, qn, nx, rfl, hon, hzn, hb5⟩
      have hs5 := hb5.size; (try simp at hs5)
      obtain ⟨hc5, hf5⟩ := bcell hb5
      have hsx : w4.heap.size < w5.heap.size := by omega
      obtain ⟨hnl, hns⟩ := app_smallB HREL.out hzn hal HSA.out
      have hda : Dr cb wr w5 := dtx
      have HOZ5 := Lib.hid (HOZ.out.dr hda (by omega)); have HOA5 := Lib.hid (HOA.out.dr hda (by omega)); have HOL5 := Lib.hid (HOL.out.dr hda (by omega)); have HON := Lib.hid (hon.rs.le (B' := w1.heap.size) (by simp; omega)); have HNN := Lib.hid (show ∀ j, rowsB gn qn nx j → foot (.slice (some ⟨la, 0, none⟩) lg.length lc) ≠ some j from fun j hj e => by (have h1 := (hon.rs.rows_ltA j hj).1; have h2 := (HOL.out.lt j e).2; simp at h1; omega)); have HNS := Lib.hid hns; have HNR := Lib.hid hon.rs.rows_ltA; have hdw := hd.trans hda; have hcr5 := Lib.hid hdw.cur; have hs15 := hdw.size
      clear hon hzn hns hd4 hda HREL HOZ HOA HOL
      cases rok
      · skip
        go_wp2_with fail
        refine (l1Once_any cb 6 _ (hcr5.out.ext bxt) (by omega)).mono ?_
        rintro e w6 ⟨t, rfl, hd6⟩
        have hz6 := hd6.size; (try simp at hz6)
        have s6_0 : w4.heap.size < w6.heap.size := (by omega)
        have c6_0_0 : w6.cell? ⟨w4.heap.size, 0, none⟩ = some (.int .i64 m.kind) := (hd6.cell (x := w4.heap.size) (o := 0) smx (by omega)).trans kpx
        have f6_0_0 : w6.frozen? ⟨w4.heap.size, 0, none⟩ = false := (hd6.frozen (x := w4.heap.size) (o := 0) smx (by omega)).trans kfx
        have c6_0_1 : w6.cell? ⟨w4.heap.size, 1, none⟩ = some (.int .i64 m.validity) := (hd6.cell (x := w4.heap.size) (o := 1) smx (by omega)).trans kpx
        have f6_0_1 : w6.frozen? ⟨w4.heap.size, 1, none⟩ = false := (hd6.frozen (x := w4.heap.size) (o := 1) smx (by omega)).trans kfx
        have c6_0_2 : w6.cell? ⟨w4.heap.size, 2, none⟩ = some (.int .i64 m.uid) := (hd6.cell (x := w4.heap.size) (o := 2) smx (by omega)).trans kpx
        have f6_0_2 : w6.frozen? ⟨w4.heap.size, 2, none⟩ = false := (hd6.frozen (x := w4.heap.size) (o := 2) smx (by omega)).trans kfx
        have c6_0_3 : w6.cell? ⟨w4.heap.size, 3, none⟩ = some (.int .i64 m.flags) := (hd6.cell (x := w4.heap.size) (o := 3) smx (by omega)).trans kpx
        have f6_0_3 : w6.frozen? ⟨w4.heap.size, 3, none⟩ = false := (hd6.frozen (x := w4.heap.size) (o := 3) smx (by omega)).trans kfx
        have c6_0_4 : w6.cell? ⟨w4.heap.size, 4, none⟩ = some (.string m.name) := (hd6.cell (x := w4.heap.size) (o := 4) smx (by omega)).trans kpx
        have f6_0_4 : w6.frozen? ⟨w4.heap.size, 4, none⟩ = false := (hd6.frozen (x := w4.heap.size) (o := 4) smx (by omega)).trans kfx
        have c6_0_5 : w6.cell? ⟨w4.heap.size, 5, none⟩ = some (.string m.text) := (hd6.cell (x := w4.heap.size) (o := 5) smx (by omega)).trans kpx
        have f6_0_5 : w6.frozen? ⟨w4.heap.size, 5, none⟩ = false := (hd6.frozen (x := w4.heap.size) (o := 5) smx (by omega)).trans kfx
        have hs6 := hd6.size; (try simp at hs6)
        cases t
        · skip
          have HN : Hid (ASt cb w1 w1.heap.size g q zs (k + 1) (.slice ga ns.length qa) (.slice (some ⟨la, 0, none⟩) lg.length lc) w6) := ⟨ga, qa, ns, la, lc, lg, rfl, rfl, hal, HSA.out, by omega, HSL.out, HOZ5.out.dr hd6 (by omega), HOA5.out.dr hd6 (by omega), HOL5.out.dr hd6 (by omega), HNZ.out, HNA.out, hdw.trans hd6⟩
          go_wp2_with fail
          go_roundw
          case rel => exact ⟨k + 1, by omega, by go_num, HN.out⟩
          case measure => simp [intOf]; omega
        · skip
          go_wp2_with ((at_builtin; refine wpList_appL (B := w1.heap.size) (v := .slice (some ⟨la, 0, none⟩) lg.length lc) rfl _ _ 23 rfl 38 i0 _ _ Try.underlying23 hi hy0 hy1 hy2 rfl (by decide) rfl (Own.ext ((HOL5.out).dr hd6 (by omega)) bxt) (some ⟨w6.heap.size, 0, none⟩) 1 1 (DCommit.cells m) rfl (Rd.lit _ _ _ _ 6 _ (by simp) rfl (by omega)) (DCommit.one _) (by omega) (by omega) smx ?_))
          intro g9 q9 w9 hown hg hwl
          have hgs := hg.size; (try simp at hgs)
          have hgc := hown.cap
          obtain ⟨gx, rfl, -⟩ := hown.row (by omega)
          have HN : Hid (ASt cb w1 w1.heap.size g q zs (k + 1) (.slice gn nx.length qn) (.slice (some ⟨gx, 0, none⟩) (lg.length + 1) q9) w9) := ⟨gn, qn, nx, gx, q9, lg ++ [m], rfl, by simp, hnl, HNS.out, by simp; omega, (fun y hy => by rcases List.mem_append.1 hy with h | h; exact HSL.out y h; (rw [List.mem_singleton.1 h]; exact ⟨hmn, hmt⟩)), ((HOZ5.out).dr hd6 (by omega) |>.ext (w' := _) bxt).offA hg HNZ.out, ((HON.out).dr hd6 (by omega) |>.ext (w' := _) bxt).offA hg HNN.out, by simpa using hown, (fun j hj e => by (rcases hwl j ((foot_len (some ⟨gx, 0, none⟩) (lg.length + 1) _ q9).trans e) with h | h; exact HNZ.out j hj h; (have := (HOZ5.out.rows_ltA j hj).2; (try simp at h); omega))), (fun j hj e => by (rcases hwl j ((foot_len (some ⟨gx, 0, none⟩) (lg.length + 1) _ q9).trans e) with h | h; exact HNN.out j hj h; (have := (HNR.out j hj).2; (try simp at h); omega))), (Dr.ext (hdw.trans hd6) bxt).grown hg (fun x hx => (HOL5.out.lt x hx).1)⟩
          clear hown hg hwl
          go_wp2_with fail
          go_roundw
          case rel => exact ⟨k + 1, by omega, by go_num, HN.out⟩
          case measure => simp [intOf]; omega
      · skip
        go_wp2_with ((at_builtin; refine wpList_appL (B := w1.heap.size) (v := .slice (some ⟨la, 0, none⟩) lg.length lc) rfl _ _ 23 rfl 38 i0 _ _ Try.underlying23 hi hy0 hy1 hy2 rfl (by decide) rfl (Own.ext (HOL5.out) bxt) (some ⟨w5.heap.size, 0, none⟩) 1 1 (DCommit.cells m) rfl (Rd.lit _ _ _ _ 6 _ (by simp) rfl (by omega)) (DCommit.one _) (by omega) (by omega) smx ?_))
        intro g9 q9 w9 hown hg hwl
        have hgs := hg.size; (try simp at hgs)
        have hgc := hown.cap
        obtain ⟨gx, rfl, -⟩ := hown.row (by omega)
        have HN : Hid (ASt cb w1 w1.heap.size g q zs (k + 1) (.slice gn nx.length qn) (.slice (some ⟨gx, 0, none⟩) (lg.length + 1) q9) w9) := ⟨gn, qn, nx, gx, q9, lg ++ [m], rfl, by simp, hnl, HNS.out, by simp; omega, (fun y hy => by rcases List.mem_append.1 hy with h | h; exact HSL.out y h; (rw [List.mem_singleton.1 h]; exact ⟨hmn, hmt⟩)), (HOZ5.out |>.ext (w' := _) bxt).offA hg HNZ.out, (HON.out |>.ext (w' := _) bxt).offA hg HNN.out, by simpa using hown, (fun j hj e => by (rcases hwl j ((foot_len (some ⟨gx, 0, none⟩) (lg.length + 1) _ q9).trans e) with h | h; exact HNZ.out j hj h; (have := (HOZ5.out.rows_ltA j hj).2; (try simp at h); omega))), (fun j hj e => by (rcases hwl j ((foot_len (some ⟨gx, 0, none⟩) (lg.length + 1) _ q9).trans e) with h | h; exact HNN.out j hj h; (have := (HNR.out j hj).2; (try simp at h); omega))), (Dr.ext hdw bxt).grown hg (fun x hx => (HOL5.out.lt x hx).1)⟩
        clear hown hg hwl
        go_wp2_with fail
        go_roundw
        case rel => exact ⟨k + 1, by omega, by go_num, HN.out⟩
        case measure => simp [intOf]; omega
    · skip
      go_wp2_with fail
      refine bodyPost_ret (v := .tuple #[.slice g zs.length q, .slice (some ⟨la, 0, none⟩) lg.length lc]) (by simp [results, Try.results38, go_sem, *]) rfl ⟨g, q, zs, la, lc, lg, by omega, HSM.out, by omega, HSL.out, rfl, HOZ.out.le (by have := hE1.out.size; omega), HOL.out.le (by have := hE1.out.size; omega), hE1.out.trans ?_⟩
      exact hd.chg.below (fun x hx => by have hx' : x = cb := hx; omega) (by have := hE1.out.size; omega)
end Go.Proofs.Ytpameapajhbdnaa
