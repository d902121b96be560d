/-
  The draw of the law of followed commits.
-/
import Derived.Test.YtpameapajhbdnaaDraw7
import Derived.Test.YtpameapajhbdnaaXDrA
import Derived.Test.YtpameapajhbdnaaXDr
import Derived.Test.YtpameapajhbdnaaWCutS
import Derived.Test.YtpameapajhbdnaaWComS
namespace Go.Proofs.Ytpameapajhbdnaa
open Go.RowKit
set_option linter.unusedVariables false
set_option linter.unusedSimpArgs false

theorem ownRs_lit1 {w : World} {B E EM g0 : Nat} (nm : ByteArray) (va nx : Int) (ms : List DMsg) (g : Option Addr) (q : Nat) (hB : B ≤ w.heap.size) (hg : w.heap.size = g0) (h : Own w B EM 3 (.slice g ms.length q) ms.length (ms.flatMap DMsg.cells)) :
    OwnRs (w.alloc (.cells #[.string nm, .int .i64 va, .int .i64 nx, .slice g ms.length q] E)) B E EM (some ⟨g0, 0, none⟩) 1 [⟨nm, va, nx, ms, g, q⟩] :=
  ⟨(own_lit (n := 1) hg rfl rfl (by omega)).le hB, fun z hz => by obtain rfl := List.mem_singleton.1 hz; exact h.alloc1 _⟩
def DrFw (w : World) (e : Ending) (w' : World) : Prop := ∃ (g : Option Addr) (q : Nat) (l : List DSeen) (m : DCommit), l.length ≤ 7 ∧ m.name.size ≤ 41 ∧ m.text.size ≤ 41 ∧ e = .returned (.tuple #[.agg #[.slice g l.length q], .agg #[.int .i64 m.kind, .int .i64 m.validity, .int .i64 m.uid, .int .i64 m.flags, .string m.name, .string m.text]]) ∧ Own w' w.heap.size 129 2 (.slice g l.length q) l.length (l.flatMap DSeen.cells) ∧ Ext w w'
set_option maxRecDepth 100000 in
set_option maxHeartbeats 4000000 in
theorem drawFollowed_any (lb : List Int) (a : Option Addr) (c : Nat) (w : World) (R : Rd w a c 1 lb.length (lb.flatMap byteCells)) (hb : ∀ y ∈ lb, 0 ≤ y ∧ y ≤ 255) (hl : lb.length ≤ 1048576) :
    Calls Try.prog 47 #[.slice a lb.length c] w (DrFw w) := by
  have HR := Lib.hid R
  have HB := Lib.hid hb
  clear R hb
  go_enter Try.func47, Try.ntmps47
  go_wp2_with fail
  refine (l1New_any lb a c _ (HR.out.ext bxt) HB.out hl).mono ?_
  rintro e w1 ⟨cb, hcb, rfl, hcu, hb1⟩
  (try simp at hcb)
  have hcl := hcu.lt
  have HCU := Lib.hid hcu
  clear hcu
  have hz1 := hb1.size; (try simp at hz1)
  have s1_0 : w.heap.size < w1.heap.size := (by omega)
  have c1_0_0 : w1.cell? ⟨w.heap.size, 0, none⟩ = some (.slice none 0 0) := (hb1.cell (p := ⟨w.heap.size, 0, none⟩) smx).trans kpx
  have f1_0_0 : w1.frozen? ⟨w.heap.size, 0, none⟩ = false := (hb1.frozen (p := ⟨w.heap.size, 0, none⟩) smx).trans kfx
  have s1_1 : (w.heap.size + 1) < w1.heap.size := (by omega)
  have c1_1_0 : w1.cell? ⟨(w.heap.size + 1), 0, none⟩ = some (.int .i64 0) := (hb1.cell (p := ⟨(w.heap.size + 1), 0, none⟩) smx).trans kpx
  have f1_1_0 : w1.frozen? ⟨(w.heap.size + 1), 0, none⟩ = false := (hb1.frozen (p := ⟨(w.heap.size + 1), 0, none⟩) smx).trans kfx
  have c1_1_1 : w1.cell? ⟨(w.heap.size + 1), 1, none⟩ = some (.int .i64 0) := (hb1.cell (p := ⟨(w.heap.size + 1), 1, none⟩) smx).trans kpx
  have f1_1_1 : w1.frozen? ⟨(w.heap.size + 1), 1, none⟩ = false := (hb1.frozen (p := ⟨(w.heap.size + 1), 1, none⟩) smx).trans kfx
  have c1_1_2 : w1.cell? ⟨(w.heap.size + 1), 2, none⟩ = some (.int .i64 0) := (hb1.cell (p := ⟨(w.heap.size + 1), 2, none⟩) smx).trans kpx
  have f1_1_2 : w1.frozen? ⟨(w.heap.size + 1), 2, none⟩ = false := (hb1.frozen (p := ⟨(w.heap.size + 1), 2, none⟩) smx).trans kfx
  have c1_1_3 : w1.cell? ⟨(w.heap.size + 1), 3, none⟩ = some (.int .i64 0) := (hb1.cell (p := ⟨(w.heap.size + 1), 3, none⟩) smx).trans kpx
  have f1_1_3 : w1.frozen? ⟨(w.heap.size + 1), 3, none⟩ = false := (hb1.frozen (p := ⟨(w.heap.size + 1), 3, none⟩) smx).trans kfx
  have c1_1_4 : w1.cell? ⟨(w.heap.size + 1), 4, none⟩ = some (.string ⟨#[]⟩) := (hb1.cell (p := ⟨(w.heap.size + 1), 4, none⟩) smx).trans kpx
  have f1_1_4 : w1.frozen? ⟨(w.heap.size + 1), 4, none⟩ = false := (hb1.frozen (p := ⟨(w.heap.size + 1), 4, none⟩) smx).trans kfx
  have c1_1_5 : w1.cell? ⟨(w.heap.size + 1), 5, none⟩ = some (.string ⟨#[]⟩) := (hb1.cell (p := ⟨(w.heap.size + 1), 5, none⟩) smx).trans kpx
  have f1_1_5 : w1.frozen? ⟨(w.heap.size + 1), 5, none⟩ = false := (hb1.frozen (p := ⟨(w.heap.size + 1), 5, none⟩) smx).trans kfx
  go_wp2_with fail
  refine (l9Box_any cb _ _ _ (HCU.out.ext bxt)).mono ?_
  rintro e w2 ⟨nx, g, q, ms, hml, htx, rfl, ho, hd2⟩
  have hz2 := hd2.size; (try simp at hz2)
  have s2_0 : w.heap.size < w2.heap.size := (by omega)
  have c2_0_0 : w2.cell? ⟨w.heap.size, 0, none⟩ = some (.slice none 0 0) := (hd2.cell (x := w.heap.size) (o := 0) smx (by omega)).trans kpx
  have f2_0_0 : w2.frozen? ⟨w.heap.size, 0, none⟩ = false := (hd2.frozen (x := w.heap.size) (o := 0) smx (by omega)).trans kfx
  have s2_1 : (w.heap.size + 1) < w2.heap.size := (by omega)
  have c2_1_0 : w2.cell? ⟨(w.heap.size + 1), 0, none⟩ = some (.int .i64 0) := (hd2.cell (x := (w.heap.size + 1)) (o := 0) smx (by omega)).trans kpx
  have f2_1_0 : w2.frozen? ⟨(w.heap.size + 1), 0, none⟩ = false := (hd2.frozen (x := (w.heap.size + 1)) (o := 0) smx (by omega)).trans kfx
  have c2_1_1 : w2.cell? ⟨(w.heap.size + 1), 1, none⟩ = some (.int .i64 0) := (hd2.cell (x := (w.heap.size + 1)) (o := 1) smx (by omega)).trans kpx
  have f2_1_1 : w2.frozen? ⟨(w.heap.size + 1), 1, none⟩ = false := (hd2.frozen (x := (w.heap.size + 1)) (o := 1) smx (by omega)).trans kfx
  have c2_1_2 : w2.cell? ⟨(w.heap.size + 1), 2, none⟩ = some (.int .i64 0) := (hd2.cell (x := (w.heap.size + 1)) (o := 2) smx (by omega)).trans kpx
  have f2_1_2 : w2.frozen? ⟨(w.heap.size + 1), 2, none⟩ = false := (hd2.frozen (x := (w.heap.size + 1)) (o := 2) smx (by omega)).trans kfx
  have c2_1_3 : w2.cell? ⟨(w.heap.size + 1), 3, none⟩ = some (.int .i64 0) := (hd2.cell (x := (w.heap.size + 1)) (o := 3) smx (by omega)).trans kpx
  have f2_1_3 : w2.frozen? ⟨(w.heap.size + 1), 3, none⟩ = false := (hd2.frozen (x := (w.heap.size + 1)) (o := 3) smx (by omega)).trans kfx
  have c2_1_4 : w2.cell? ⟨(w.heap.size + 1), 4, none⟩ = some (.string ⟨#[]⟩) := (hd2.cell (x := (w.heap.size + 1)) (o := 4) smx (by omega)).trans kpx
  have f2_1_4 : w2.frozen? ⟨(w.heap.size + 1), 4, none⟩ = false := (hd2.frozen (x := (w.heap.size + 1)) (o := 4) smx (by omega)).trans kfx
  have c2_1_5 : w2.cell? ⟨(w.heap.size + 1), 5, none⟩ = some (.string ⟨#[]⟩) := (hd2.cell (x := (w.heap.size + 1)) (o := 5) smx (by omega)).trans kpx
  have f2_1_5 : w2.frozen? ⟨(w.heap.size + 1), 5, none⟩ = false := (hd2.frozen (x := (w.heap.size + 1)) (o := 5) smx (by omega)).trans kfx
  have HO := Lib.hid ho; clear ho
  have hdw2 : Hid (Dr cb w1 w2) := hd2
  go_wp2_with fail
  refine (specViewOf_any _ _ _ ms g q _ (Rd.of_Own (HO.out.ext bxt)) (by omega) _ (Lib.hid rfl)).mono ?_
  rintro e w3 ⟨g2, q2, rfl, ho2, hb3⟩
  have HV := Lib.hid ((Own.of_row ho2).le (B' := w2.heap.size) (by simp)); clear ho2
  have hz3 := hb3.size; (try simp at hz3)
  have s3_0 : w.heap.size < w3.heap.size := (by omega)
  have c3_0_0 : w3.cell? ⟨w.heap.size, 0, none⟩ = some (.slice none 0 0) := (hb3.cell (p := ⟨w.heap.size, 0, none⟩) smx).trans kpx
  have f3_0_0 : w3.frozen? ⟨w.heap.size, 0, none⟩ = false := (hb3.frozen (p := ⟨w.heap.size, 0, none⟩) smx).trans kfx
  have s3_1 : (w.heap.size + 1) < w3.heap.size := (by omega)
  have c3_1_0 : w3.cell? ⟨(w.heap.size + 1), 0, none⟩ = some (.int .i64 0) := (hb3.cell (p := ⟨(w.heap.size + 1), 0, none⟩) smx).trans kpx
  have f3_1_0 : w3.frozen? ⟨(w.heap.size + 1), 0, none⟩ = false := (hb3.frozen (p := ⟨(w.heap.size + 1), 0, none⟩) smx).trans kfx
  have c3_1_1 : w3.cell? ⟨(w.heap.size + 1), 1, none⟩ = some (.int .i64 0) := (hb3.cell (p := ⟨(w.heap.size + 1), 1, none⟩) smx).trans kpx
  have f3_1_1 : w3.frozen? ⟨(w.heap.size + 1), 1, none⟩ = false := (hb3.frozen (p := ⟨(w.heap.size + 1), 1, none⟩) smx).trans kfx
  have c3_1_2 : w3.cell? ⟨(w.heap.size + 1), 2, none⟩ = some (.int .i64 0) := (hb3.cell (p := ⟨(w.heap.size + 1), 2, none⟩) smx).trans kpx
  have f3_1_2 : w3.frozen? ⟨(w.heap.size + 1), 2, none⟩ = false := (hb3.frozen (p := ⟨(w.heap.size + 1), 2, none⟩) smx).trans kfx
  have c3_1_3 : w3.cell? ⟨(w.heap.size + 1), 3, none⟩ = some (.int .i64 0) := (hb3.cell (p := ⟨(w.heap.size + 1), 3, none⟩) smx).trans kpx
  have f3_1_3 : w3.frozen? ⟨(w.heap.size + 1), 3, none⟩ = false := (hb3.frozen (p := ⟨(w.heap.size + 1), 3, none⟩) smx).trans kfx
  have c3_1_4 : w3.cell? ⟨(w.heap.size + 1), 4, none⟩ = some (.string ⟨#[]⟩) := (hb3.cell (p := ⟨(w.heap.size + 1), 4, none⟩) smx).trans kpx
  have f3_1_4 : w3.frozen? ⟨(w.heap.size + 1), 4, none⟩ = false := (hb3.frozen (p := ⟨(w.heap.size + 1), 4, none⟩) smx).trans kfx
  have c3_1_5 : w3.cell? ⟨(w.heap.size + 1), 5, none⟩ = some (.string ⟨#[]⟩) := (hb3.cell (p := ⟨(w.heap.size + 1), 5, none⟩) smx).trans kpx
  have f3_1_5 : w3.frozen? ⟨(w.heap.size + 1), 5, none⟩ = false := (hb3.frozen (p := ⟨(w.heap.size + 1), 5, none⟩) smx).trans kfx
  have s3_2 : w2.heap.size < w3.heap.size := (by omega)
  have c3_2_0 : w3.cell? ⟨w2.heap.size, 0, none⟩ = some (.string ⟨#[97]⟩) := (hb3.cell (p := ⟨w2.heap.size, 0, none⟩) smx).trans kpx
  have f3_2_0 : w3.frozen? ⟨w2.heap.size, 0, none⟩ = false := (hb3.frozen (p := ⟨w2.heap.size, 0, none⟩) smx).trans kfx
  have c3_2_1 : w3.cell? ⟨w2.heap.size, 1, none⟩ = some (.int .i64 1) := (hb3.cell (p := ⟨w2.heap.size, 1, none⟩) smx).trans kpx
  have f3_2_1 : w3.frozen? ⟨w2.heap.size, 1, none⟩ = false := (hb3.frozen (p := ⟨w2.heap.size, 1, none⟩) smx).trans kfx
  have c3_2_2 : w3.cell? ⟨w2.heap.size, 2, none⟩ = some (.int .i64 nx) := (hb3.cell (p := ⟨w2.heap.size, 2, none⟩) smx).trans kpx
  have f3_2_2 : w3.frozen? ⟨w2.heap.size, 2, none⟩ = false := (hb3.frozen (p := ⟨w2.heap.size, 2, none⟩) smx).trans kfx
  have c3_2_3 : w3.cell? ⟨w2.heap.size, 3, none⟩ = some (.slice g ms.length q) := (hb3.cell (p := ⟨w2.heap.size, 3, none⟩) smx).trans kpx
  have f3_2_3 : w3.frozen? ⟨w2.heap.size, 3, none⟩ = false := (hb3.frozen (p := ⟨w2.heap.size, 3, none⟩) smx).trans kfx
  have HC3 := Lib.hid (hd2.cur.ext (w' := w3) bxt)
  go_wp2_with fail
  refine (l1Once_any cb 6 _ (HC3.out.ext bxt) (by omega)).mono ?_
  rintro e w4 ⟨t, rfl, hd4⟩
  have hz4 := hd4.size; (try simp at hz4)
  have s4_0 : w.heap.size < w4.heap.size := (by omega)
  have c4_0_0 : w4.cell? ⟨w.heap.size, 0, none⟩ = some (.slice none 0 0) := (hd4.cell (x := w.heap.size) (o := 0) smx (by omega)).trans kpx
  have f4_0_0 : w4.frozen? ⟨w.heap.size, 0, none⟩ = false := (hd4.frozen (x := w.heap.size) (o := 0) smx (by omega)).trans kfx
  have s4_1 : (w.heap.size + 1) < w4.heap.size := (by omega)
  have c4_1_0 : w4.cell? ⟨(w.heap.size + 1), 0, none⟩ = some (.int .i64 0) := (hd4.cell (x := (w.heap.size + 1)) (o := 0) smx (by omega)).trans kpx
  have f4_1_0 : w4.frozen? ⟨(w.heap.size + 1), 0, none⟩ = false := (hd4.frozen (x := (w.heap.size + 1)) (o := 0) smx (by omega)).trans kfx
  have c4_1_1 : w4.cell? ⟨(w.heap.size + 1), 1, none⟩ = some (.int .i64 0) := (hd4.cell (x := (w.heap.size + 1)) (o := 1) smx (by omega)).trans kpx
  have f4_1_1 : w4.frozen? ⟨(w.heap.size + 1), 1, none⟩ = false := (hd4.frozen (x := (w.heap.size + 1)) (o := 1) smx (by omega)).trans kfx
  have c4_1_2 : w4.cell? ⟨(w.heap.size + 1), 2, none⟩ = some (.int .i64 0) := (hd4.cell (x := (w.heap.size + 1)) (o := 2) smx (by omega)).trans kpx
  have f4_1_2 : w4.frozen? ⟨(w.heap.size + 1), 2, none⟩ = false := (hd4.frozen (x := (w.heap.size + 1)) (o := 2) smx (by omega)).trans kfx
  have c4_1_3 : w4.cell? ⟨(w.heap.size + 1), 3, none⟩ = some (.int .i64 0) := (hd4.cell (x := (w.heap.size + 1)) (o := 3) smx (by omega)).trans kpx
  have f4_1_3 : w4.frozen? ⟨(w.heap.size + 1), 3, none⟩ = false := (hd4.frozen (x := (w.heap.size + 1)) (o := 3) smx (by omega)).trans kfx
  have c4_1_4 : w4.cell? ⟨(w.heap.size + 1), 4, none⟩ = some (.string ⟨#[]⟩) := (hd4.cell (x := (w.heap.size + 1)) (o := 4) smx (by omega)).trans kpx
  have f4_1_4 : w4.frozen? ⟨(w.heap.size + 1), 4, none⟩ = false := (hd4.frozen (x := (w.heap.size + 1)) (o := 4) smx (by omega)).trans kfx
  have c4_1_5 : w4.cell? ⟨(w.heap.size + 1), 5, none⟩ = some (.string ⟨#[]⟩) := (hd4.cell (x := (w.heap.size + 1)) (o := 5) smx (by omega)).trans kpx
  have f4_1_5 : w4.frozen? ⟨(w.heap.size + 1), 5, none⟩ = false := (hd4.frozen (x := (w.heap.size + 1)) (o := 5) smx (by omega)).trans kfx
  have s4_2 : w2.heap.size < w4.heap.size := (by omega)
  have c4_2_0 : w4.cell? ⟨w2.heap.size, 0, none⟩ = some (.string ⟨#[97]⟩) := (hd4.cell (x := w2.heap.size) (o := 0) smx (by omega)).trans kpx
  have f4_2_0 : w4.frozen? ⟨w2.heap.size, 0, none⟩ = false := (hd4.frozen (x := w2.heap.size) (o := 0) smx (by omega)).trans kfx
  have c4_2_1 : w4.cell? ⟨w2.heap.size, 1, none⟩ = some (.int .i64 1) := (hd4.cell (x := w2.heap.size) (o := 1) smx (by omega)).trans kpx
  have f4_2_1 : w4.frozen? ⟨w2.heap.size, 1, none⟩ = false := (hd4.frozen (x := w2.heap.size) (o := 1) smx (by omega)).trans kfx
  have c4_2_2 : w4.cell? ⟨w2.heap.size, 2, none⟩ = some (.int .i64 nx) := (hd4.cell (x := w2.heap.size) (o := 2) smx (by omega)).trans kpx
  have f4_2_2 : w4.frozen? ⟨w2.heap.size, 2, none⟩ = false := (hd4.frozen (x := w2.heap.size) (o := 2) smx (by omega)).trans kfx
  have c4_2_3 : w4.cell? ⟨w2.heap.size, 3, none⟩ = some (.slice g ms.length q) := (hd4.cell (x := w2.heap.size) (o := 3) smx (by omega)).trans kpx
  have f4_2_3 : w4.frozen? ⟨w2.heap.size, 3, none⟩ = false := (hd4.frozen (x := w2.heap.size) (o := 3) smx (by omega)).trans kfx
  have s4_3 : w3.heap.size < w4.heap.size := (by omega)
  have c4_3_0 : w4.cell? ⟨w3.heap.size, 0, none⟩ = some (.slice g2 (ms.map DMsg.seen).length q2) := (hd4.cell (x := w3.heap.size) (o := 0) smx (by omega)).trans kpx
  have f4_3_0 : w4.frozen? ⟨w3.heap.size, 0, none⟩ = false := (hd4.frozen (x := w3.heap.size) (o := 0) smx (by omega)).trans kfx
  have HO4 := Lib.hid ((HO.out.ext (w' := _) bxt).dr hd4 (by omega))
  have HV4 := Lib.hid ((HV.out.ext (w' := _) bxt).dr hd4 (by omega))
  cases t
  · skip
    have HCX := Lib.hid hd4.cur; have HOX := HO4; have HVX := HV4
    go_wp2_with fail
    go_region_law ((first | (go_simp; go_at_call 115; refine (l10Bent_any cb [⟨⟨#[97]⟩, 1, nx, ms, g, q⟩] _ _ w1.heap.size _ (HCX.out.ext bxt) (OwnRs.ext (ownRs_lit1 (w := w4) _ _ _ _ _ _ smx (by simp) HOX.out) bxt) (by omega) (by simp) (fun y hy => by obtain rfl := List.mem_singleton.1 hy; show ms.length ≤ 1000; omega)).mono ?_; rintro e w5 ⟨m, hmn, hmt, rfl, hd5⟩; have HVQ := Lib.hid ((HVX.out.ext (w' := _) bxt).dr hd5 (by omega)); have hz5 := hd5.size; (try simp at hz5); have s5_0 : w.heap.size < w5.heap.size := (by omega); have c5_0_0 : w5.cell? ⟨w.heap.size, 0, none⟩ = some (.slice none 0 0) := (hd5.cell (x := w.heap.size) (o := 0) smx (by omega)).trans kpx; have f5_0_0 : w5.frozen? ⟨w.heap.size, 0, none⟩ = false := (hd5.frozen (x := w.heap.size) (o := 0) smx (by omega)).trans kfx; have s5_1 : (w.heap.size + 1) < w5.heap.size := (by omega); have c5_1_0 : w5.cell? ⟨(w.heap.size + 1), 0, none⟩ = some (.int .i64 0) := (hd5.cell (x := (w.heap.size + 1)) (o := 0) smx (by omega)).trans kpx; have f5_1_0 : w5.frozen? ⟨(w.heap.size + 1), 0, none⟩ = false := (hd5.frozen (x := (w.heap.size + 1)) (o := 0) smx (by omega)).trans kfx; have c5_1_1 : w5.cell? ⟨(w.heap.size + 1), 1, none⟩ = some (.int .i64 0) := (hd5.cell (x := (w.heap.size + 1)) (o := 1) smx (by omega)).trans kpx; have f5_1_1 : w5.frozen? ⟨(w.heap.size + 1), 1, none⟩ = false := (hd5.frozen (x := (w.heap.size + 1)) (o := 1) smx (by omega)).trans kfx; have c5_1_2 : w5.cell? ⟨(w.heap.size + 1), 2, none⟩ = some (.int .i64 0) := (hd5.cell (x := (w.heap.size + 1)) (o := 2) smx (by omega)).trans kpx; have f5_1_2 : w5.frozen? ⟨(w.heap.size + 1), 2, none⟩ = false := (hd5.frozen (x := (w.heap.size + 1)) (o := 2) smx (by omega)).trans kfx; have c5_1_3 : w5.cell? ⟨(w.heap.size + 1), 3, none⟩ = some (.int .i64 0) := (hd5.cell (x := (w.heap.size + 1)) (o := 3) smx (by omega)).trans kpx; have f5_1_3 : w5.frozen? ⟨(w.heap.size + 1), 3, none⟩ = false := (hd5.frozen (x := (w.heap.size + 1)) (o := 3) smx (by omega)).trans kfx; have c5_1_4 : w5.cell? ⟨(w.heap.size + 1), 4, none⟩ = some (.string ⟨#[]⟩) := (hd5.cell (x := (w.heap.size + 1)) (o := 4) smx (by omega)).trans kpx; have f5_1_4 : w5.frozen? ⟨(w.heap.size + 1), 4, none⟩ = false := (hd5.frozen (x := (w.heap.size + 1)) (o := 4) smx (by omega)).trans kfx; have c5_1_5 : w5.cell? ⟨(w.heap.size + 1), 5, none⟩ = some (.string ⟨#[]⟩) := (hd5.cell (x := (w.heap.size + 1)) (o := 5) smx (by omega)).trans kpx; have f5_1_5 : w5.frozen? ⟨(w.heap.size + 1), 5, none⟩ = false := (hd5.frozen (x := (w.heap.size + 1)) (o := 5) smx (by omega)).trans kfx; have s5_2 : w2.heap.size < w5.heap.size := (by omega); have c5_2_0 : w5.cell? ⟨w2.heap.size, 0, none⟩ = some (.string ⟨#[97]⟩) := (hd5.cell (x := w2.heap.size) (o := 0) smx (by omega)).trans kpx; have f5_2_0 : w5.frozen? ⟨w2.heap.size, 0, none⟩ = false := (hd5.frozen (x := w2.heap.size) (o := 0) smx (by omega)).trans kfx; have c5_2_1 : w5.cell? ⟨w2.heap.size, 1, none⟩ = some (.int .i64 1) := (hd5.cell (x := w2.heap.size) (o := 1) smx (by omega)).trans kpx; have f5_2_1 : w5.frozen? ⟨w2.heap.size, 1, none⟩ = false := (hd5.frozen (x := w2.heap.size) (o := 1) smx (by omega)).trans kfx; have c5_2_2 : w5.cell? ⟨w2.heap.size, 2, none⟩ = some (.int .i64 nx) := (hd5.cell (x := w2.heap.size) (o := 2) smx (by omega)).trans kpx; have f5_2_2 : w5.frozen? ⟨w2.heap.size, 2, none⟩ = false := (hd5.frozen (x := w2.heap.size) (o := 2) smx (by omega)).trans kfx; have c5_2_3 : w5.cell? ⟨w2.heap.size, 3, none⟩ = some (.slice g ms.length q) := (hd5.cell (x := w2.heap.size) (o := 3) smx (by omega)).trans kpx; have f5_2_3 : w5.frozen? ⟨w2.heap.size, 3, none⟩ = false := (hd5.frozen (x := w2.heap.size) (o := 3) smx (by omega)).trans kfx; have s5_3 : w3.heap.size < w5.heap.size := (by omega); have c5_3_0 : w5.cell? ⟨w3.heap.size, 0, none⟩ = some (.slice g2 (ms.map DMsg.seen).length q2) := (hd5.cell (x := w3.heap.size) (o := 0) smx (by omega)).trans kpx; have f5_3_0 : w5.frozen? ⟨w3.heap.size, 0, none⟩ = false := (hd5.frozen (x := w3.heap.size) (o := 0) smx (by omega)).trans kfx) | fail))
    all_goals go_wp2_with fail
    all_goals refine bodyPost_ret (v := .tuple #[.agg #[.slice g2 (ms.map DMsg.seen).length q2], .agg #[.int .i64 m.kind, .int .i64 m.validity, .int .i64 m.uid, .int .i64 m.flags, .string m.name, .string m.text]]) (by simp [results, Try.results47, go_sem, *]) rfl ⟨g2, q2, (ms.map DMsg.seen), m, by (try simp); omega, hmn, hmt, rfl, ?_, btx⟩
    all_goals (refine Own.le (B := w2.heap.size) ?_ (by omega); exact (by repeat' (first | with_reducible exact HVQ.out | with_reducible refine Own.set_below ?_ smx _ | with_reducible refine Own.alloc1 ?_ _ | with_reducible refine Own.drew1 ?_ | with_reducible refine Own.drewN1 ?_ | with_reducible refine Own.ext ?_ (by assumption))))
  · skip
    go_wp2_with fail
    refine (l13Bent_any cb _ (hd4.cur.ext bxt)).mono ?_
    rintro e w6 ⟨g5, q5, l5, hl5, rfl, ho5, hd6⟩
    have hz6 := hd6.size; (try simp at hz6)
    have s6_0 : w.heap.size < w6.heap.size := (by omega)
    have c6_0_0 : w6.cell? ⟨w.heap.size, 0, none⟩ = some (.slice none 0 0) := (hd6.cell (x := w.heap.size) (o := 0) smx (by omega)).trans kpx
    have f6_0_0 : w6.frozen? ⟨w.heap.size, 0, none⟩ = false := (hd6.frozen (x := w.heap.size) (o := 0) smx (by omega)).trans kfx
    have s6_1 : (w.heap.size + 1) < w6.heap.size := (by omega)
    have c6_1_0 : w6.cell? ⟨(w.heap.size + 1), 0, none⟩ = some (.int .i64 0) := (hd6.cell (x := (w.heap.size + 1)) (o := 0) smx (by omega)).trans kpx
    have f6_1_0 : w6.frozen? ⟨(w.heap.size + 1), 0, none⟩ = false := (hd6.frozen (x := (w.heap.size + 1)) (o := 0) smx (by omega)).trans kfx
    have c6_1_1 : w6.cell? ⟨(w.heap.size + 1), 1, none⟩ = some (.int .i64 0) := (hd6.cell (x := (w.heap.size + 1)) (o := 1) smx (by omega)).trans kpx
    have f6_1_1 : w6.frozen? ⟨(w.heap.size + 1), 1, none⟩ = false := (hd6.frozen (x := (w.heap.size + 1)) (o := 1) smx (by omega)).trans kfx
    have c6_1_2 : w6.cell? ⟨(w.heap.size + 1), 2, none⟩ = some (.int .i64 0) := (hd6.cell (x := (w.heap.size + 1)) (o := 2) smx (by omega)).trans kpx
    have f6_1_2 : w6.frozen? ⟨(w.heap.size + 1), 2, none⟩ = false := (hd6.frozen (x := (w.heap.size + 1)) (o := 2) smx (by omega)).trans kfx
    have c6_1_3 : w6.cell? ⟨(w.heap.size + 1), 3, none⟩ = some (.int .i64 0) := (hd6.cell (x := (w.heap.size + 1)) (o := 3) smx (by omega)).trans kpx
    have f6_1_3 : w6.frozen? ⟨(w.heap.size + 1), 3, none⟩ = false := (hd6.frozen (x := (w.heap.size + 1)) (o := 3) smx (by omega)).trans kfx
    have c6_1_4 : w6.cell? ⟨(w.heap.size + 1), 4, none⟩ = some (.string ⟨#[]⟩) := (hd6.cell (x := (w.heap.size + 1)) (o := 4) smx (by omega)).trans kpx
    have f6_1_4 : w6.frozen? ⟨(w.heap.size + 1), 4, none⟩ = false := (hd6.frozen (x := (w.heap.size + 1)) (o := 4) smx (by omega)).trans kfx
    have c6_1_5 : w6.cell? ⟨(w.heap.size + 1), 5, none⟩ = some (.string ⟨#[]⟩) := (hd6.cell (x := (w.heap.size + 1)) (o := 5) smx (by omega)).trans kpx
    have f6_1_5 : w6.frozen? ⟨(w.heap.size + 1), 5, none⟩ = false := (hd6.frozen (x := (w.heap.size + 1)) (o := 5) smx (by omega)).trans kfx
    have s6_2 : w2.heap.size < w6.heap.size := (by omega)
    have c6_2_0 : w6.cell? ⟨w2.heap.size, 0, none⟩ = some (.string ⟨#[97]⟩) := (hd6.cell (x := w2.heap.size) (o := 0) smx (by omega)).trans kpx
    have f6_2_0 : w6.frozen? ⟨w2.heap.size, 0, none⟩ = false := (hd6.frozen (x := w2.heap.size) (o := 0) smx (by omega)).trans kfx
    have c6_2_1 : w6.cell? ⟨w2.heap.size, 1, none⟩ = some (.int .i64 1) := (hd6.cell (x := w2.heap.size) (o := 1) smx (by omega)).trans kpx
    have f6_2_1 : w6.frozen? ⟨w2.heap.size, 1, none⟩ = false := (hd6.frozen (x := w2.heap.size) (o := 1) smx (by omega)).trans kfx
    have c6_2_2 : w6.cell? ⟨w2.heap.size, 2, none⟩ = some (.int .i64 nx) := (hd6.cell (x := w2.heap.size) (o := 2) smx (by omega)).trans kpx
    have f6_2_2 : w6.frozen? ⟨w2.heap.size, 2, none⟩ = false := (hd6.frozen (x := w2.heap.size) (o := 2) smx (by omega)).trans kfx
    have c6_2_3 : w6.cell? ⟨w2.heap.size, 3, none⟩ = some (.slice g ms.length q) := (hd6.cell (x := w2.heap.size) (o := 3) smx (by omega)).trans kpx
    have f6_2_3 : w6.frozen? ⟨w2.heap.size, 3, none⟩ = false := (hd6.frozen (x := w2.heap.size) (o := 3) smx (by omega)).trans kfx
    have s6_3 : w3.heap.size < w6.heap.size := (by omega)
    have c6_3_0 : w6.cell? ⟨w3.heap.size, 0, none⟩ = some (.slice g2 (ms.map DMsg.seen).length q2) := (hd6.cell (x := w3.heap.size) (o := 0) smx (by omega)).trans kpx
    have f6_3_0 : w6.frozen? ⟨w3.heap.size, 0, none⟩ = false := (hd6.frozen (x := w3.heap.size) (o := 0) smx (by omega)).trans kfx
    have HV5 := Lib.hid ho5; clear ho5
    have HCX : Hid (Cur (w6.setCell ⟨w3.heap.size, 0, none⟩ (.slice g5 l5.length q5)) cb) := Lib.hid (Dr.cur (show Dr cb w1 (w6.setCell ⟨w3.heap.size, 0, none⟩ (.slice g5 l5.length q5)) from dtx))
    have HOX := Lib.hid ((HO4.out.dr hd6 (by omega)).set_off (p := ⟨w3.heap.size, 0, none⟩) (HO.out.ne_ge (by show w2.heap.size ≤ w3.heap.size; omega)) (.slice g5 l5.length q5))
    have HVX := Lib.hid ((HV5.out.le (B' := w2.heap.size) (by omega)).set_off (p := ⟨w3.heap.size, 0, none⟩) (fun e => by have := (HV5.out.lt w3.heap.size e).1; omega) (.slice g5 l5.length q5))
    go_wp2_with fail
    go_region_law ((first | (go_simp; go_at_call 115; refine (l10Bent_any cb [⟨⟨#[97]⟩, 1, nx, ms, g, q⟩] _ _ w1.heap.size _ (HCX.out.ext bxt) (OwnRs.ext (ownRs_lit1 (w := (w6.setCell ⟨w3.heap.size, 0, none⟩ (.slice g5 l5.length q5))) _ _ _ _ _ _ smx (by simp) HOX.out) bxt) (by omega) (by simp) (fun y hy => by obtain rfl := List.mem_singleton.1 hy; show ms.length ≤ 1000; omega)).mono ?_; rintro e w7 ⟨m, hmn, hmt, rfl, hd7⟩; have HVQ := Lib.hid ((HVX.out.ext (w' := _) bxt).dr hd7 (by omega)); have hz7 := hd7.size; (try simp at hz7); have s7_0 : w.heap.size < w7.heap.size := (by omega); have c7_0_0 : w7.cell? ⟨w.heap.size, 0, none⟩ = some (.slice none 0 0) := (hd7.cell (x := w.heap.size) (o := 0) smx (by omega)).trans kpx; have f7_0_0 : w7.frozen? ⟨w.heap.size, 0, none⟩ = false := (hd7.frozen (x := w.heap.size) (o := 0) smx (by omega)).trans kfx; have s7_1 : (w.heap.size + 1) < w7.heap.size := (by omega); have c7_1_0 : w7.cell? ⟨(w.heap.size + 1), 0, none⟩ = some (.int .i64 0) := (hd7.cell (x := (w.heap.size + 1)) (o := 0) smx (by omega)).trans kpx; have f7_1_0 : w7.frozen? ⟨(w.heap.size + 1), 0, none⟩ = false := (hd7.frozen (x := (w.heap.size + 1)) (o := 0) smx (by omega)).trans kfx; have c7_1_1 : w7.cell? ⟨(w.heap.size + 1), 1, none⟩ = some (.int .i64 0) := (hd7.cell (x := (w.heap.size + 1)) (o := 1) smx (by omega)).trans kpx; have f7_1_1 : w7.frozen? ⟨(w.heap.size + 1), 1, none⟩ = false := (hd7.frozen (x := (w.heap.size + 1)) (o := 1) smx (by omega)).trans kfx; have c7_1_2 : w7.cell? ⟨(w.heap.size + 1), 2, none⟩ = some (.int .i64 0) := (hd7.cell (x := (w.heap.size + 1)) (o := 2) smx (by omega)).trans kpx; have f7_1_2 : w7.frozen? ⟨(w.heap.size + 1), 2, none⟩ = false := (hd7.frozen (x := (w.heap.size + 1)) (o := 2) smx (by omega)).trans kfx; have c7_1_3 : w7.cell? ⟨(w.heap.size + 1), 3, none⟩ = some (.int .i64 0) := (hd7.cell (x := (w.heap.size + 1)) (o := 3) smx (by omega)).trans kpx; have f7_1_3 : w7.frozen? ⟨(w.heap.size + 1), 3, none⟩ = false := (hd7.frozen (x := (w.heap.size + 1)) (o := 3) smx (by omega)).trans kfx; have c7_1_4 : w7.cell? ⟨(w.heap.size + 1), 4, none⟩ = some (.string ⟨#[]⟩) := (hd7.cell (x := (w.heap.size + 1)) (o := 4) smx (by omega)).trans kpx; have f7_1_4 : w7.frozen? ⟨(w.heap.size + 1), 4, none⟩ = false := (hd7.frozen (x := (w.heap.size + 1)) (o := 4) smx (by omega)).trans kfx; have c7_1_5 : w7.cell? ⟨(w.heap.size + 1), 5, none⟩ = some (.string ⟨#[]⟩) := (hd7.cell (x := (w.heap.size + 1)) (o := 5) smx (by omega)).trans kpx; have f7_1_5 : w7.frozen? ⟨(w.heap.size + 1), 5, none⟩ = false := (hd7.frozen (x := (w.heap.size + 1)) (o := 5) smx (by omega)).trans kfx; have s7_2 : w2.heap.size < w7.heap.size := (by omega); have c7_2_0 : w7.cell? ⟨w2.heap.size, 0, none⟩ = some (.string ⟨#[97]⟩) := (hd7.cell (x := w2.heap.size) (o := 0) smx (by omega)).trans kpx; have f7_2_0 : w7.frozen? ⟨w2.heap.size, 0, none⟩ = false := (hd7.frozen (x := w2.heap.size) (o := 0) smx (by omega)).trans kfx; have c7_2_1 : w7.cell? ⟨w2.heap.size, 1, none⟩ = some (.int .i64 1) := (hd7.cell (x := w2.heap.size) (o := 1) smx (by omega)).trans kpx; have f7_2_1 : w7.frozen? ⟨w2.heap.size, 1, none⟩ = false := (hd7.frozen (x := w2.heap.size) (o := 1) smx (by omega)).trans kfx; have c7_2_2 : w7.cell? ⟨w2.heap.size, 2, none⟩ = some (.int .i64 nx) := (hd7.cell (x := w2.heap.size) (o := 2) smx (by omega)).trans kpx; have f7_2_2 : w7.frozen? ⟨w2.heap.size, 2, none⟩ = false := (hd7.frozen (x := w2.heap.size) (o := 2) smx (by omega)).trans kfx; have c7_2_3 : w7.cell? ⟨w2.heap.size, 3, none⟩ = some (.slice g ms.length q) := (hd7.cell (x := w2.heap.size) (o := 3) smx (by omega)).trans kpx; have f7_2_3 : w7.frozen? ⟨w2.heap.size, 3, none⟩ = false := (hd7.frozen (x := w2.heap.size) (o := 3) smx (by omega)).trans kfx; have s7_3 : w3.heap.size < w7.heap.size := (by omega); have c7_3_0 : w7.cell? ⟨w3.heap.size, 0, none⟩ = some (.slice g5 l5.length q5) := (hd7.cell (x := w3.heap.size) (o := 0) smx (by omega)).trans kpx; have f7_3_0 : w7.frozen? ⟨w3.heap.size, 0, none⟩ = false := (hd7.frozen (x := w3.heap.size) (o := 0) smx (by omega)).trans kfx) | fail))
    all_goals go_wp2_with fail
    all_goals refine bodyPost_ret (v := .tuple #[.agg #[.slice g5 l5.length q5], .agg #[.int .i64 m.kind, .int .i64 m.validity, .int .i64 m.uid, .int .i64 m.flags, .string m.name, .string m.text]]) (by simp [results, Try.results47, go_sem, *]) rfl ⟨g5, q5, l5, m, by (try simp); omega, hmn, hmt, rfl, ?_, btx⟩
    all_goals (refine Own.le (B := w2.heap.size) ?_ (by omega); exact (by repeat' (first | with_reducible exact HVQ.out | with_reducible refine Own.set_below ?_ smx _ | with_reducible refine Own.alloc1 ?_ _ | with_reducible refine Own.drew1 ?_ | with_reducible refine Own.drewN1 ?_ | with_reducible refine Own.ext ?_ (by assumption))))
end Go.Proofs.Ytpameapajhbdnaa
