/-
  More draws of the laws of stores.
-/
import Derived.Test.YtjcnhkmhcfmoeaaGreatDraw13
namespace Go.Proofs.YtjcnhkmhcfmoeaaGreat
open Go.RowKit
set_option linter.unusedVariables false
set_option linter.unusedSimpArgs false

theorem OwnRt.drew1 {w : World} {B E EM EC : Nat} {ba la : Option Addr} {bc lc : Nat} {zs : List PBox} {l : List DCommit} (h : OwnRt w B E EM EC ba bc zs la lc l) : OwnRt w.drew B E EM EC ba bc zs la lc l := h.ext (Below.refl _ _).drew
theorem OwnRt.alloc1 {w : World} {B E EM EC : Nat} {ba la : Option Addr} {bc lc : Nat} {zs : List PBox} {l : List DCommit} (h : OwnRt w B E EM EC ba bc zs la lc l) (o : Obj) : OwnRt (w.alloc o) B E EM EC ba bc zs la lc l := h.ext ((Below.refl _ _).alloc (Nat.le_refl _) _)
theorem OwnRt.set_hi {w w0 : World} {B B0 E EM EC : Nat} {ba la : Option Addr} {bc lc : Nat} {zs : List PBox} {l : List DCommit} (h : OwnRt w B E EM EC ba bc zs la lc l) (h0 : OwnRt w0 B0 E EM EC ba bc zs la lc l) {p : Addr} (hp : w0.heap.size ≤ p.block) (u : Value) : OwnRt (w.setCell p u) B E EM EC ba bc zs la lc l :=
  ⟨h.rs.set_ne (fun k hk e => by have := (h0.rs.rows_lt k hk).2; omega) u, h.log.set_off (fun e => by have := (h0.log.lt _ e).2; omega) u⟩
def DrRsTT (w : World) (e : Ending) (w' : World) : Prop := ∃ (ba : Option Addr) (bc : Nat) (zs : List PBox) (la : Option Addr) (lc : Nat) (l : List DCommit) (gv : Int) (x y : ByteArray), x.size ≤ 41 ∧ y.size ≤ 41 ∧ zs.length ≤ 5 ∧ SmB 6 zs ∧ l.length ≤ 320 ∧ SmL l ∧ e = .returned (.tuple #[.agg #[.slice ba zs.length bc, .slice la l.length lc, .int .i64 gv], .string x, .string y]) ∧ OwnRt w' w.heap.size 49 66 41 ba bc zs la lc l ∧ Ext w w'
def DrRsC (w : World) (e : Ending) (w' : World) : Prop := ∃ (ba : Option Addr) (bc : Nat) (zs : List PBox) (la : Option Addr) (lc : Nat) (l : List DCommit) (gv : Int) (m : DCommit), m.name.size ≤ 41 ∧ m.text.size ≤ 41 ∧ zs.length ≤ 5 ∧ SmB 6 zs ∧ l.length ≤ 320 ∧ SmL l ∧ e = .returned (.tuple #[.agg #[.slice ba zs.length bc, .slice la l.length lc, .int .i64 gv], .agg #[.int .i64 m.kind, .int .i64 m.validity, .int .i64 m.uid, .int .i64 m.flags, .string m.name, .string m.text]]) ∧ OwnRt w' w.heap.size 49 66 41 ba bc zs la lc l ∧ Ext w w'
set_option maxRecDepth 100000 in
set_option maxHeartbeats 4000000 in
theorem drawNameBox_any (lb : List Int) (a : Option Addr) (c : Nat) (w : World) (R : Rd w a c 1 lb.length (lb.flatMap byteCells)) (hb : ∀ y ∈ lb, 0 ≤ y ∧ y ≤ 255) (hl : lb.length ≤ 1048576) :
    Calls Tryz.prog 49 #[.slice a lb.length c] w (DrRsTT w) := by
  have HR := Lib.hid R
  have HB := Lib.hid hb
  clear R hb
  go_enter Tryz.func49, Tryz.ntmps49
  go_wp2_with fail
  refine (l1New_any lb a c _ (HR.out.ext bxt) HB.out hl).mono ?_
  rintro e w1 ⟨cb, hcb, rfl, hcu, hb1⟩
  (try simp at hcb)
  have hcl := hcu.lt
  have HCU := Lib.hid hcu
  clear hcu
  have hz1 := hb1.size; (try simp at hz1)
  have s1_0 : w.heap.size < w1.heap.size := (by omega)
  have c1_0_0 : w1.cell? ⟨w.heap.size, 0, none⟩ = some (.slice none 0 0) := (hb1.cell (p := ⟨w.heap.size, 0, none⟩) smx).trans kpx
  have f1_0_0 : w1.frozen? ⟨w.heap.size, 0, none⟩ = false := (hb1.frozen (p := ⟨w.heap.size, 0, none⟩) smx).trans kfx
  have c1_0_1 : w1.cell? ⟨w.heap.size, 1, none⟩ = some (.slice none 0 0) := (hb1.cell (p := ⟨w.heap.size, 1, none⟩) smx).trans kpx
  have f1_0_1 : w1.frozen? ⟨w.heap.size, 1, none⟩ = false := (hb1.frozen (p := ⟨w.heap.size, 1, none⟩) smx).trans kfx
  have c1_0_2 : w1.cell? ⟨w.heap.size, 2, none⟩ = some (.int .i64 0) := (hb1.cell (p := ⟨w.heap.size, 2, none⟩) smx).trans kpx
  have f1_0_2 : w1.frozen? ⟨w.heap.size, 2, none⟩ = false := (hb1.frozen (p := ⟨w.heap.size, 2, none⟩) smx).trans kfx
  go_wp2_with fail
  refine (l12Store_any cb _ (HCU.out.ext bxt)).mono ?_
  rintro e w2 ⟨ba, bc, zs, la, lc, l, gv, hzl, hsm, hll, hsl, rfl, ho, hd2⟩
  have hz2 := hd2.size; (try simp at hz2)
  have s2_0 : w.heap.size < w2.heap.size := (by omega)
  have c2_0_0 : w2.cell? ⟨w.heap.size, 0, none⟩ = some (.slice none 0 0) := (hd2.cell (x := w.heap.size) (o := 0) smx (by omega)).trans kpx
  have f2_0_0 : w2.frozen? ⟨w.heap.size, 0, none⟩ = false := (hd2.frozen (x := w.heap.size) (o := 0) smx (by omega)).trans kfx
  have c2_0_1 : w2.cell? ⟨w.heap.size, 1, none⟩ = some (.slice none 0 0) := (hd2.cell (x := w.heap.size) (o := 1) smx (by omega)).trans kpx
  have f2_0_1 : w2.frozen? ⟨w.heap.size, 1, none⟩ = false := (hd2.frozen (x := w.heap.size) (o := 1) smx (by omega)).trans kfx
  have c2_0_2 : w2.cell? ⟨w.heap.size, 2, none⟩ = some (.int .i64 0) := (hd2.cell (x := w.heap.size) (o := 2) smx (by omega)).trans kpx
  have f2_0_2 : w2.frozen? ⟨w.heap.size, 2, none⟩ = false := (hd2.frozen (x := w.heap.size) (o := 2) smx (by omega)).trans kfx
  have HSM := Lib.hid hsm; have HSL := Lib.hid hsl; have HO := Lib.hid ho; clear hsm hsl ho
  go_wp2_with fail
  refine (l2Any_any cb _ (hd2.cur.ext bxt)).mono ?_
  rintro e w3 ⟨x, hx, rfl, hd3⟩
  have hz3 := hd3.size; (try simp at hz3)
  have s3_0 : w.heap.size < w3.heap.size := (by omega)
  have c3_0_0 : w3.cell? ⟨w.heap.size, 0, none⟩ = some (.slice none 0 0) := (hd3.cell (x := w.heap.size) (o := 0) smx (by omega)).trans kpx
  have f3_0_0 : w3.frozen? ⟨w.heap.size, 0, none⟩ = false := (hd3.frozen (x := w.heap.size) (o := 0) smx (by omega)).trans kfx
  have c3_0_1 : w3.cell? ⟨w.heap.size, 1, none⟩ = some (.slice none 0 0) := (hd3.cell (x := w.heap.size) (o := 1) smx (by omega)).trans kpx
  have f3_0_1 : w3.frozen? ⟨w.heap.size, 1, none⟩ = false := (hd3.frozen (x := w.heap.size) (o := 1) smx (by omega)).trans kfx
  have c3_0_2 : w3.cell? ⟨w.heap.size, 2, none⟩ = some (.int .i64 0) := (hd3.cell (x := w.heap.size) (o := 2) smx (by omega)).trans kpx
  have f3_0_2 : w3.frozen? ⟨w.heap.size, 2, none⟩ = false := (hd3.frozen (x := w.heap.size) (o := 2) smx (by omega)).trans kfx
  go_wp2_with fail
  refine (l2Any_any cb _ (hd3.cur.ext bxt)).mono ?_
  rintro e w4 ⟨y, hy, rfl, hd4⟩
  have hz4 := hd4.size; (try simp at hz4)
  have s4_0 : w.heap.size < w4.heap.size := (by omega)
  have c4_0_0 : w4.cell? ⟨w.heap.size, 0, none⟩ = some (.slice none 0 0) := (hd4.cell (x := w.heap.size) (o := 0) smx (by omega)).trans kpx
  have f4_0_0 : w4.frozen? ⟨w.heap.size, 0, none⟩ = false := (hd4.frozen (x := w.heap.size) (o := 0) smx (by omega)).trans kfx
  have c4_0_1 : w4.cell? ⟨w.heap.size, 1, none⟩ = some (.slice none 0 0) := (hd4.cell (x := w.heap.size) (o := 1) smx (by omega)).trans kpx
  have f4_0_1 : w4.frozen? ⟨w.heap.size, 1, none⟩ = false := (hd4.frozen (x := w.heap.size) (o := 1) smx (by omega)).trans kfx
  have c4_0_2 : w4.cell? ⟨w.heap.size, 2, none⟩ = some (.int .i64 0) := (hd4.cell (x := w.heap.size) (o := 2) smx (by omega)).trans kpx
  have f4_0_2 : w4.frozen? ⟨w.heap.size, 2, none⟩ = false := (hd4.frozen (x := w.heap.size) (o := 2) smx (by omega)).trans kfx
  have hdq : Dr cb w2 w4 := hd3.trans hd4
  have HO4 := Lib.hid (HO.out.dr hdq (by omega))
  go_wp2_with fail
  refine bodyPost_ret (v := .tuple #[.agg #[.slice ba zs.length bc, .slice la l.length lc, .int .i64 gv], .string x, .string y]) (by simp [results, Tryz.results49, go_sem, *]) rfl ⟨ba, bc, zs, la, lc, l, gv, x, y, hx, hy, by omega, HSM.out, by omega, HSL.out, rfl, ?_, btx⟩
  refine OwnRt.le (B := w1.heap.size) ?_ (by omega)
  exact (by repeat' (first | with_reducible exact HO4.out | with_reducible refine OwnRt.set_below ?_ smx _ | with_reducible refine OwnRt.drew1 ?_ | with_reducible refine OwnRt.alloc1 ?_ _ | with_reducible refine OwnRt.set_hi ?_ HO.out smx _))
set_option maxRecDepth 100000 in
set_option maxHeartbeats 4000000 in
theorem drawCommitted_any (lb : List Int) (a : Option Addr) (c : Nat) (w : World) (R : Rd w a c 1 lb.length (lb.flatMap byteCells)) (hb : ∀ y ∈ lb, 0 ≤ y ∧ y ≤ 255) (hl : lb.length ≤ 1048576) :
    Calls Tryz.prog 24 #[.slice a lb.length c] w (DrRsC w) := by
  have HR := Lib.hid R
  have HB := Lib.hid hb
  clear R hb
  go_enter Tryz.func24, Tryz.ntmps24
  go_wp2_with fail
  refine (l1New_any lb a c _ (HR.out.ext bxt) HB.out hl).mono ?_
  rintro e w1 ⟨cb, hcb, rfl, hcu, hb1⟩
  (try simp at hcb)
  have hcl := hcu.lt
  have HCU := Lib.hid hcu
  clear hcu
  have hz1 := hb1.size; (try simp at hz1)
  have s1_0 : w.heap.size < w1.heap.size := (by omega)
  have c1_0_0 : w1.cell? ⟨w.heap.size, 0, none⟩ = some (.slice none 0 0) := (hb1.cell (p := ⟨w.heap.size, 0, none⟩) smx).trans kpx
  have f1_0_0 : w1.frozen? ⟨w.heap.size, 0, none⟩ = false := (hb1.frozen (p := ⟨w.heap.size, 0, none⟩) smx).trans kfx
  have c1_0_1 : w1.cell? ⟨w.heap.size, 1, none⟩ = some (.slice none 0 0) := (hb1.cell (p := ⟨w.heap.size, 1, none⟩) smx).trans kpx
  have f1_0_1 : w1.frozen? ⟨w.heap.size, 1, none⟩ = false := (hb1.frozen (p := ⟨w.heap.size, 1, none⟩) smx).trans kfx
  have c1_0_2 : w1.cell? ⟨w.heap.size, 2, none⟩ = some (.int .i64 0) := (hb1.cell (p := ⟨w.heap.size, 2, none⟩) smx).trans kpx
  have f1_0_2 : w1.frozen? ⟨w.heap.size, 2, none⟩ = false := (hb1.frozen (p := ⟨w.heap.size, 2, none⟩) smx).trans kfx
  have s1_1 : w.heap.size + 1 < w1.heap.size := (by omega)
  have c1_1_0 : w1.cell? ⟨w.heap.size + 1, 0, none⟩ = some (.int .i64 0) := (hb1.cell (p := ⟨w.heap.size + 1, 0, none⟩) smx).trans kpx
  have f1_1_0 : w1.frozen? ⟨w.heap.size + 1, 0, none⟩ = false := (hb1.frozen (p := ⟨w.heap.size + 1, 0, none⟩) smx).trans kfx
  have c1_1_1 : w1.cell? ⟨w.heap.size + 1, 1, none⟩ = some (.int .i64 0) := (hb1.cell (p := ⟨w.heap.size + 1, 1, none⟩) smx).trans kpx
  have f1_1_1 : w1.frozen? ⟨w.heap.size + 1, 1, none⟩ = false := (hb1.frozen (p := ⟨w.heap.size + 1, 1, none⟩) smx).trans kfx
  have c1_1_2 : w1.cell? ⟨w.heap.size + 1, 2, none⟩ = some (.int .i64 0) := (hb1.cell (p := ⟨w.heap.size + 1, 2, none⟩) smx).trans kpx
  have f1_1_2 : w1.frozen? ⟨w.heap.size + 1, 2, none⟩ = false := (hb1.frozen (p := ⟨w.heap.size + 1, 2, none⟩) smx).trans kfx
  have c1_1_3 : w1.cell? ⟨w.heap.size + 1, 3, none⟩ = some (.int .i64 0) := (hb1.cell (p := ⟨w.heap.size + 1, 3, none⟩) smx).trans kpx
  have f1_1_3 : w1.frozen? ⟨w.heap.size + 1, 3, none⟩ = false := (hb1.frozen (p := ⟨w.heap.size + 1, 3, none⟩) smx).trans kfx
  have c1_1_4 : w1.cell? ⟨w.heap.size + 1, 4, none⟩ = some (.string ⟨#[]⟩) := (hb1.cell (p := ⟨w.heap.size + 1, 4, none⟩) smx).trans kpx
  have f1_1_4 : w1.frozen? ⟨w.heap.size + 1, 4, none⟩ = false := (hb1.frozen (p := ⟨w.heap.size + 1, 4, none⟩) smx).trans kfx
  have c1_1_5 : w1.cell? ⟨w.heap.size + 1, 5, none⟩ = some (.string ⟨#[]⟩) := (hb1.cell (p := ⟨w.heap.size + 1, 5, none⟩) smx).trans kpx
  have f1_1_5 : w1.frozen? ⟨w.heap.size + 1, 5, none⟩ = false := (hb1.frozen (p := ⟨w.heap.size + 1, 5, none⟩) smx).trans kfx
  go_wp2_with fail
  refine (l11Bent_any cb _ (HCU.out.ext bxt)).mono ?_
  rintro e w2 ⟨ba, bc, zs, la, lc, l, gv, hzl, hsm, hll, hsl, rfl, ho, hd2⟩
  have hz2 := hd2.size; (try simp at hz2)
  have s2_0 : w.heap.size < w2.heap.size := (by omega)
  have c2_0_0 : w2.cell? ⟨w.heap.size, 0, none⟩ = some (.slice none 0 0) := (hd2.cell (x := w.heap.size) (o := 0) smx (by omega)).trans kpx
  have f2_0_0 : w2.frozen? ⟨w.heap.size, 0, none⟩ = false := (hd2.frozen (x := w.heap.size) (o := 0) smx (by omega)).trans kfx
  have c2_0_1 : w2.cell? ⟨w.heap.size, 1, none⟩ = some (.slice none 0 0) := (hd2.cell (x := w.heap.size) (o := 1) smx (by omega)).trans kpx
  have f2_0_1 : w2.frozen? ⟨w.heap.size, 1, none⟩ = false := (hd2.frozen (x := w.heap.size) (o := 1) smx (by omega)).trans kfx
  have c2_0_2 : w2.cell? ⟨w.heap.size, 2, none⟩ = some (.int .i64 0) := (hd2.cell (x := w.heap.size) (o := 2) smx (by omega)).trans kpx
  have f2_0_2 : w2.frozen? ⟨w.heap.size, 2, none⟩ = false := (hd2.frozen (x := w.heap.size) (o := 2) smx (by omega)).trans kfx
  have s2_1 : w.heap.size + 1 < w2.heap.size := (by omega)
  have c2_1_0 : w2.cell? ⟨w.heap.size + 1, 0, none⟩ = some (.int .i64 0) := (hd2.cell (x := w.heap.size + 1) (o := 0) smx (by omega)).trans kpx
  have f2_1_0 : w2.frozen? ⟨w.heap.size + 1, 0, none⟩ = false := (hd2.frozen (x := w.heap.size + 1) (o := 0) smx (by omega)).trans kfx
  have c2_1_1 : w2.cell? ⟨w.heap.size + 1, 1, none⟩ = some (.int .i64 0) := (hd2.cell (x := w.heap.size + 1) (o := 1) smx (by omega)).trans kpx
  have f2_1_1 : w2.frozen? ⟨w.heap.size + 1, 1, none⟩ = false := (hd2.frozen (x := w.heap.size + 1) (o := 1) smx (by omega)).trans kfx
  have c2_1_2 : w2.cell? ⟨w.heap.size + 1, 2, none⟩ = some (.int .i64 0) := (hd2.cell (x := w.heap.size + 1) (o := 2) smx (by omega)).trans kpx
  have f2_1_2 : w2.frozen? ⟨w.heap.size + 1, 2, none⟩ = false := (hd2.frozen (x := w.heap.size + 1) (o := 2) smx (by omega)).trans kfx
  have c2_1_3 : w2.cell? ⟨w.heap.size + 1, 3, none⟩ = some (.int .i64 0) := (hd2.cell (x := w.heap.size + 1) (o := 3) smx (by omega)).trans kpx
  have f2_1_3 : w2.frozen? ⟨w.heap.size + 1, 3, none⟩ = false := (hd2.frozen (x := w.heap.size + 1) (o := 3) smx (by omega)).trans kfx
  have c2_1_4 : w2.cell? ⟨w.heap.size + 1, 4, none⟩ = some (.string ⟨#[]⟩) := (hd2.cell (x := w.heap.size + 1) (o := 4) smx (by omega)).trans kpx
  have f2_1_4 : w2.frozen? ⟨w.heap.size + 1, 4, none⟩ = false := (hd2.frozen (x := w.heap.size + 1) (o := 4) smx (by omega)).trans kfx
  have c2_1_5 : w2.cell? ⟨w.heap.size + 1, 5, none⟩ = some (.string ⟨#[]⟩) := (hd2.cell (x := w.heap.size + 1) (o := 5) smx (by omega)).trans kpx
  have f2_1_5 : w2.frozen? ⟨w.heap.size + 1, 5, none⟩ = false := (hd2.frozen (x := w.heap.size + 1) (o := 5) smx (by omega)).trans kfx
  have HSM := Lib.hid hsm; have HSL := Lib.hid hsl; have HO := Lib.hid ho; clear hsm hsl ho
  have HCR2 := Lib.hid hd2.cur
  have HBM := Lib.hid (fun (y : PBox) (hy : y ∈ zs) => (show y.msgs.length ≤ 1000 from by have := (HSM.out y hy).2.1; omega))
  go_wp2_with fail
  refine (l10Bent_any cb zs ba bc w1.heap.size _ (hd2.cur.ext bxt) (OwnRs.ext HO.out.rs bxt) (by omega) (by omega) HBM.out).mono ?_
  rintro e w3 ⟨m, hmn, hmt, rfl, hd3⟩
  have hz3 := hd3.size; (try simp at hz3)
  have s3_0 : w.heap.size < w3.heap.size := (by omega)
  have c3_0_0 : w3.cell? ⟨w.heap.size, 0, none⟩ = some (.slice none 0 0) := (hd3.cell (x := w.heap.size) (o := 0) smx (by omega)).trans kpx
  have f3_0_0 : w3.frozen? ⟨w.heap.size, 0, none⟩ = false := (hd3.frozen (x := w.heap.size) (o := 0) smx (by omega)).trans kfx
  have c3_0_1 : w3.cell? ⟨w.heap.size, 1, none⟩ = some (.slice none 0 0) := (hd3.cell (x := w.heap.size) (o := 1) smx (by omega)).trans kpx
  have f3_0_1 : w3.frozen? ⟨w.heap.size, 1, none⟩ = false := (hd3.frozen (x := w.heap.size) (o := 1) smx (by omega)).trans kfx
  have c3_0_2 : w3.cell? ⟨w.heap.size, 2, none⟩ = some (.int .i64 0) := (hd3.cell (x := w.heap.size) (o := 2) smx (by omega)).trans kpx
  have f3_0_2 : w3.frozen? ⟨w.heap.size, 2, none⟩ = false := (hd3.frozen (x := w.heap.size) (o := 2) smx (by omega)).trans kfx
  have s3_1 : w.heap.size + 1 < w3.heap.size := (by omega)
  have c3_1_0 : w3.cell? ⟨w.heap.size + 1, 0, none⟩ = some (.int .i64 0) := (hd3.cell (x := w.heap.size + 1) (o := 0) smx (by omega)).trans kpx
  have f3_1_0 : w3.frozen? ⟨w.heap.size + 1, 0, none⟩ = false := (hd3.frozen (x := w.heap.size + 1) (o := 0) smx (by omega)).trans kfx
  have c3_1_1 : w3.cell? ⟨w.heap.size + 1, 1, none⟩ = some (.int .i64 0) := (hd3.cell (x := w.heap.size + 1) (o := 1) smx (by omega)).trans kpx
  have f3_1_1 : w3.frozen? ⟨w.heap.size + 1, 1, none⟩ = false := (hd3.frozen (x := w.heap.size + 1) (o := 1) smx (by omega)).trans kfx
  have c3_1_2 : w3.cell? ⟨w.heap.size + 1, 2, none⟩ = some (.int .i64 0) := (hd3.cell (x := w.heap.size + 1) (o := 2) smx (by omega)).trans kpx
  have f3_1_2 : w3.frozen? ⟨w.heap.size + 1, 2, none⟩ = false := (hd3.frozen (x := w.heap.size + 1) (o := 2) smx (by omega)).trans kfx
  have c3_1_3 : w3.cell? ⟨w.heap.size + 1, 3, none⟩ = some (.int .i64 0) := (hd3.cell (x := w.heap.size + 1) (o := 3) smx (by omega)).trans kpx
  have f3_1_3 : w3.frozen? ⟨w.heap.size + 1, 3, none⟩ = false := (hd3.frozen (x := w.heap.size + 1) (o := 3) smx (by omega)).trans kfx
  have c3_1_4 : w3.cell? ⟨w.heap.size + 1, 4, none⟩ = some (.string ⟨#[]⟩) := (hd3.cell (x := w.heap.size + 1) (o := 4) smx (by omega)).trans kpx
  have f3_1_4 : w3.frozen? ⟨w.heap.size + 1, 4, none⟩ = false := (hd3.frozen (x := w.heap.size + 1) (o := 4) smx (by omega)).trans kfx
  have c3_1_5 : w3.cell? ⟨w.heap.size + 1, 5, none⟩ = some (.string ⟨#[]⟩) := (hd3.cell (x := w.heap.size + 1) (o := 5) smx (by omega)).trans kpx
  have f3_1_5 : w3.frozen? ⟨w.heap.size + 1, 5, none⟩ = false := (hd3.frozen (x := w.heap.size + 1) (o := 5) smx (by omega)).trans kfx
  have s3_2 : w2.heap.size < w3.heap.size := (by omega)
  have c3_2_0 : w3.cell? ⟨w2.heap.size, 0, none⟩ = some (.slice ba zs.length bc) := (hd3.cell (x := w2.heap.size) (o := 0) smx (by omega)).trans kpx
  have f3_2_0 : w3.frozen? ⟨w2.heap.size, 0, none⟩ = false := (hd3.frozen (x := w2.heap.size) (o := 0) smx (by omega)).trans kfx
  have c3_2_1 : w3.cell? ⟨w2.heap.size, 1, none⟩ = some (.slice la l.length lc) := (hd3.cell (x := w2.heap.size) (o := 1) smx (by omega)).trans kpx
  have f3_2_1 : w3.frozen? ⟨w2.heap.size, 1, none⟩ = false := (hd3.frozen (x := w2.heap.size) (o := 1) smx (by omega)).trans kfx
  have c3_2_2 : w3.cell? ⟨w2.heap.size, 2, none⟩ = some (.int .i64 gv) := (hd3.cell (x := w2.heap.size) (o := 2) smx (by omega)).trans kpx
  have f3_2_2 : w3.frozen? ⟨w2.heap.size, 2, none⟩ = false := (hd3.frozen (x := w2.heap.size) (o := 2) smx (by omega)).trans kfx
  have hdq : Dr cb w2 w3 := dtx
  have HO3 := Lib.hid (HO.out.dr hdq (by omega)); have HE3 : Hid (Ext w w3) := btx; have hcr3 := Lib.hid hd3.cur
  by_cases hk : m.kind = 1
  · have ek : (m.kind == 1) = true := by simpa using hk
    have HK := Lib.hid hk; clear hk
    go_wp2_with fail
    refine (l1Once_any cb 2 _ (hcr3.out.ext bxt) (by omega)).mono ?_
    rintro e w4 ⟨t, rfl, hd4⟩
    have hz4 := hd4.size; (try simp at hz4)
    have s4_0 : w.heap.size < w4.heap.size := (by omega)
    have c4_0_0 : w4.cell? ⟨w.heap.size, 0, none⟩ = some (.slice none 0 0) := (hd4.cell (x := w.heap.size) (o := 0) smx (by omega)).trans kpx
    have f4_0_0 : w4.frozen? ⟨w.heap.size, 0, none⟩ = false := (hd4.frozen (x := w.heap.size) (o := 0) smx (by omega)).trans kfx
    have c4_0_1 : w4.cell? ⟨w.heap.size, 1, none⟩ = some (.slice none 0 0) := (hd4.cell (x := w.heap.size) (o := 1) smx (by omega)).trans kpx
    have f4_0_1 : w4.frozen? ⟨w.heap.size, 1, none⟩ = false := (hd4.frozen (x := w.heap.size) (o := 1) smx (by omega)).trans kfx
    have c4_0_2 : w4.cell? ⟨w.heap.size, 2, none⟩ = some (.int .i64 0) := (hd4.cell (x := w.heap.size) (o := 2) smx (by omega)).trans kpx
    have f4_0_2 : w4.frozen? ⟨w.heap.size, 2, none⟩ = false := (hd4.frozen (x := w.heap.size) (o := 2) smx (by omega)).trans kfx
    have s4_1 : w.heap.size + 1 < w4.heap.size := (by omega)
    have c4_1_0 : w4.cell? ⟨w.heap.size + 1, 0, none⟩ = some (.int .i64 0) := (hd4.cell (x := w.heap.size + 1) (o := 0) smx (by omega)).trans kpx
    have f4_1_0 : w4.frozen? ⟨w.heap.size + 1, 0, none⟩ = false := (hd4.frozen (x := w.heap.size + 1) (o := 0) smx (by omega)).trans kfx
    have c4_1_1 : w4.cell? ⟨w.heap.size + 1, 1, none⟩ = some (.int .i64 0) := (hd4.cell (x := w.heap.size + 1) (o := 1) smx (by omega)).trans kpx
    have f4_1_1 : w4.frozen? ⟨w.heap.size + 1, 1, none⟩ = false := (hd4.frozen (x := w.heap.size + 1) (o := 1) smx (by omega)).trans kfx
    have c4_1_2 : w4.cell? ⟨w.heap.size + 1, 2, none⟩ = some (.int .i64 0) := (hd4.cell (x := w.heap.size + 1) (o := 2) smx (by omega)).trans kpx
    have f4_1_2 : w4.frozen? ⟨w.heap.size + 1, 2, none⟩ = false := (hd4.frozen (x := w.heap.size + 1) (o := 2) smx (by omega)).trans kfx
    have c4_1_3 : w4.cell? ⟨w.heap.size + 1, 3, none⟩ = some (.int .i64 0) := (hd4.cell (x := w.heap.size + 1) (o := 3) smx (by omega)).trans kpx
    have f4_1_3 : w4.frozen? ⟨w.heap.size + 1, 3, none⟩ = false := (hd4.frozen (x := w.heap.size + 1) (o := 3) smx (by omega)).trans kfx
    have c4_1_4 : w4.cell? ⟨w.heap.size + 1, 4, none⟩ = some (.string ⟨#[]⟩) := (hd4.cell (x := w.heap.size + 1) (o := 4) smx (by omega)).trans kpx
    have f4_1_4 : w4.frozen? ⟨w.heap.size + 1, 4, none⟩ = false := (hd4.frozen (x := w.heap.size + 1) (o := 4) smx (by omega)).trans kfx
    have c4_1_5 : w4.cell? ⟨w.heap.size + 1, 5, none⟩ = some (.string ⟨#[]⟩) := (hd4.cell (x := w.heap.size + 1) (o := 5) smx (by omega)).trans kpx
    have f4_1_5 : w4.frozen? ⟨w.heap.size + 1, 5, none⟩ = false := (hd4.frozen (x := w.heap.size + 1) (o := 5) smx (by omega)).trans kfx
    have s4_2 : w2.heap.size < w4.heap.size := (by omega)
    have c4_2_0 : w4.cell? ⟨w2.heap.size, 0, none⟩ = some (.slice ba zs.length bc) := (hd4.cell (x := w2.heap.size) (o := 0) smx (by omega)).trans kpx
    have f4_2_0 : w4.frozen? ⟨w2.heap.size, 0, none⟩ = false := (hd4.frozen (x := w2.heap.size) (o := 0) smx (by omega)).trans kfx
    have c4_2_1 : w4.cell? ⟨w2.heap.size, 1, none⟩ = some (.slice la l.length lc) := (hd4.cell (x := w2.heap.size) (o := 1) smx (by omega)).trans kpx
    have f4_2_1 : w4.frozen? ⟨w2.heap.size, 1, none⟩ = false := (hd4.frozen (x := w2.heap.size) (o := 1) smx (by omega)).trans kfx
    have c4_2_2 : w4.cell? ⟨w2.heap.size, 2, none⟩ = some (.int .i64 gv) := (hd4.cell (x := w2.heap.size) (o := 2) smx (by omega)).trans kpx
    have f4_2_2 : w4.frozen? ⟨w2.heap.size, 2, none⟩ = false := (hd4.frozen (x := w2.heap.size) (o := 2) smx (by omega)).trans kfx
    have s4_3 : w3.heap.size < w4.heap.size := (by omega)
    have c4_3_0 : w4.cell? ⟨w3.heap.size, 0, none⟩ = some (.int .i64 m.kind) := (hd4.cell (x := w3.heap.size) (o := 0) smx (by omega)).trans kpx
    have f4_3_0 : w4.frozen? ⟨w3.heap.size, 0, none⟩ = false := (hd4.frozen (x := w3.heap.size) (o := 0) smx (by omega)).trans kfx
    have c4_3_1 : w4.cell? ⟨w3.heap.size, 1, none⟩ = some (.int .i64 m.validity) := (hd4.cell (x := w3.heap.size) (o := 1) smx (by omega)).trans kpx
    have f4_3_1 : w4.frozen? ⟨w3.heap.size, 1, none⟩ = false := (hd4.frozen (x := w3.heap.size) (o := 1) smx (by omega)).trans kfx
    have c4_3_2 : w4.cell? ⟨w3.heap.size, 2, none⟩ = some (.int .i64 m.uid) := (hd4.cell (x := w3.heap.size) (o := 2) smx (by omega)).trans kpx
    have f4_3_2 : w4.frozen? ⟨w3.heap.size, 2, none⟩ = false := (hd4.frozen (x := w3.heap.size) (o := 2) smx (by omega)).trans kfx
    have c4_3_3 : w4.cell? ⟨w3.heap.size, 3, none⟩ = some (.int .i64 m.flags) := (hd4.cell (x := w3.heap.size) (o := 3) smx (by omega)).trans kpx
    have f4_3_3 : w4.frozen? ⟨w3.heap.size, 3, none⟩ = false := (hd4.frozen (x := w3.heap.size) (o := 3) smx (by omega)).trans kfx
    have c4_3_4 : w4.cell? ⟨w3.heap.size, 4, none⟩ = some (.string m.name) := (hd4.cell (x := w3.heap.size) (o := 4) smx (by omega)).trans kpx
    have f4_3_4 : w4.frozen? ⟨w3.heap.size, 4, none⟩ = false := (hd4.frozen (x := w3.heap.size) (o := 4) smx (by omega)).trans kfx
    have c4_3_5 : w4.cell? ⟨w3.heap.size, 5, none⟩ = some (.string m.text) := (hd4.cell (x := w3.heap.size) (o := 5) smx (by omega)).trans kpx
    have f4_3_5 : w4.frozen? ⟨w3.heap.size, 5, none⟩ = false := (hd4.frozen (x := w3.heap.size) (o := 5) smx (by omega)).trans kfx
    have HO4 := Lib.hid ((HO3.out.ext (w' := w3.alloc _) bxt).dr hd4 (by omega)); have hcr4 := Lib.hid hd4.cur; have HE4 : Hid (Ext w w4) := btx
    cases t
    · skip
      go_wp2_with fail
      go_region
      all_goals go_wp2_with fail
      all_goals refine bodyPost_ret (v := .tuple #[.agg #[.slice ba zs.length bc, .slice la l.length lc, .int .i64 gv], .agg #[.int .i64 m.kind, .int .i64 (m.validity), .int .i64 m.uid, .int .i64 m.flags, .string m.name, .string m.text]]) (by simp [results, Tryz.results24, go_sem, *]) rfl ⟨ba, bc, zs, la, lc, l, gv, ⟨m.kind, m.validity, m.uid, m.flags, m.name, m.text⟩, hmn, hmt, by omega, HSM.out, by omega, HSL.out, rfl, ?_, btx⟩
      all_goals refine OwnRt.le (B := w1.heap.size) ?_ (by omega)
      all_goals exact (by repeat' (first | with_reducible exact HO4.out | with_reducible refine OwnRt.set_below ?_ smx _ | with_reducible refine OwnRt.drew1 ?_ | with_reducible refine OwnRt.alloc1 ?_ _ | with_reducible refine OwnRt.set_hi ?_ HO.out smx _))
    · skip
      go_wp2_with fail
      go_region_law ((go_simp; go_at_call 63; refine (l1Below_any cb 3 _ (hcr4.out.ext bxt) (by omega)).mono ?_; rintro e w5 ⟨v, ⟨v0, v1, -⟩, rfl, hd5⟩; have v1 := v1 (by omega); have hz5 := hd5.size; (try simp at hz5); have s5_0 : w.heap.size < w5.heap.size := (by omega); have c5_0_0 : w5.cell? ⟨w.heap.size, 0, none⟩ = some (.slice none 0 0) := (hd5.cell (x := w.heap.size) (o := 0) smx (by omega)).trans kpx; have f5_0_0 : w5.frozen? ⟨w.heap.size, 0, none⟩ = false := (hd5.frozen (x := w.heap.size) (o := 0) smx (by omega)).trans kfx; have c5_0_1 : w5.cell? ⟨w.heap.size, 1, none⟩ = some (.slice none 0 0) := (hd5.cell (x := w.heap.size) (o := 1) smx (by omega)).trans kpx; have f5_0_1 : w5.frozen? ⟨w.heap.size, 1, none⟩ = false := (hd5.frozen (x := w.heap.size) (o := 1) smx (by omega)).trans kfx; have c5_0_2 : w5.cell? ⟨w.heap.size, 2, none⟩ = some (.int .i64 0) := (hd5.cell (x := w.heap.size) (o := 2) smx (by omega)).trans kpx; have f5_0_2 : w5.frozen? ⟨w.heap.size, 2, none⟩ = false := (hd5.frozen (x := w.heap.size) (o := 2) smx (by omega)).trans kfx; have s5_1 : w.heap.size + 1 < w5.heap.size := (by omega); have c5_1_0 : w5.cell? ⟨w.heap.size + 1, 0, none⟩ = some (.int .i64 0) := (hd5.cell (x := w.heap.size + 1) (o := 0) smx (by omega)).trans kpx; have f5_1_0 : w5.frozen? ⟨w.heap.size + 1, 0, none⟩ = false := (hd5.frozen (x := w.heap.size + 1) (o := 0) smx (by omega)).trans kfx; have c5_1_1 : w5.cell? ⟨w.heap.size + 1, 1, none⟩ = some (.int .i64 0) := (hd5.cell (x := w.heap.size + 1) (o := 1) smx (by omega)).trans kpx; have f5_1_1 : w5.frozen? ⟨w.heap.size + 1, 1, none⟩ = false := (hd5.frozen (x := w.heap.size + 1) (o := 1) smx (by omega)).trans kfx; have c5_1_2 : w5.cell? ⟨w.heap.size + 1, 2, none⟩ = some (.int .i64 0) := (hd5.cell (x := w.heap.size + 1) (o := 2) smx (by omega)).trans kpx; have f5_1_2 : w5.frozen? ⟨w.heap.size + 1, 2, none⟩ = false := (hd5.frozen (x := w.heap.size + 1) (o := 2) smx (by omega)).trans kfx; have c5_1_3 : w5.cell? ⟨w.heap.size + 1, 3, none⟩ = some (.int .i64 0) := (hd5.cell (x := w.heap.size + 1) (o := 3) smx (by omega)).trans kpx; have f5_1_3 : w5.frozen? ⟨w.heap.size + 1, 3, none⟩ = false := (hd5.frozen (x := w.heap.size + 1) (o := 3) smx (by omega)).trans kfx; have c5_1_4 : w5.cell? ⟨w.heap.size + 1, 4, none⟩ = some (.string ⟨#[]⟩) := (hd5.cell (x := w.heap.size + 1) (o := 4) smx (by omega)).trans kpx; have f5_1_4 : w5.frozen? ⟨w.heap.size + 1, 4, none⟩ = false := (hd5.frozen (x := w.heap.size + 1) (o := 4) smx (by omega)).trans kfx; have c5_1_5 : w5.cell? ⟨w.heap.size + 1, 5, none⟩ = some (.string ⟨#[]⟩) := (hd5.cell (x := w.heap.size + 1) (o := 5) smx (by omega)).trans kpx; have f5_1_5 : w5.frozen? ⟨w.heap.size + 1, 5, none⟩ = false := (hd5.frozen (x := w.heap.size + 1) (o := 5) smx (by omega)).trans kfx; have s5_2 : w2.heap.size < w5.heap.size := (by omega); have c5_2_0 : w5.cell? ⟨w2.heap.size, 0, none⟩ = some (.slice ba zs.length bc) := (hd5.cell (x := w2.heap.size) (o := 0) smx (by omega)).trans kpx; have f5_2_0 : w5.frozen? ⟨w2.heap.size, 0, none⟩ = false := (hd5.frozen (x := w2.heap.size) (o := 0) smx (by omega)).trans kfx; have c5_2_1 : w5.cell? ⟨w2.heap.size, 1, none⟩ = some (.slice la l.length lc) := (hd5.cell (x := w2.heap.size) (o := 1) smx (by omega)).trans kpx; have f5_2_1 : w5.frozen? ⟨w2.heap.size, 1, none⟩ = false := (hd5.frozen (x := w2.heap.size) (o := 1) smx (by omega)).trans kfx; have c5_2_2 : w5.cell? ⟨w2.heap.size, 2, none⟩ = some (.int .i64 gv) := (hd5.cell (x := w2.heap.size) (o := 2) smx (by omega)).trans kpx; have f5_2_2 : w5.frozen? ⟨w2.heap.size, 2, none⟩ = false := (hd5.frozen (x := w2.heap.size) (o := 2) smx (by omega)).trans kfx; have s5_3 : w3.heap.size < w5.heap.size := (by omega); have c5_3_0 : w5.cell? ⟨w3.heap.size, 0, none⟩ = some (.int .i64 m.kind) := (hd5.cell (x := w3.heap.size) (o := 0) smx (by omega)).trans kpx; have f5_3_0 : w5.frozen? ⟨w3.heap.size, 0, none⟩ = false := (hd5.frozen (x := w3.heap.size) (o := 0) smx (by omega)).trans kfx; have c5_3_1 : w5.cell? ⟨w3.heap.size, 1, none⟩ = some (.int .i64 m.validity) := (hd5.cell (x := w3.heap.size) (o := 1) smx (by omega)).trans kpx; have f5_3_1 : w5.frozen? ⟨w3.heap.size, 1, none⟩ = false := (hd5.frozen (x := w3.heap.size) (o := 1) smx (by omega)).trans kfx; have c5_3_2 : w5.cell? ⟨w3.heap.size, 2, none⟩ = some (.int .i64 m.uid) := (hd5.cell (x := w3.heap.size) (o := 2) smx (by omega)).trans kpx; have f5_3_2 : w5.frozen? ⟨w3.heap.size, 2, none⟩ = false := (hd5.frozen (x := w3.heap.size) (o := 2) smx (by omega)).trans kfx; have c5_3_3 : w5.cell? ⟨w3.heap.size, 3, none⟩ = some (.int .i64 m.flags) := (hd5.cell (x := w3.heap.size) (o := 3) smx (by omega)).trans kpx; have f5_3_3 : w5.frozen? ⟨w3.heap.size, 3, none⟩ = false := (hd5.frozen (x := w3.heap.size) (o := 3) smx (by omega)).trans kfx; have c5_3_4 : w5.cell? ⟨w3.heap.size, 4, none⟩ = some (.string m.name) := (hd5.cell (x := w3.heap.size) (o := 4) smx (by omega)).trans kpx; have f5_3_4 : w5.frozen? ⟨w3.heap.size, 4, none⟩ = false := (hd5.frozen (x := w3.heap.size) (o := 4) smx (by omega)).trans kfx; have c5_3_5 : w5.cell? ⟨w3.heap.size, 5, none⟩ = some (.string m.text) := (hd5.cell (x := w3.heap.size) (o := 5) smx (by omega)).trans kpx; have f5_3_5 : w5.frozen? ⟨w3.heap.size, 5, none⟩ = false := (hd5.frozen (x := w3.heap.size) (o := 5) smx (by omega)).trans kfx; have HO5 := Lib.hid ((HO4.out.ext (w' := _) bxt).dr hd5 (by omega)); have HE5 : Hid (Ext w w5) := btx))
      all_goals (
        go_wp2_with fail
        go_region
        all_goals go_wp2_with fail
        all_goals refine bodyPost_ret (v := .tuple #[.agg #[.slice ba zs.length bc, .slice la l.length lc, .int .i64 gv], .agg #[.int .i64 m.kind, .int .i64 (wrap64 (gv + v)), .int .i64 m.uid, .int .i64 m.flags, .string m.name, .string m.text]]) (by simp [results, Tryz.results24, go_sem, *]) rfl ⟨ba, bc, zs, la, lc, l, gv, ⟨m.kind, wrap64 (gv + v), m.uid, m.flags, m.name, m.text⟩, hmn, hmt, by omega, HSM.out, by omega, HSL.out, rfl, ?_, btx⟩
        all_goals refine OwnRt.le (B := w1.heap.size) ?_ (by omega)
        all_goals exact (by repeat' (first | with_reducible exact HO5.out | with_reducible refine OwnRt.set_below ?_ smx _ | with_reducible refine OwnRt.drew1 ?_ | with_reducible refine OwnRt.alloc1 ?_ _ | with_reducible refine OwnRt.set_hi ?_ HO.out smx _))
      )
  · have ek : (m.kind == 1) = false := by simpa using hk
    have HK := Lib.hid hk; clear hk
    go_wp2_with fail
    go_region
    all_goals go_wp2_with fail
    all_goals refine bodyPost_ret (v := .tuple #[.agg #[.slice ba zs.length bc, .slice la l.length lc, .int .i64 gv], .agg #[.int .i64 m.kind, .int .i64 (m.validity), .int .i64 m.uid, .int .i64 m.flags, .string m.name, .string m.text]]) (by simp [results, Tryz.results24, go_sem, *]) rfl ⟨ba, bc, zs, la, lc, l, gv, ⟨m.kind, m.validity, m.uid, m.flags, m.name, m.text⟩, hmn, hmt, by omega, HSM.out, by omega, HSL.out, rfl, ?_, btx⟩
    all_goals refine OwnRt.le (B := w1.heap.size) ?_ (by omega)
    all_goals exact (by repeat' (first | with_reducible exact HO3.out | with_reducible refine OwnRt.set_below ?_ smx _ | with_reducible refine OwnRt.drew1 ?_ | with_reducible refine OwnRt.alloc1 ?_ _ | with_reducible refine OwnRt.set_hi ?_ HO.out smx _))
end Go.Proofs.YtjcnhkmhcfmoeaaGreat
