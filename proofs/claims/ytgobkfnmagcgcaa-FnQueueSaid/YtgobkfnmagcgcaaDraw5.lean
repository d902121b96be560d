/-
  The draws of the laws of queues.
-/
import Derived.Test.YtgobkfnmagcgcaaDraw3b
import Derived.Test.YtgobkfnmagcgcaaDraw4
namespace Go.Proofs.Ytgobkfnmagcgcaa
open Go.RowKit
set_option linter.unusedVariables false
set_option linter.unusedSimpArgs false

def DrPN (w : World) (e : Ending) (w' : World) : Prop := ∃ (g : Option Addr) (q : Nat) (m : List DNote) (rb rc : Bool) (x : DNote), m.length ≤ 11 ∧ (∀ y ∈ m, y.name.size ≤ 41) ∧ x.name.size ≤ 41 ∧ e = .returned (.tuple #[.agg #[.slice g m.length q, .bool rb, .bool rc], .agg #[.int .i64 x.kind, .int .i64 x.n, .int .i64 x.uid, .string x.name]]) ∧ Own w' w.heap.size 36 4 (.slice g m.length q) m.length (m.flatMap DNote.cells) ∧ Ext w w'
def DrDN (w : World) (e : Ending) (w' : World) : Prop := ∃ (g : Option Addr) (q : Nat) (m : List DNote) (rb rc : Bool) (v : Int), m.length ≤ 11 ∧ (∀ y ∈ m, y.name.size ≤ 41) ∧ (-1 ≤ v ∧ v ≤ 8) ∧ e = .returned (.tuple #[.agg #[.slice g m.length q, .bool rb, .bool rc], .int .i64 v]) ∧ Own w' w.heap.size 36 4 (.slice g m.length q) m.length (m.flatMap DNote.cells) ∧ Ext w w'
set_option maxRecDepth 100000 in
set_option maxHeartbeats 1000000 in
theorem drawDropNote_any (l : List Int) (a : Option Addr) (c : Nat) (w : World) (R : Rd w a c 1 l.length (l.flatMap byteCells)) (hb : ∀ y ∈ l, 0 ≤ y ∧ y ≤ 255) (hl : l.length ≤ 1048576) :
    Calls Try.prog 22 #[.slice a l.length c] w (DrDN w) := by
  have HR := Lib.hid R
  have HB := Lib.hid hb
  clear R hb
  go_enter Try.func22, Try.ntmps22
  go_wp2_with fail
  refine (l1New_any l a c _ (HR.out.ext bxt) HB.out hl).mono ?_
  rintro e w1 ⟨cb, hcb, rfl, hcu, hb1⟩
  (try simp at hcb)
  have hcl := hcu.lt
  have HCU := Lib.hid hcu
  clear hcu
  have hz1 := hb1.size; (try simp at hz1)
  have s1_0 : w.heap.size < w1.heap.size := (by omega)
  have c1_0_0 : w1.cell? ⟨w.heap.size, 0, none⟩ = some (.slice none 0 0) := (hb1.cell (p := ⟨w.heap.size, 0, none⟩) smx).trans kpx
  have f1_0_0 : w1.frozen? ⟨w.heap.size, 0, none⟩ = false := (hb1.frozen (p := ⟨w.heap.size, 0, none⟩) smx).trans kfx
  have c1_0_1 : w1.cell? ⟨w.heap.size, 1, none⟩ = some (.bool false) := (hb1.cell (p := ⟨w.heap.size, 1, none⟩) smx).trans kpx
  have f1_0_1 : w1.frozen? ⟨w.heap.size, 1, none⟩ = false := (hb1.frozen (p := ⟨w.heap.size, 1, none⟩) smx).trans kfx
  have c1_0_2 : w1.cell? ⟨w.heap.size, 2, none⟩ = some (.bool false) := (hb1.cell (p := ⟨w.heap.size, 2, none⟩) smx).trans kpx
  have f1_0_2 : w1.frozen? ⟨w.heap.size, 2, none⟩ = false := (hb1.frozen (p := ⟨w.heap.size, 2, none⟩) smx).trans kfx
  go_wp2_with fail
  refine (l16Bent_any cb _ (HCU.out.ext bxt)).mono ?_
  rintro e w2 ⟨g, q, m, rb, rc, hm, hnm, rfl, ho, hd2⟩
  have hz2 := hd2.size; (try simp at hz2)
  have s2_0 : w.heap.size < w2.heap.size := (by omega)
  have c2_0_0 : w2.cell? ⟨w.heap.size, 0, none⟩ = some (.slice none 0 0) := (hd2.cell (x := w.heap.size) (o := 0) smx (by omega)).trans kpx
  have f2_0_0 : w2.frozen? ⟨w.heap.size, 0, none⟩ = false := (hd2.frozen (x := w.heap.size) (o := 0) smx (by omega)).trans kfx
  have c2_0_1 : w2.cell? ⟨w.heap.size, 1, none⟩ = some (.bool false) := (hd2.cell (x := w.heap.size) (o := 1) smx (by omega)).trans kpx
  have f2_0_1 : w2.frozen? ⟨w.heap.size, 1, none⟩ = false := (hd2.frozen (x := w.heap.size) (o := 1) smx (by omega)).trans kfx
  have c2_0_2 : w2.cell? ⟨w.heap.size, 2, none⟩ = some (.bool false) := (hd2.cell (x := w.heap.size) (o := 2) smx (by omega)).trans kpx
  have f2_0_2 : w2.frozen? ⟨w.heap.size, 2, none⟩ = false := (hd2.frozen (x := w.heap.size) (o := 2) smx (by omega)).trans kfx
  have HM := Lib.hid hnm; have HO := Lib.hid ho; clear hnm ho
  go_wp2_with fail
  refine (l1Below_any cb 9 _ (hd2.cur.ext bxt) (by omega)).mono ?_
  rintro e w3 ⟨v, ⟨v0, v1, -⟩, rfl, hd3⟩
  have v1 := v1 (by omega)
  have hz3 := hd3.size; (try simp at hz3)
  have s3_0 : w.heap.size < w3.heap.size := (by omega)
  have c3_0_0 : w3.cell? ⟨w.heap.size, 0, none⟩ = some (.slice none 0 0) := (hd3.cell (x := w.heap.size) (o := 0) smx (by omega)).trans kpx
  have f3_0_0 : w3.frozen? ⟨w.heap.size, 0, none⟩ = false := (hd3.frozen (x := w.heap.size) (o := 0) smx (by omega)).trans kfx
  have c3_0_1 : w3.cell? ⟨w.heap.size, 1, none⟩ = some (.bool false) := (hd3.cell (x := w.heap.size) (o := 1) smx (by omega)).trans kpx
  have f3_0_1 : w3.frozen? ⟨w.heap.size, 1, none⟩ = false := (hd3.frozen (x := w.heap.size) (o := 1) smx (by omega)).trans kfx
  have c3_0_2 : w3.cell? ⟨w.heap.size, 2, none⟩ = some (.bool false) := (hd3.cell (x := w.heap.size) (o := 2) smx (by omega)).trans kpx
  have f3_0_2 : w3.frozen? ⟨w.heap.size, 2, none⟩ = false := (hd3.frozen (x := w.heap.size) (o := 2) smx (by omega)).trans kfx
  have HO3 := Lib.hid (HO.out.dr hd3 smx)
  go_wp2_with fail
  have HE : Hid (Ext w w3) := btx
  refine bodyPost_ret (v := .tuple #[.agg #[.slice g m.length q, .bool rb, .bool rc], .int .i64 (v - 1)]) (by simp [results, Try.results22, go_sem, *]) rfl ⟨g, q, m, rb, rc, v - 1, hm, HM.out, by omega, rfl, ?_, btx⟩
  refine Own.le (B := w1.heap.size) ?_ (by omega)
  exact (by repeat' (first | with_reducible exact HO3.out | with_reducible refine Own.set_below ?_ smx _ | with_reducible refine Own.alloc1 ?_ _ | with_reducible refine Own.drew1 ?_ | with_reducible refine Own.drewN1 ?_ | with_reducible refine Own.ext ?_ (by assumption)))
set_option maxRecDepth 100000 in
set_option maxHeartbeats 1000000 in
theorem drawPushNote_any (l : List Int) (a : Option Addr) (c : Nat) (w : World) (R : Rd w a c 1 l.length (l.flatMap byteCells)) (hb : ∀ y ∈ l, 0 ≤ y ∧ y ≤ 255) (hl : l.length ≤ 1048576) :
    Calls Try.prog 15 #[.slice a l.length c] w (DrPN w) := by
  have HR := Lib.hid R
  have HB := Lib.hid hb
  clear R hb
  go_enter Try.func15, Try.ntmps15
  go_wp2_with fail
  refine (l1New_any l a c _ (HR.out.ext bxt) HB.out hl).mono ?_
  rintro e w1 ⟨cb, hcb, rfl, hcu, hb1⟩
  (try simp at hcb)
  have hcl := hcu.lt
  have HCU := Lib.hid hcu
  clear hcu
  have hz1 := hb1.size; (try simp at hz1)
  have s1_0 : w.heap.size < w1.heap.size := (by omega)
  have c1_0_0 : w1.cell? ⟨w.heap.size, 0, none⟩ = some (.slice none 0 0) := (hb1.cell (p := ⟨w.heap.size, 0, none⟩) smx).trans kpx
  have f1_0_0 : w1.frozen? ⟨w.heap.size, 0, none⟩ = false := (hb1.frozen (p := ⟨w.heap.size, 0, none⟩) smx).trans kfx
  have c1_0_1 : w1.cell? ⟨w.heap.size, 1, none⟩ = some (.bool false) := (hb1.cell (p := ⟨w.heap.size, 1, none⟩) smx).trans kpx
  have f1_0_1 : w1.frozen? ⟨w.heap.size, 1, none⟩ = false := (hb1.frozen (p := ⟨w.heap.size, 1, none⟩) smx).trans kfx
  have c1_0_2 : w1.cell? ⟨w.heap.size, 2, none⟩ = some (.bool false) := (hb1.cell (p := ⟨w.heap.size, 2, none⟩) smx).trans kpx
  have f1_0_2 : w1.frozen? ⟨w.heap.size, 2, none⟩ = false := (hb1.frozen (p := ⟨w.heap.size, 2, none⟩) smx).trans kfx
  have s1_1 : w.heap.size + 1 < w1.heap.size := (by omega)
  have c1_1_0 : w1.cell? ⟨w.heap.size + 1, 0, none⟩ = some (.int .i64 0) := (hb1.cell (p := ⟨w.heap.size + 1, 0, none⟩) smx).trans kpx
  have f1_1_0 : w1.frozen? ⟨w.heap.size + 1, 0, none⟩ = false := (hb1.frozen (p := ⟨w.heap.size + 1, 0, none⟩) smx).trans kfx
  have c1_1_1 : w1.cell? ⟨w.heap.size + 1, 1, none⟩ = some (.int .i64 0) := (hb1.cell (p := ⟨w.heap.size + 1, 1, none⟩) smx).trans kpx
  have f1_1_1 : w1.frozen? ⟨w.heap.size + 1, 1, none⟩ = false := (hb1.frozen (p := ⟨w.heap.size + 1, 1, none⟩) smx).trans kfx
  have c1_1_2 : w1.cell? ⟨w.heap.size + 1, 2, none⟩ = some (.int .i64 0) := (hb1.cell (p := ⟨w.heap.size + 1, 2, none⟩) smx).trans kpx
  have f1_1_2 : w1.frozen? ⟨w.heap.size + 1, 2, none⟩ = false := (hb1.frozen (p := ⟨w.heap.size + 1, 2, none⟩) smx).trans kfx
  have c1_1_3 : w1.cell? ⟨w.heap.size + 1, 3, none⟩ = some (.string ⟨#[]⟩) := (hb1.cell (p := ⟨w.heap.size + 1, 3, none⟩) smx).trans kpx
  have f1_1_3 : w1.frozen? ⟨w.heap.size + 1, 3, none⟩ = false := (hb1.frozen (p := ⟨w.heap.size + 1, 3, none⟩) smx).trans kfx
  go_wp2_with fail
  refine (l16Bent_any cb _ (HCU.out.ext bxt)).mono ?_
  rintro e w2 ⟨g, q, m, rb, rc, hm, hnm, rfl, ho, hd2⟩
  have hz2 := hd2.size; (try simp at hz2)
  have s2_0 : w.heap.size < w2.heap.size := (by omega)
  have c2_0_0 : w2.cell? ⟨w.heap.size, 0, none⟩ = some (.slice none 0 0) := (hd2.cell (x := w.heap.size) (o := 0) smx (by omega)).trans kpx
  have f2_0_0 : w2.frozen? ⟨w.heap.size, 0, none⟩ = false := (hd2.frozen (x := w.heap.size) (o := 0) smx (by omega)).trans kfx
  have c2_0_1 : w2.cell? ⟨w.heap.size, 1, none⟩ = some (.bool false) := (hd2.cell (x := w.heap.size) (o := 1) smx (by omega)).trans kpx
  have f2_0_1 : w2.frozen? ⟨w.heap.size, 1, none⟩ = false := (hd2.frozen (x := w.heap.size) (o := 1) smx (by omega)).trans kfx
  have c2_0_2 : w2.cell? ⟨w.heap.size, 2, none⟩ = some (.bool false) := (hd2.cell (x := w.heap.size) (o := 2) smx (by omega)).trans kpx
  have f2_0_2 : w2.frozen? ⟨w.heap.size, 2, none⟩ = false := (hd2.frozen (x := w.heap.size) (o := 2) smx (by omega)).trans kfx
  have s2_1 : w.heap.size + 1 < w2.heap.size := (by omega)
  have c2_1_0 : w2.cell? ⟨w.heap.size + 1, 0, none⟩ = some (.int .i64 0) := (hd2.cell (x := w.heap.size + 1) (o := 0) smx (by omega)).trans kpx
  have f2_1_0 : w2.frozen? ⟨w.heap.size + 1, 0, none⟩ = false := (hd2.frozen (x := w.heap.size + 1) (o := 0) smx (by omega)).trans kfx
  have c2_1_1 : w2.cell? ⟨w.heap.size + 1, 1, none⟩ = some (.int .i64 0) := (hd2.cell (x := w.heap.size + 1) (o := 1) smx (by omega)).trans kpx
  have f2_1_1 : w2.frozen? ⟨w.heap.size + 1, 1, none⟩ = false := (hd2.frozen (x := w.heap.size + 1) (o := 1) smx (by omega)).trans kfx
  have c2_1_2 : w2.cell? ⟨w.heap.size + 1, 2, none⟩ = some (.int .i64 0) := (hd2.cell (x := w.heap.size + 1) (o := 2) smx (by omega)).trans kpx
  have f2_1_2 : w2.frozen? ⟨w.heap.size + 1, 2, none⟩ = false := (hd2.frozen (x := w.heap.size + 1) (o := 2) smx (by omega)).trans kfx
  have c2_1_3 : w2.cell? ⟨w.heap.size + 1, 3, none⟩ = some (.string ⟨#[]⟩) := (hd2.cell (x := w.heap.size + 1) (o := 3) smx (by omega)).trans kpx
  have f2_1_3 : w2.frozen? ⟨w.heap.size + 1, 3, none⟩ = false := (hd2.frozen (x := w.heap.size + 1) (o := 3) smx (by omega)).trans kfx
  have HM := Lib.hid hnm; have HO := Lib.hid ho; clear hnm ho
  go_wp2_with fail
  refine (l16Note2_any cb _ (hd2.cur.ext bxt)).mono ?_
  rintro e w3 ⟨x, hx, rfl, hd3⟩
  have hz3 := hd3.size; (try simp at hz3)
  have s3_0 : w.heap.size < w3.heap.size := (by omega)
  have c3_0_0 : w3.cell? ⟨w.heap.size, 0, none⟩ = some (.slice none 0 0) := (hd3.cell (x := w.heap.size) (o := 0) smx (by omega)).trans kpx
  have f3_0_0 : w3.frozen? ⟨w.heap.size, 0, none⟩ = false := (hd3.frozen (x := w.heap.size) (o := 0) smx (by omega)).trans kfx
  have c3_0_1 : w3.cell? ⟨w.heap.size, 1, none⟩ = some (.bool false) := (hd3.cell (x := w.heap.size) (o := 1) smx (by omega)).trans kpx
  have f3_0_1 : w3.frozen? ⟨w.heap.size, 1, none⟩ = false := (hd3.frozen (x := w.heap.size) (o := 1) smx (by omega)).trans kfx
  have c3_0_2 : w3.cell? ⟨w.heap.size, 2, none⟩ = some (.bool false) := (hd3.cell (x := w.heap.size) (o := 2) smx (by omega)).trans kpx
  have f3_0_2 : w3.frozen? ⟨w.heap.size, 2, none⟩ = false := (hd3.frozen (x := w.heap.size) (o := 2) smx (by omega)).trans kfx
  have s3_1 : w.heap.size + 1 < w3.heap.size := (by omega)
  have c3_1_0 : w3.cell? ⟨w.heap.size + 1, 0, none⟩ = some (.int .i64 0) := (hd3.cell (x := w.heap.size + 1) (o := 0) smx (by omega)).trans kpx
  have f3_1_0 : w3.frozen? ⟨w.heap.size + 1, 0, none⟩ = false := (hd3.frozen (x := w.heap.size + 1) (o := 0) smx (by omega)).trans kfx
  have c3_1_1 : w3.cell? ⟨w.heap.size + 1, 1, none⟩ = some (.int .i64 0) := (hd3.cell (x := w.heap.size + 1) (o := 1) smx (by omega)).trans kpx
  have f3_1_1 : w3.frozen? ⟨w.heap.size + 1, 1, none⟩ = false := (hd3.frozen (x := w.heap.size + 1) (o := 1) smx (by omega)).trans kfx
  have c3_1_2 : w3.cell? ⟨w.heap.size + 1, 2, none⟩ = some (.int .i64 0) := (hd3.cell (x := w.heap.size + 1) (o := 2) smx (by omega)).trans kpx
  have f3_1_2 : w3.frozen? ⟨w.heap.size + 1, 2, none⟩ = false := (hd3.frozen (x := w.heap.size + 1) (o := 2) smx (by omega)).trans kfx
  have c3_1_3 : w3.cell? ⟨w.heap.size + 1, 3, none⟩ = some (.string ⟨#[]⟩) := (hd3.cell (x := w.heap.size + 1) (o := 3) smx (by omega)).trans kpx
  have f3_1_3 : w3.frozen? ⟨w.heap.size + 1, 3, none⟩ = false := (hd3.frozen (x := w.heap.size + 1) (o := 3) smx (by omega)).trans kfx
  have s3_2 : w2.heap.size < w3.heap.size := (by omega)
  have c3_2_0 : w3.cell? ⟨w2.heap.size, 0, none⟩ = some (.slice g m.length q) := (hd3.cell (x := w2.heap.size) (o := 0) smx (by omega)).trans kpx
  have f3_2_0 : w3.frozen? ⟨w2.heap.size, 0, none⟩ = false := (hd3.frozen (x := w2.heap.size) (o := 0) smx (by omega)).trans kfx
  have c3_2_1 : w3.cell? ⟨w2.heap.size, 1, none⟩ = some (.bool rb) := (hd3.cell (x := w2.heap.size) (o := 1) smx (by omega)).trans kpx
  have f3_2_1 : w3.frozen? ⟨w2.heap.size, 1, none⟩ = false := (hd3.frozen (x := w2.heap.size) (o := 1) smx (by omega)).trans kfx
  have c3_2_2 : w3.cell? ⟨w2.heap.size, 2, none⟩ = some (.bool rc) := (hd3.cell (x := w2.heap.size) (o := 2) smx (by omega)).trans kpx
  have f3_2_2 : w3.frozen? ⟨w2.heap.size, 2, none⟩ = false := (hd3.frozen (x := w2.heap.size) (o := 2) smx (by omega)).trans kfx
  have hd12 : Dr cb w1 w3 := hd2.alloc _ |>.trans hd3
  have HO3 := Lib.hid ((HO.out.ext (w' := w2.alloc _) bxt).dr hd3 smx)
  have n4 := HO3.out.ne_ge (b := w3.heap.size) (Nat.le_refl _)
  by_cases hk : x.kind = 1
  · have ek : (x.kind == 1) = true := by simpa using hk
    have HK := Lib.hid hk; clear hk
    go_wp2_with fail
    refine (l1Once_any cb 4 _ (hd3.cur.ext bxt) (by omega)).mono ?_
    rintro e w4 ⟨v, rfl, hd4⟩
    have hz4 := hd4.size; (try simp at hz4)
    have s4_0 : w.heap.size < w4.heap.size := (by omega)
    have c4_0_0 : w4.cell? ⟨w.heap.size, 0, none⟩ = some (.slice none 0 0) := (hd4.cell (x := w.heap.size) (o := 0) smx (by omega)).trans kpx
    have f4_0_0 : w4.frozen? ⟨w.heap.size, 0, none⟩ = false := (hd4.frozen (x := w.heap.size) (o := 0) smx (by omega)).trans kfx
    have c4_0_1 : w4.cell? ⟨w.heap.size, 1, none⟩ = some (.bool false) := (hd4.cell (x := w.heap.size) (o := 1) smx (by omega)).trans kpx
    have f4_0_1 : w4.frozen? ⟨w.heap.size, 1, none⟩ = false := (hd4.frozen (x := w.heap.size) (o := 1) smx (by omega)).trans kfx
    have c4_0_2 : w4.cell? ⟨w.heap.size, 2, none⟩ = some (.bool false) := (hd4.cell (x := w.heap.size) (o := 2) smx (by omega)).trans kpx
    have f4_0_2 : w4.frozen? ⟨w.heap.size, 2, none⟩ = false := (hd4.frozen (x := w.heap.size) (o := 2) smx (by omega)).trans kfx
    have s4_1 : w.heap.size + 1 < w4.heap.size := (by omega)
    have c4_1_0 : w4.cell? ⟨w.heap.size + 1, 0, none⟩ = some (.int .i64 0) := (hd4.cell (x := w.heap.size + 1) (o := 0) smx (by omega)).trans kpx
    have f4_1_0 : w4.frozen? ⟨w.heap.size + 1, 0, none⟩ = false := (hd4.frozen (x := w.heap.size + 1) (o := 0) smx (by omega)).trans kfx
    have c4_1_1 : w4.cell? ⟨w.heap.size + 1, 1, none⟩ = some (.int .i64 0) := (hd4.cell (x := w.heap.size + 1) (o := 1) smx (by omega)).trans kpx
    have f4_1_1 : w4.frozen? ⟨w.heap.size + 1, 1, none⟩ = false := (hd4.frozen (x := w.heap.size + 1) (o := 1) smx (by omega)).trans kfx
    have c4_1_2 : w4.cell? ⟨w.heap.size + 1, 2, none⟩ = some (.int .i64 0) := (hd4.cell (x := w.heap.size + 1) (o := 2) smx (by omega)).trans kpx
    have f4_1_2 : w4.frozen? ⟨w.heap.size + 1, 2, none⟩ = false := (hd4.frozen (x := w.heap.size + 1) (o := 2) smx (by omega)).trans kfx
    have c4_1_3 : w4.cell? ⟨w.heap.size + 1, 3, none⟩ = some (.string ⟨#[]⟩) := (hd4.cell (x := w.heap.size + 1) (o := 3) smx (by omega)).trans kpx
    have f4_1_3 : w4.frozen? ⟨w.heap.size + 1, 3, none⟩ = false := (hd4.frozen (x := w.heap.size + 1) (o := 3) smx (by omega)).trans kfx
    have s4_2 : w2.heap.size < w4.heap.size := (by omega)
    have c4_2_0 : w4.cell? ⟨w2.heap.size, 0, none⟩ = some (.slice g m.length q) := (hd4.cell (x := w2.heap.size) (o := 0) smx (by omega)).trans kpx
    have f4_2_0 : w4.frozen? ⟨w2.heap.size, 0, none⟩ = false := (hd4.frozen (x := w2.heap.size) (o := 0) smx (by omega)).trans kfx
    have c4_2_1 : w4.cell? ⟨w2.heap.size, 1, none⟩ = some (.bool rb) := (hd4.cell (x := w2.heap.size) (o := 1) smx (by omega)).trans kpx
    have f4_2_1 : w4.frozen? ⟨w2.heap.size, 1, none⟩ = false := (hd4.frozen (x := w2.heap.size) (o := 1) smx (by omega)).trans kfx
    have c4_2_2 : w4.cell? ⟨w2.heap.size, 2, none⟩ = some (.bool rc) := (hd4.cell (x := w2.heap.size) (o := 2) smx (by omega)).trans kpx
    have f4_2_2 : w4.frozen? ⟨w2.heap.size, 2, none⟩ = false := (hd4.frozen (x := w2.heap.size) (o := 2) smx (by omega)).trans kfx
    have s4_3 : w3.heap.size < w4.heap.size := (by omega)
    have c4_3_0 : w4.cell? ⟨w3.heap.size, 0, none⟩ = some (.int .i64 x.kind) := (hd4.cell (x := w3.heap.size) (o := 0) smx (by omega)).trans kpx
    have f4_3_0 : w4.frozen? ⟨w3.heap.size, 0, none⟩ = false := (hd4.frozen (x := w3.heap.size) (o := 0) smx (by omega)).trans kfx
    have c4_3_1 : w4.cell? ⟨w3.heap.size, 1, none⟩ = some (.int .i64 x.n) := (hd4.cell (x := w3.heap.size) (o := 1) smx (by omega)).trans kpx
    have f4_3_1 : w4.frozen? ⟨w3.heap.size, 1, none⟩ = false := (hd4.frozen (x := w3.heap.size) (o := 1) smx (by omega)).trans kfx
    have c4_3_2 : w4.cell? ⟨w3.heap.size, 2, none⟩ = some (.int .i64 x.uid) := (hd4.cell (x := w3.heap.size) (o := 2) smx (by omega)).trans kpx
    have f4_3_2 : w4.frozen? ⟨w3.heap.size, 2, none⟩ = false := (hd4.frozen (x := w3.heap.size) (o := 2) smx (by omega)).trans kfx
    have c4_3_3 : w4.cell? ⟨w3.heap.size, 3, none⟩ = some (.string x.name) := (hd4.cell (x := w3.heap.size) (o := 3) smx (by omega)).trans kpx
    have f4_3_3 : w4.frozen? ⟨w3.heap.size, 3, none⟩ = false := (hd4.frozen (x := w3.heap.size) (o := 3) smx (by omega)).trans kfx
    have HO4 := Lib.hid ((HO3.out.ext (w' := w3.alloc _) bxt).dr hd4 smx)
    cases v
    · skip
      go_wp2_with fail
      go_region
      all_goals go_wp2_with fail
      all_goals refine bodyPost_ret (v := .tuple #[.agg #[.slice g m.length q, .bool rb, .bool rc], .agg #[.int .i64 x.kind, .int .i64 (40), .int .i64 x.uid, .string x.name]]) (by simp [results, Try.results15, go_sem, *]) rfl ⟨g, q, m, rb, rc, ⟨x.kind, 40, x.uid, x.name⟩, hm, HM.out, hx, rfl, ?_, ?_⟩
      all_goals first | exact btx | (refine Own.le (B := w1.heap.size) ?_ (by omega); exact (by repeat' (first | with_reducible exact HO4.out | with_reducible refine Own.set_below ?_ smx _ | with_reducible refine Own.set_off ?_ (by with_reducible exact n4) _ | with_reducible refine Own.alloc1 ?_ _ | with_reducible refine Own.drew1 ?_ | with_reducible refine Own.drewN1 ?_ | with_reducible refine Own.ext ?_ (by assumption))))
    · skip
      go_wp2_with fail
      go_region
      all_goals go_wp2_with fail
      all_goals refine bodyPost_ret (v := .tuple #[.agg #[.slice g m.length q, .bool rb, .bool rc], .agg #[.int .i64 x.kind, .int .i64 (x.n), .int .i64 x.uid, .string x.name]]) (by simp [results, Try.results15, go_sem, *]) rfl ⟨g, q, m, rb, rc, ⟨x.kind, x.n, x.uid, x.name⟩, hm, HM.out, hx, rfl, ?_, ?_⟩
      all_goals first | exact btx | (refine Own.le (B := w1.heap.size) ?_ (by omega); exact (by repeat' (first | with_reducible exact HO4.out | with_reducible refine Own.set_below ?_ smx _ | with_reducible refine Own.set_off ?_ (by with_reducible exact n4) _ | with_reducible refine Own.alloc1 ?_ _ | with_reducible refine Own.drew1 ?_ | with_reducible refine Own.drewN1 ?_ | with_reducible refine Own.ext ?_ (by assumption))))
  · have ek : (x.kind == 1) = false := by simpa using hk
    have HK := Lib.hid hk; clear hk
    go_wp2_with fail
    go_region
    all_goals go_wp2_with fail
    all_goals refine bodyPost_ret (v := .tuple #[.agg #[.slice g m.length q, .bool rb, .bool rc], .agg #[.int .i64 x.kind, .int .i64 (x.n), .int .i64 x.uid, .string x.name]]) (by simp [results, Try.results15, go_sem, *]) rfl ⟨g, q, m, rb, rc, ⟨x.kind, x.n, x.uid, x.name⟩, hm, HM.out, hx, rfl, ?_, ?_⟩
    all_goals first | exact btx | (refine Own.le (B := w1.heap.size) ?_ (by omega); exact (by repeat' (first | with_reducible exact HO3.out | with_reducible refine Own.set_below ?_ smx _ | with_reducible refine Own.set_off ?_ (by with_reducible exact n4) _ | with_reducible refine Own.alloc1 ?_ _ | with_reducible refine Own.drew1 ?_ | with_reducible refine Own.drewN1 ?_ | with_reducible refine Own.ext ?_ (by assumption))))
end Go.Proofs.Ytgobkfnmagcgcaa
