/-
  The draw of the law of replies in two parts.
-/
import Derived.Test.YtpameapajhbdnaaK28
import Derived.Test.YtpameapajhbdnaaK16
import Derived.Test.YtpameapajhbdnaaK04
namespace Go.Proofs.Ytpameapajhbdnaa
open Go.RowKit
set_option linter.unusedVariables false
set_option linter.unusedSimpArgs false

def DrFA (w : World) (e : Ending) (w' : World) : Prop := ∃ (ac bd : Bool) (nm : ByteArray) (va sz : Int) (g : Option Addr) (q : Nat) (l : List DSeen) (go : Option Addr) (qo : Nat) (os : List DReply), l.length ≤ 5 ∧ os.length ≤ 60 ∧ e = .returned (.tuple #[.agg #[.bool ac, .string nm, .int .i64 va, .int .i64 sz, .slice g l.length q, .bool bd], .slice go os.length qo]) ∧ Own w' w.heap.size 129 2 (.slice g l.length q) l.length (l.flatMap DSeen.cells) ∧ Own w' w.heap.size 131 6 (.slice go os.length qo) os.length (os.flatMap DReply.cells) ∧ Ext w w'
set_option maxRecDepth 100000 in
set_option maxHeartbeats 4000000 in
theorem drawFoldAll_any (lb : List Int) (a : Option Addr) (c : Nat) (w : World) (R : Rd w a c 1 lb.length (lb.flatMap byteCells)) (hb : ∀ y ∈ lb, 0 ≤ y ∧ y ≤ 255) (hl : lb.length ≤ 1048576) :
    Calls Try.prog 42 #[.slice a lb.length c] w (DrFA w) := by
  have HR := Lib.hid R
  have HB := Lib.hid hb
  clear R hb
  go_enter Try.func42, Try.ntmps42
  go_wp2_with fail
  refine (l1New_any lb a c _ (HR.out.ext bxt) HB.out hl).mono ?_
  rintro e w1 ⟨cb, hcb, rfl, hcu, hb1⟩
  (try simp at hcb)
  have hcl := hcu.lt
  have HCU := Lib.hid hcu
  clear hcu
  have hz1 := hb1.size; (try simp at hz1)
  have s1_0 : w.heap.size < w1.heap.size := (by omega)
  have c1_0_0 : w1.cell? ⟨w.heap.size, 0, none⟩ = some (.bool false) := (hb1.cell (p := ⟨w.heap.size, 0, none⟩) smx).trans kpx
  have f1_0_0 : w1.frozen? ⟨w.heap.size, 0, none⟩ = false := (hb1.frozen (p := ⟨w.heap.size, 0, none⟩) smx).trans kfx
  have c1_0_1 : w1.cell? ⟨w.heap.size, 1, none⟩ = some (.string ⟨#[]⟩) := (hb1.cell (p := ⟨w.heap.size, 1, none⟩) smx).trans kpx
  have f1_0_1 : w1.frozen? ⟨w.heap.size, 1, none⟩ = false := (hb1.frozen (p := ⟨w.heap.size, 1, none⟩) smx).trans kfx
  have c1_0_2 : w1.cell? ⟨w.heap.size, 2, none⟩ = some (.int .i64 0) := (hb1.cell (p := ⟨w.heap.size, 2, none⟩) smx).trans kpx
  have f1_0_2 : w1.frozen? ⟨w.heap.size, 2, none⟩ = false := (hb1.frozen (p := ⟨w.heap.size, 2, none⟩) smx).trans kfx
  have c1_0_3 : w1.cell? ⟨w.heap.size, 3, none⟩ = some (.int .i64 0) := (hb1.cell (p := ⟨w.heap.size, 3, none⟩) smx).trans kpx
  have f1_0_3 : w1.frozen? ⟨w.heap.size, 3, none⟩ = false := (hb1.frozen (p := ⟨w.heap.size, 3, none⟩) smx).trans kfx
  have c1_0_4 : w1.cell? ⟨w.heap.size, 4, none⟩ = some (.slice none 0 0) := (hb1.cell (p := ⟨w.heap.size, 4, none⟩) smx).trans kpx
  have f1_0_4 : w1.frozen? ⟨w.heap.size, 4, none⟩ = false := (hb1.frozen (p := ⟨w.heap.size, 4, none⟩) smx).trans kfx
  have c1_0_5 : w1.cell? ⟨w.heap.size, 5, none⟩ = some (.bool false) := (hb1.cell (p := ⟨w.heap.size, 5, none⟩) smx).trans kpx
  have f1_0_5 : w1.frozen? ⟨w.heap.size, 5, none⟩ = false := (hb1.frozen (p := ⟨w.heap.size, 5, none⟩) smx).trans kfx
  go_wp2_with fail
  refine (l1Once_any cb 3 _ (HCU.out.ext bxt) (by omega)).mono ?_
  rintro e w2 ⟨t, rfl, hd2⟩
  have hz2 := hd2.size; (try simp at hz2)
  have s2_0 : w.heap.size < w2.heap.size := (by omega)
  have c2_0_0 : w2.cell? ⟨w.heap.size, 0, none⟩ = some (.bool false) := (hd2.cell (x := w.heap.size) (o := 0) smx (by omega)).trans kpx
  have f2_0_0 : w2.frozen? ⟨w.heap.size, 0, none⟩ = false := (hd2.frozen (x := w.heap.size) (o := 0) smx (by omega)).trans kfx
  have c2_0_1 : w2.cell? ⟨w.heap.size, 1, none⟩ = some (.string ⟨#[]⟩) := (hd2.cell (x := w.heap.size) (o := 1) smx (by omega)).trans kpx
  have f2_0_1 : w2.frozen? ⟨w.heap.size, 1, none⟩ = false := (hd2.frozen (x := w.heap.size) (o := 1) smx (by omega)).trans kfx
  have c2_0_2 : w2.cell? ⟨w.heap.size, 2, none⟩ = some (.int .i64 0) := (hd2.cell (x := w.heap.size) (o := 2) smx (by omega)).trans kpx
  have f2_0_2 : w2.frozen? ⟨w.heap.size, 2, none⟩ = false := (hd2.frozen (x := w.heap.size) (o := 2) smx (by omega)).trans kfx
  have c2_0_3 : w2.cell? ⟨w.heap.size, 3, none⟩ = some (.int .i64 0) := (hd2.cell (x := w.heap.size) (o := 3) smx (by omega)).trans kpx
  have f2_0_3 : w2.frozen? ⟨w.heap.size, 3, none⟩ = false := (hd2.frozen (x := w.heap.size) (o := 3) smx (by omega)).trans kfx
  have c2_0_4 : w2.cell? ⟨w.heap.size, 4, none⟩ = some (.slice none 0 0) := (hd2.cell (x := w.heap.size) (o := 4) smx (by omega)).trans kpx
  have f2_0_4 : w2.frozen? ⟨w.heap.size, 4, none⟩ = false := (hd2.frozen (x := w.heap.size) (o := 4) smx (by omega)).trans kfx
  have c2_0_5 : w2.cell? ⟨w.heap.size, 5, none⟩ = some (.bool false) := (hd2.cell (x := w.heap.size) (o := 5) smx (by omega)).trans kpx
  have f2_0_5 : w2.frozen? ⟨w.heap.size, 5, none⟩ = false := (hd2.frozen (x := w.heap.size) (o := 5) smx (by omega)).trans kfx
  cases t
  · skip
    go_wp2_with fail
    refine (l15Lines_any cb _ (hd2.cur.ext bxt)).mono ?_
    rintro e w3 ⟨go, qo, os, hos, rfl, hoo, hd3⟩
    have hz3 := hd3.size; (try simp at hz3)
    have s3_0 : w.heap.size < w3.heap.size := (by omega)
    have c3_0_0 : w3.cell? ⟨w.heap.size, 0, none⟩ = some (.bool false) := (hd3.cell (x := w.heap.size) (o := 0) smx (by omega)).trans kpx
    have f3_0_0 : w3.frozen? ⟨w.heap.size, 0, none⟩ = false := (hd3.frozen (x := w.heap.size) (o := 0) smx (by omega)).trans kfx
    have c3_0_1 : w3.cell? ⟨w.heap.size, 1, none⟩ = some (.string ⟨#[]⟩) := (hd3.cell (x := w.heap.size) (o := 1) smx (by omega)).trans kpx
    have f3_0_1 : w3.frozen? ⟨w.heap.size, 1, none⟩ = false := (hd3.frozen (x := w.heap.size) (o := 1) smx (by omega)).trans kfx
    have c3_0_2 : w3.cell? ⟨w.heap.size, 2, none⟩ = some (.int .i64 0) := (hd3.cell (x := w.heap.size) (o := 2) smx (by omega)).trans kpx
    have f3_0_2 : w3.frozen? ⟨w.heap.size, 2, none⟩ = false := (hd3.frozen (x := w.heap.size) (o := 2) smx (by omega)).trans kfx
    have c3_0_3 : w3.cell? ⟨w.heap.size, 3, none⟩ = some (.int .i64 0) := (hd3.cell (x := w.heap.size) (o := 3) smx (by omega)).trans kpx
    have f3_0_3 : w3.frozen? ⟨w.heap.size, 3, none⟩ = false := (hd3.frozen (x := w.heap.size) (o := 3) smx (by omega)).trans kfx
    have c3_0_4 : w3.cell? ⟨w.heap.size, 4, none⟩ = some (.slice none 0 0) := (hd3.cell (x := w.heap.size) (o := 4) smx (by omega)).trans kpx
    have f3_0_4 : w3.frozen? ⟨w.heap.size, 4, none⟩ = false := (hd3.frozen (x := w.heap.size) (o := 4) smx (by omega)).trans kfx
    have c3_0_5 : w3.cell? ⟨w.heap.size, 5, none⟩ = some (.bool false) := (hd3.cell (x := w.heap.size) (o := 5) smx (by omega)).trans kpx
    have f3_0_5 : w3.frozen? ⟨w.heap.size, 5, none⟩ = false := (hd3.frozen (x := w.heap.size) (o := 5) smx (by omega)).trans kfx
    have HOO := Lib.hid (hoo.le (B' := w1.heap.size) (by omega)); clear hoo
    go_wp2_with fail
    refine bodyPost_ret (v := .tuple #[.agg #[.bool false, .string ⟨#[]⟩, .int .i64 0, .int .i64 0, .slice none 0 0, .bool false], .slice go os.length qo]) (by simp [results, Try.results42, go_sem, *]) rfl ⟨false, false, ⟨#[]⟩, 0, 0, none, 0, [], go, qo, os, by simp, hos, rfl, ?_, ?_, btx⟩
    · exact Own.none0 _
    · exact Own.le (B := w1.heap.size) (by repeat' (first | with_reducible exact HOO.out | with_reducible refine Own.set_below ?_ smx _ | with_reducible refine Own.alloc1 ?_ _ | with_reducible refine Own.drew1 ?_ | with_reducible refine Own.drewN1 ?_ | with_reducible refine Own.ext ?_ (by assumption))) (by omega)
  · skip
    go_wp2_with fail
    refine (l15Client_any cb _ (hd2.cur.ext bxt)).mono ?_
    rintro e w4 ⟨ac, bd, nm, va, sz, g, q, l, hll, rfl, ho, hd4⟩
    have hz4 := hd4.size; (try simp at hz4)
    have s4_0 : w.heap.size < w4.heap.size := (by omega)
    have c4_0_0 : w4.cell? ⟨w.heap.size, 0, none⟩ = some (.bool false) := (hd4.cell (x := w.heap.size) (o := 0) smx (by omega)).trans kpx
    have f4_0_0 : w4.frozen? ⟨w.heap.size, 0, none⟩ = false := (hd4.frozen (x := w.heap.size) (o := 0) smx (by omega)).trans kfx
    have c4_0_1 : w4.cell? ⟨w.heap.size, 1, none⟩ = some (.string ⟨#[]⟩) := (hd4.cell (x := w.heap.size) (o := 1) smx (by omega)).trans kpx
    have f4_0_1 : w4.frozen? ⟨w.heap.size, 1, none⟩ = false := (hd4.frozen (x := w.heap.size) (o := 1) smx (by omega)).trans kfx
    have c4_0_2 : w4.cell? ⟨w.heap.size, 2, none⟩ = some (.int .i64 0) := (hd4.cell (x := w.heap.size) (o := 2) smx (by omega)).trans kpx
    have f4_0_2 : w4.frozen? ⟨w.heap.size, 2, none⟩ = false := (hd4.frozen (x := w.heap.size) (o := 2) smx (by omega)).trans kfx
    have c4_0_3 : w4.cell? ⟨w.heap.size, 3, none⟩ = some (.int .i64 0) := (hd4.cell (x := w.heap.size) (o := 3) smx (by omega)).trans kpx
    have f4_0_3 : w4.frozen? ⟨w.heap.size, 3, none⟩ = false := (hd4.frozen (x := w.heap.size) (o := 3) smx (by omega)).trans kfx
    have c4_0_4 : w4.cell? ⟨w.heap.size, 4, none⟩ = some (.slice none 0 0) := (hd4.cell (x := w.heap.size) (o := 4) smx (by omega)).trans kpx
    have f4_0_4 : w4.frozen? ⟨w.heap.size, 4, none⟩ = false := (hd4.frozen (x := w.heap.size) (o := 4) smx (by omega)).trans kfx
    have c4_0_5 : w4.cell? ⟨w.heap.size, 5, none⟩ = some (.bool false) := (hd4.cell (x := w.heap.size) (o := 5) smx (by omega)).trans kpx
    have f4_0_5 : w4.frozen? ⟨w.heap.size, 5, none⟩ = false := (hd4.frozen (x := w.heap.size) (o := 5) smx (by omega)).trans kfx
    have HO := Lib.hid (ho.le (B' := w1.heap.size) (by omega)); clear ho
    go_wp2_with fail
    refine (l15Lines_any cb _ (hd4.cur.ext bxt)).mono ?_
    rintro e w5 ⟨go, qo, os, hos, rfl, hoo, hd5⟩
    have hz5 := hd5.size; (try simp at hz5)
    have s5_0 : w.heap.size < w5.heap.size := (by omega)
    have c5_0_0 : w5.cell? ⟨w.heap.size, 0, none⟩ = some (.bool false) := (hd5.cell (x := w.heap.size) (o := 0) smx (by omega)).trans kpx
    have f5_0_0 : w5.frozen? ⟨w.heap.size, 0, none⟩ = false := (hd5.frozen (x := w.heap.size) (o := 0) smx (by omega)).trans kfx
    have c5_0_1 : w5.cell? ⟨w.heap.size, 1, none⟩ = some (.string ⟨#[]⟩) := (hd5.cell (x := w.heap.size) (o := 1) smx (by omega)).trans kpx
    have f5_0_1 : w5.frozen? ⟨w.heap.size, 1, none⟩ = false := (hd5.frozen (x := w.heap.size) (o := 1) smx (by omega)).trans kfx
    have c5_0_2 : w5.cell? ⟨w.heap.size, 2, none⟩ = some (.int .i64 0) := (hd5.cell (x := w.heap.size) (o := 2) smx (by omega)).trans kpx
    have f5_0_2 : w5.frozen? ⟨w.heap.size, 2, none⟩ = false := (hd5.frozen (x := w.heap.size) (o := 2) smx (by omega)).trans kfx
    have c5_0_3 : w5.cell? ⟨w.heap.size, 3, none⟩ = some (.int .i64 0) := (hd5.cell (x := w.heap.size) (o := 3) smx (by omega)).trans kpx
    have f5_0_3 : w5.frozen? ⟨w.heap.size, 3, none⟩ = false := (hd5.frozen (x := w.heap.size) (o := 3) smx (by omega)).trans kfx
    have c5_0_4 : w5.cell? ⟨w.heap.size, 4, none⟩ = some (.slice none 0 0) := (hd5.cell (x := w.heap.size) (o := 4) smx (by omega)).trans kpx
    have f5_0_4 : w5.frozen? ⟨w.heap.size, 4, none⟩ = false := (hd5.frozen (x := w.heap.size) (o := 4) smx (by omega)).trans kfx
    have c5_0_5 : w5.cell? ⟨w.heap.size, 5, none⟩ = some (.bool false) := (hd5.cell (x := w.heap.size) (o := 5) smx (by omega)).trans kpx
    have f5_0_5 : w5.frozen? ⟨w.heap.size, 5, none⟩ = false := (hd5.frozen (x := w.heap.size) (o := 5) smx (by omega)).trans kfx
    have HOO := Lib.hid (hoo.le (B' := w1.heap.size) (by omega)); clear hoo
    have HO2 := Lib.hid ((HO.out.ext (w' := _) bxt).dr hd5 (by omega))
    go_wp2_with fail
    refine bodyPost_ret (v := .tuple #[.agg #[.bool ac, .string nm, .int .i64 va, .int .i64 sz, .slice g l.length q, .bool bd], .slice go os.length qo]) (by simp [results, Try.results42, go_sem, *]) rfl ⟨ac, bd, nm, va, sz, g, q, l, go, qo, os, hll, hos, rfl, ?_, ?_, btx⟩
    · exact Own.le (B := w1.heap.size) (by repeat' (first | with_reducible exact HO2.out | with_reducible refine Own.set_below ?_ smx _ | with_reducible refine Own.alloc1 ?_ _ | with_reducible refine Own.drew1 ?_ | with_reducible refine Own.drewN1 ?_ | with_reducible refine Own.ext ?_ (by assumption))) (by omega)
    · exact Own.le (B := w1.heap.size) (by repeat' (first | with_reducible exact HOO.out | with_reducible refine Own.set_below ?_ smx _ | with_reducible refine Own.alloc1 ?_ _ | with_reducible refine Own.drew1 ?_ | with_reducible refine Own.drewN1 ?_ | with_reducible refine Own.ext ?_ (by assumption))) (by omega)
end Go.Proofs.Ytpameapajhbdnaa
