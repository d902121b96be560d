/-
  The draw of a reply that is turned a little.
-/
import Derived.Test.YtidfhkdonhjgaaaGreatDoorDraw19
namespace Go.Proofs.YtidfhkdonhjgaaaGreatDoor
open Go.RowKit
set_option linter.unusedVariables false
set_option linter.unusedSimpArgs false

set_option maxRecDepth 100000 in
set_option maxHeartbeats 8000000 in
theorem l14Bent_any (cb : Nat) (w : World) (hc : Cur w cb) :
    Calls Tryz.prog 29 #[.pointer (some ⟨cb, 0, none⟩)] w (DrRp cb w) := by
  have hcl := hc.lt
  have HC := Lib.hid hc
  clear hc
  go_enter Tryz.func29, Tryz.ntmps29
  go_wp2_with fail
  refine (l14Right_any cb _ (HC.out.ext bxt)).mono ?_
  rintro e w1 ⟨r, rfl, hd1, hn, ht⟩
  have hz1 := hd1.size; (try simp at hz1)
  have s1_0 : w.heap.size < w1.heap.size := (by omega)
  have c1_0_0 : w1.cell? ⟨w.heap.size, 0, none⟩ = some (.int .i64 0) := (hd1.cell (x := w.heap.size) (o := 0) smx (by omega)).trans kpx
  have f1_0_0 : w1.frozen? ⟨w.heap.size, 0, none⟩ = false := (hd1.frozen (x := w.heap.size) (o := 0) smx (by omega)).trans kfx
  have c1_0_1 : w1.cell? ⟨w.heap.size, 1, none⟩ = some (.int .i64 0) := (hd1.cell (x := w.heap.size) (o := 1) smx (by omega)).trans kpx
  have f1_0_1 : w1.frozen? ⟨w.heap.size, 1, none⟩ = false := (hd1.frozen (x := w.heap.size) (o := 1) smx (by omega)).trans kfx
  have c1_0_2 : w1.cell? ⟨w.heap.size, 2, none⟩ = some (.int .i64 0) := (hd1.cell (x := w.heap.size) (o := 2) smx (by omega)).trans kpx
  have f1_0_2 : w1.frozen? ⟨w.heap.size, 2, none⟩ = false := (hd1.frozen (x := w.heap.size) (o := 2) smx (by omega)).trans kfx
  have c1_0_3 : w1.cell? ⟨w.heap.size, 3, none⟩ = some (.int .i64 0) := (hd1.cell (x := w.heap.size) (o := 3) smx (by omega)).trans kpx
  have f1_0_3 : w1.frozen? ⟨w.heap.size, 3, none⟩ = false := (hd1.frozen (x := w.heap.size) (o := 3) smx (by omega)).trans kfx
  have c1_0_4 : w1.cell? ⟨w.heap.size, 4, none⟩ = some (.string ⟨#[]⟩) := (hd1.cell (x := w.heap.size) (o := 4) smx (by omega)).trans kpx
  have f1_0_4 : w1.frozen? ⟨w.heap.size, 4, none⟩ = false := (hd1.frozen (x := w.heap.size) (o := 4) smx (by omega)).trans kfx
  have c1_0_5 : w1.cell? ⟨w.heap.size, 5, none⟩ = some (.string ⟨#[]⟩) := (hd1.cell (x := w.heap.size) (o := 5) smx (by omega)).trans kpx
  have f1_0_5 : w1.frozen? ⟨w.heap.size, 5, none⟩ = false := (hd1.frozen (x := w.heap.size) (o := 5) smx (by omega)).trans kfx
  go_wp2_with fail
  refine (l1Below_any cb 14 _ (hd1.cur.ext bxt) (by omega)).mono ?_
  rintro e w2 ⟨v, ⟨v0, v1, -⟩, rfl, hd2⟩
  have v1 := v1 (by omega)
  have hz2 := hd2.size; (try simp at hz2)
  have s2_0 : w.heap.size < w2.heap.size := (by omega)
  have c2_0_0 : w2.cell? ⟨w.heap.size, 0, none⟩ = some (.int .i64 0) := (hd2.cell (x := w.heap.size) (o := 0) smx (by omega)).trans kpx
  have f2_0_0 : w2.frozen? ⟨w.heap.size, 0, none⟩ = false := (hd2.frozen (x := w.heap.size) (o := 0) smx (by omega)).trans kfx
  have c2_0_1 : w2.cell? ⟨w.heap.size, 1, none⟩ = some (.int .i64 0) := (hd2.cell (x := w.heap.size) (o := 1) smx (by omega)).trans kpx
  have f2_0_1 : w2.frozen? ⟨w.heap.size, 1, none⟩ = false := (hd2.frozen (x := w.heap.size) (o := 1) smx (by omega)).trans kfx
  have c2_0_2 : w2.cell? ⟨w.heap.size, 2, none⟩ = some (.int .i64 0) := (hd2.cell (x := w.heap.size) (o := 2) smx (by omega)).trans kpx
  have f2_0_2 : w2.frozen? ⟨w.heap.size, 2, none⟩ = false := (hd2.frozen (x := w.heap.size) (o := 2) smx (by omega)).trans kfx
  have c2_0_3 : w2.cell? ⟨w.heap.size, 3, none⟩ = some (.int .i64 0) := (hd2.cell (x := w.heap.size) (o := 3) smx (by omega)).trans kpx
  have f2_0_3 : w2.frozen? ⟨w.heap.size, 3, none⟩ = false := (hd2.frozen (x := w.heap.size) (o := 3) smx (by omega)).trans kfx
  have c2_0_4 : w2.cell? ⟨w.heap.size, 4, none⟩ = some (.string ⟨#[]⟩) := (hd2.cell (x := w.heap.size) (o := 4) smx (by omega)).trans kpx
  have f2_0_4 : w2.frozen? ⟨w.heap.size, 4, none⟩ = false := (hd2.frozen (x := w.heap.size) (o := 4) smx (by omega)).trans kfx
  have c2_0_5 : w2.cell? ⟨w.heap.size, 5, none⟩ = some (.string ⟨#[]⟩) := (hd2.cell (x := w.heap.size) (o := 5) smx (by omega)).trans kpx
  have f2_0_5 : w2.frozen? ⟨w.heap.size, 5, none⟩ = false := (hd2.frozen (x := w.heap.size) (o := 5) smx (by omega)).trans kfx
  have s2_1 : w1.heap.size < w2.heap.size := (by omega)
  have c2_1_0 : w2.cell? ⟨w1.heap.size, 0, none⟩ = some (.int .i64 r.kind) := (hd2.cell (x := w1.heap.size) (o := 0) smx (by omega)).trans kpx
  have f2_1_0 : w2.frozen? ⟨w1.heap.size, 0, none⟩ = false := (hd2.frozen (x := w1.heap.size) (o := 0) smx (by omega)).trans kfx
  have c2_1_1 : w2.cell? ⟨w1.heap.size, 1, none⟩ = some (.int .i64 r.n) := (hd2.cell (x := w1.heap.size) (o := 1) smx (by omega)).trans kpx
  have f2_1_1 : w2.frozen? ⟨w1.heap.size, 1, none⟩ = false := (hd2.frozen (x := w1.heap.size) (o := 1) smx (by omega)).trans kfx
  have c2_1_2 : w2.cell? ⟨w1.heap.size, 2, none⟩ = some (.int .i64 r.uid) := (hd2.cell (x := w1.heap.size) (o := 2) smx (by omega)).trans kpx
  have f2_1_2 : w2.frozen? ⟨w1.heap.size, 2, none⟩ = false := (hd2.frozen (x := w1.heap.size) (o := 2) smx (by omega)).trans kfx
  have c2_1_3 : w2.cell? ⟨w1.heap.size, 3, none⟩ = some (.int .i64 r.flags) := (hd2.cell (x := w1.heap.size) (o := 3) smx (by omega)).trans kpx
  have f2_1_3 : w2.frozen? ⟨w1.heap.size, 3, none⟩ = false := (hd2.frozen (x := w1.heap.size) (o := 3) smx (by omega)).trans kfx
  have c2_1_4 : w2.cell? ⟨w1.heap.size, 4, none⟩ = some (.string r.name) := (hd2.cell (x := w1.heap.size) (o := 4) smx (by omega)).trans kpx
  have f2_1_4 : w2.frozen? ⟨w1.heap.size, 4, none⟩ = false := (hd2.frozen (x := w1.heap.size) (o := 4) smx (by omega)).trans kfx
  have c2_1_5 : w2.cell? ⟨w1.heap.size, 5, none⟩ = some (.string r.text) := (hd2.cell (x := w1.heap.size) (o := 5) smx (by omega)).trans kpx
  have f2_1_5 : w2.frozen? ⟨w1.heap.size, 5, none⟩ = false := (hd2.frozen (x := w1.heap.size) (o := 5) smx (by omega)).trans kfx
  by_cases hv0 : v = 0
  · subst hv0
    go_wp2_with fail
    refine (l1Below_any cb 19 _ (hd2.cur.ext bxt) (by omega)).mono ?_
    rintro e w3 ⟨n, ⟨n0, n1, -⟩, rfl, hd3⟩
    have n1 := n1 (by omega)
    have hz3 := hd3.size; (try simp at hz3)
    have s3_0 : w.heap.size < w3.heap.size := (by omega)
    have c3_0_0 : w3.cell? ⟨w.heap.size, 0, none⟩ = some (.int .i64 0) := (hd3.cell (x := w.heap.size) (o := 0) smx (by omega)).trans kpx
    have f3_0_0 : w3.frozen? ⟨w.heap.size, 0, none⟩ = false := (hd3.frozen (x := w.heap.size) (o := 0) smx (by omega)).trans kfx
    have c3_0_1 : w3.cell? ⟨w.heap.size, 1, none⟩ = some (.int .i64 0) := (hd3.cell (x := w.heap.size) (o := 1) smx (by omega)).trans kpx
    have f3_0_1 : w3.frozen? ⟨w.heap.size, 1, none⟩ = false := (hd3.frozen (x := w.heap.size) (o := 1) smx (by omega)).trans kfx
    have c3_0_2 : w3.cell? ⟨w.heap.size, 2, none⟩ = some (.int .i64 0) := (hd3.cell (x := w.heap.size) (o := 2) smx (by omega)).trans kpx
    have f3_0_2 : w3.frozen? ⟨w.heap.size, 2, none⟩ = false := (hd3.frozen (x := w.heap.size) (o := 2) smx (by omega)).trans kfx
    have c3_0_3 : w3.cell? ⟨w.heap.size, 3, none⟩ = some (.int .i64 0) := (hd3.cell (x := w.heap.size) (o := 3) smx (by omega)).trans kpx
    have f3_0_3 : w3.frozen? ⟨w.heap.size, 3, none⟩ = false := (hd3.frozen (x := w.heap.size) (o := 3) smx (by omega)).trans kfx
    have c3_0_4 : w3.cell? ⟨w.heap.size, 4, none⟩ = some (.string ⟨#[]⟩) := (hd3.cell (x := w.heap.size) (o := 4) smx (by omega)).trans kpx
    have f3_0_4 : w3.frozen? ⟨w.heap.size, 4, none⟩ = false := (hd3.frozen (x := w.heap.size) (o := 4) smx (by omega)).trans kfx
    have c3_0_5 : w3.cell? ⟨w.heap.size, 5, none⟩ = some (.string ⟨#[]⟩) := (hd3.cell (x := w.heap.size) (o := 5) smx (by omega)).trans kpx
    have f3_0_5 : w3.frozen? ⟨w.heap.size, 5, none⟩ = false := (hd3.frozen (x := w.heap.size) (o := 5) smx (by omega)).trans kfx
    have s3_1 : w1.heap.size < w3.heap.size := (by omega)
    have c3_1_0 : w3.cell? ⟨w1.heap.size, 0, none⟩ = some (.int .i64 r.kind) := (hd3.cell (x := w1.heap.size) (o := 0) smx (by omega)).trans kpx
    have f3_1_0 : w3.frozen? ⟨w1.heap.size, 0, none⟩ = false := (hd3.frozen (x := w1.heap.size) (o := 0) smx (by omega)).trans kfx
    have c3_1_1 : w3.cell? ⟨w1.heap.size, 1, none⟩ = some (.int .i64 r.n) := (hd3.cell (x := w1.heap.size) (o := 1) smx (by omega)).trans kpx
    have f3_1_1 : w3.frozen? ⟨w1.heap.size, 1, none⟩ = false := (hd3.frozen (x := w1.heap.size) (o := 1) smx (by omega)).trans kfx
    have c3_1_2 : w3.cell? ⟨w1.heap.size, 2, none⟩ = some (.int .i64 r.uid) := (hd3.cell (x := w1.heap.size) (o := 2) smx (by omega)).trans kpx
    have f3_1_2 : w3.frozen? ⟨w1.heap.size, 2, none⟩ = false := (hd3.frozen (x := w1.heap.size) (o := 2) smx (by omega)).trans kfx
    have c3_1_3 : w3.cell? ⟨w1.heap.size, 3, none⟩ = some (.int .i64 r.flags) := (hd3.cell (x := w1.heap.size) (o := 3) smx (by omega)).trans kpx
    have f3_1_3 : w3.frozen? ⟨w1.heap.size, 3, none⟩ = false := (hd3.frozen (x := w1.heap.size) (o := 3) smx (by omega)).trans kfx
    have c3_1_4 : w3.cell? ⟨w1.heap.size, 4, none⟩ = some (.string r.name) := (hd3.cell (x := w1.heap.size) (o := 4) smx (by omega)).trans kpx
    have f3_1_4 : w3.frozen? ⟨w1.heap.size, 4, none⟩ = false := (hd3.frozen (x := w1.heap.size) (o := 4) smx (by omega)).trans kfx
    have c3_1_5 : w3.cell? ⟨w1.heap.size, 5, none⟩ = some (.string r.text) := (hd3.cell (x := w1.heap.size) (o := 5) smx (by omega)).trans kpx
    have f3_1_5 : w3.frozen? ⟨w1.heap.size, 5, none⟩ = false := (hd3.frozen (x := w1.heap.size) (o := 5) smx (by omega)).trans kfx
    go_wp2_with fail
    refine bodyPost_ret (v := .agg #[.int .i64 (n - 1), .int .i64 (r.n), .int .i64 (r.uid), .int .i64 (r.flags), .string (r.name), .string (r.text)]) (by simp [results, Tryz.results29, go_sem, *]) rfl ⟨⟨n - 1, r.n, r.uid, r.flags, r.name, r.text⟩, rfl, dtx, hn, ht⟩
  · have ev0 : (v == 0) = false := by simpa using hv0
    by_cases hv1 : v = 1
    · subst hv1
      go_wp2_with fail
      refine (l1Whole_any cb _ (hd2.cur.ext bxt)).mono ?_
      rintro e w4 ⟨n, hnw, rfl, hd4⟩
      have hz4 := hd4.size; (try simp at hz4)
      have s4_0 : w.heap.size < w4.heap.size := (by omega)
      have c4_0_0 : w4.cell? ⟨w.heap.size, 0, none⟩ = some (.int .i64 0) := (hd4.cell (x := w.heap.size) (o := 0) smx (by omega)).trans kpx
      have f4_0_0 : w4.frozen? ⟨w.heap.size, 0, none⟩ = false := (hd4.frozen (x := w.heap.size) (o := 0) smx (by omega)).trans kfx
      have c4_0_1 : w4.cell? ⟨w.heap.size, 1, none⟩ = some (.int .i64 0) := (hd4.cell (x := w.heap.size) (o := 1) smx (by omega)).trans kpx
      have f4_0_1 : w4.frozen? ⟨w.heap.size, 1, none⟩ = false := (hd4.frozen (x := w.heap.size) (o := 1) smx (by omega)).trans kfx
      have c4_0_2 : w4.cell? ⟨w.heap.size, 2, none⟩ = some (.int .i64 0) := (hd4.cell (x := w.heap.size) (o := 2) smx (by omega)).trans kpx
      have f4_0_2 : w4.frozen? ⟨w.heap.size, 2, none⟩ = false := (hd4.frozen (x := w.heap.size) (o := 2) smx (by omega)).trans kfx
      have c4_0_3 : w4.cell? ⟨w.heap.size, 3, none⟩ = some (.int .i64 0) := (hd4.cell (x := w.heap.size) (o := 3) smx (by omega)).trans kpx
      have f4_0_3 : w4.frozen? ⟨w.heap.size, 3, none⟩ = false := (hd4.frozen (x := w.heap.size) (o := 3) smx (by omega)).trans kfx
      have c4_0_4 : w4.cell? ⟨w.heap.size, 4, none⟩ = some (.string ⟨#[]⟩) := (hd4.cell (x := w.heap.size) (o := 4) smx (by omega)).trans kpx
      have f4_0_4 : w4.frozen? ⟨w.heap.size, 4, none⟩ = false := (hd4.frozen (x := w.heap.size) (o := 4) smx (by omega)).trans kfx
      have c4_0_5 : w4.cell? ⟨w.heap.size, 5, none⟩ = some (.string ⟨#[]⟩) := (hd4.cell (x := w.heap.size) (o := 5) smx (by omega)).trans kpx
      have f4_0_5 : w4.frozen? ⟨w.heap.size, 5, none⟩ = false := (hd4.frozen (x := w.heap.size) (o := 5) smx (by omega)).trans kfx
      have s4_1 : w1.heap.size < w4.heap.size := (by omega)
      have c4_1_0 : w4.cell? ⟨w1.heap.size, 0, none⟩ = some (.int .i64 r.kind) := (hd4.cell (x := w1.heap.size) (o := 0) smx (by omega)).trans kpx
      have f4_1_0 : w4.frozen? ⟨w1.heap.size, 0, none⟩ = false := (hd4.frozen (x := w1.heap.size) (o := 0) smx (by omega)).trans kfx
      have c4_1_1 : w4.cell? ⟨w1.heap.size, 1, none⟩ = some (.int .i64 r.n) := (hd4.cell (x := w1.heap.size) (o := 1) smx (by omega)).trans kpx
      have f4_1_1 : w4.frozen? ⟨w1.heap.size, 1, none⟩ = false := (hd4.frozen (x := w1.heap.size) (o := 1) smx (by omega)).trans kfx
      have c4_1_2 : w4.cell? ⟨w1.heap.size, 2, none⟩ = some (.int .i64 r.uid) := (hd4.cell (x := w1.heap.size) (o := 2) smx (by omega)).trans kpx
      have f4_1_2 : w4.frozen? ⟨w1.heap.size, 2, none⟩ = false := (hd4.frozen (x := w1.heap.size) (o := 2) smx (by omega)).trans kfx
      have c4_1_3 : w4.cell? ⟨w1.heap.size, 3, none⟩ = some (.int .i64 r.flags) := (hd4.cell (x := w1.heap.size) (o := 3) smx (by omega)).trans kpx
      have f4_1_3 : w4.frozen? ⟨w1.heap.size, 3, none⟩ = false := (hd4.frozen (x := w1.heap.size) (o := 3) smx (by omega)).trans kfx
      have c4_1_4 : w4.cell? ⟨w1.heap.size, 4, none⟩ = some (.string r.name) := (hd4.cell (x := w1.heap.size) (o := 4) smx (by omega)).trans kpx
      have f4_1_4 : w4.frozen? ⟨w1.heap.size, 4, none⟩ = false := (hd4.frozen (x := w1.heap.size) (o := 4) smx (by omega)).trans kfx
      have c4_1_5 : w4.cell? ⟨w1.heap.size, 5, none⟩ = some (.string r.text) := (hd4.cell (x := w1.heap.size) (o := 5) smx (by omega)).trans kpx
      have f4_1_5 : w4.frozen? ⟨w1.heap.size, 5, none⟩ = false := (hd4.frozen (x := w1.heap.size) (o := 5) smx (by omega)).trans kfx
      go_wp2_with fail
      refine bodyPost_ret (v := .agg #[.int .i64 (r.kind), .int .i64 (n), .int .i64 (r.uid), .int .i64 (r.flags), .string (r.name), .string (r.text)]) (by simp [results, Tryz.results29, go_sem, *]) rfl ⟨⟨r.kind, n, r.uid, r.flags, r.name, r.text⟩, rfl, dtx, hn, ht⟩
    · have ev1 : (v == 1) = false := by simpa using hv1
      by_cases hv2 : v = 2
      · subst hv2
        go_wp2_with fail
        refine (l1PickInt_any cb _ _ _ _ _ (hd2.cur.ext bxt) (Rd.lit _ _ _ _ 1 _ rfl rfl (by omega)) (by omega) (by omega) (by rfl) (fun b o e => by have hq := (hd2.cur.ext bxt).lt; simp at e; (try simp at hq); omega)).mono ?_
        rintro e w5 ⟨pk, hpk, rfl, hd5⟩
        have hz5 := hd5.size; (try simp at hz5)
        have s5_0 : w.heap.size < w5.heap.size := (by omega)
        have c5_0_0 : w5.cell? ⟨w.heap.size, 0, none⟩ = some (.int .i64 0) := (hd5.cell (x := w.heap.size) (o := 0) smx (by omega)).trans kpx
        have f5_0_0 : w5.frozen? ⟨w.heap.size, 0, none⟩ = false := (hd5.frozen (x := w.heap.size) (o := 0) smx (by omega)).trans kfx
        have c5_0_1 : w5.cell? ⟨w.heap.size, 1, none⟩ = some (.int .i64 0) := (hd5.cell (x := w.heap.size) (o := 1) smx (by omega)).trans kpx
        have f5_0_1 : w5.frozen? ⟨w.heap.size, 1, none⟩ = false := (hd5.frozen (x := w.heap.size) (o := 1) smx (by omega)).trans kfx
        have c5_0_2 : w5.cell? ⟨w.heap.size, 2, none⟩ = some (.int .i64 0) := (hd5.cell (x := w.heap.size) (o := 2) smx (by omega)).trans kpx
        have f5_0_2 : w5.frozen? ⟨w.heap.size, 2, none⟩ = false := (hd5.frozen (x := w.heap.size) (o := 2) smx (by omega)).trans kfx
        have c5_0_3 : w5.cell? ⟨w.heap.size, 3, none⟩ = some (.int .i64 0) := (hd5.cell (x := w.heap.size) (o := 3) smx (by omega)).trans kpx
        have f5_0_3 : w5.frozen? ⟨w.heap.size, 3, none⟩ = false := (hd5.frozen (x := w.heap.size) (o := 3) smx (by omega)).trans kfx
        have c5_0_4 : w5.cell? ⟨w.heap.size, 4, none⟩ = some (.string ⟨#[]⟩) := (hd5.cell (x := w.heap.size) (o := 4) smx (by omega)).trans kpx
        have f5_0_4 : w5.frozen? ⟨w.heap.size, 4, none⟩ = false := (hd5.frozen (x := w.heap.size) (o := 4) smx (by omega)).trans kfx
        have c5_0_5 : w5.cell? ⟨w.heap.size, 5, none⟩ = some (.string ⟨#[]⟩) := (hd5.cell (x := w.heap.size) (o := 5) smx (by omega)).trans kpx
        have f5_0_5 : w5.frozen? ⟨w.heap.size, 5, none⟩ = false := (hd5.frozen (x := w.heap.size) (o := 5) smx (by omega)).trans kfx
        have s5_1 : w1.heap.size < w5.heap.size := (by omega)
        have c5_1_0 : w5.cell? ⟨w1.heap.size, 0, none⟩ = some (.int .i64 r.kind) := (hd5.cell (x := w1.heap.size) (o := 0) smx (by omega)).trans kpx
        have f5_1_0 : w5.frozen? ⟨w1.heap.size, 0, none⟩ = false := (hd5.frozen (x := w1.heap.size) (o := 0) smx (by omega)).trans kfx
        have c5_1_1 : w5.cell? ⟨w1.heap.size, 1, none⟩ = some (.int .i64 r.n) := (hd5.cell (x := w1.heap.size) (o := 1) smx (by omega)).trans kpx
        have f5_1_1 : w5.frozen? ⟨w1.heap.size, 1, none⟩ = false := (hd5.frozen (x := w1.heap.size) (o := 1) smx (by omega)).trans kfx
        have c5_1_2 : w5.cell? ⟨w1.heap.size, 2, none⟩ = some (.int .i64 r.uid) := (hd5.cell (x := w1.heap.size) (o := 2) smx (by omega)).trans kpx
        have f5_1_2 : w5.frozen? ⟨w1.heap.size, 2, none⟩ = false := (hd5.frozen (x := w1.heap.size) (o := 2) smx (by omega)).trans kfx
        have c5_1_3 : w5.cell? ⟨w1.heap.size, 3, none⟩ = some (.int .i64 r.flags) := (hd5.cell (x := w1.heap.size) (o := 3) smx (by omega)).trans kpx
        have f5_1_3 : w5.frozen? ⟨w1.heap.size, 3, none⟩ = false := (hd5.frozen (x := w1.heap.size) (o := 3) smx (by omega)).trans kfx
        have c5_1_4 : w5.cell? ⟨w1.heap.size, 4, none⟩ = some (.string r.name) := (hd5.cell (x := w1.heap.size) (o := 4) smx (by omega)).trans kpx
        have f5_1_4 : w5.frozen? ⟨w1.heap.size, 4, none⟩ = false := (hd5.frozen (x := w1.heap.size) (o := 4) smx (by omega)).trans kfx
        have c5_1_5 : w5.cell? ⟨w1.heap.size, 5, none⟩ = some (.string r.text) := (hd5.cell (x := w1.heap.size) (o := 5) smx (by omega)).trans kpx
        have f5_1_5 : w5.frozen? ⟨w1.heap.size, 5, none⟩ = false := (hd5.frozen (x := w1.heap.size) (o := 5) smx (by omega)).trans kfx
        go_wp2_with fail
        refine bodyPost_ret (v := .agg #[.int .i64 (r.kind), .int .i64 (r.n), .int .i64 (pk), .int .i64 (r.flags), .string (r.name), .string (r.text)]) (by simp [results, Tryz.results29, go_sem, *]) rfl ⟨⟨r.kind, r.n, pk, r.flags, r.name, r.text⟩, rfl, dtx, hn, ht⟩
      · have ev2 : (v == 2) = false := by simpa using hv2
        by_cases hv3 : v = 3
        · subst hv3
          go_wp2_with fail
          refine (l5Bits_any cb _ (hd2.cur.ext bxt)).mono ?_
          rintro e w6 ⟨n, hn5, rfl, hd6⟩
          have hz6 := hd6.size; (try simp at hz6)
          have s6_0 : w.heap.size < w6.heap.size := (by omega)
          have c6_0_0 : w6.cell? ⟨w.heap.size, 0, none⟩ = some (.int .i64 0) := (hd6.cell (x := w.heap.size) (o := 0) smx (by omega)).trans kpx
          have f6_0_0 : w6.frozen? ⟨w.heap.size, 0, none⟩ = false := (hd6.frozen (x := w.heap.size) (o := 0) smx (by omega)).trans kfx
          have c6_0_1 : w6.cell? ⟨w.heap.size, 1, none⟩ = some (.int .i64 0) := (hd6.cell (x := w.heap.size) (o := 1) smx (by omega)).trans kpx
          have f6_0_1 : w6.frozen? ⟨w.heap.size, 1, none⟩ = false := (hd6.frozen (x := w.heap.size) (o := 1) smx (by omega)).trans kfx
          have c6_0_2 : w6.cell? ⟨w.heap.size, 2, none⟩ = some (.int .i64 0) := (hd6.cell (x := w.heap.size) (o := 2) smx (by omega)).trans kpx
          have f6_0_2 : w6.frozen? ⟨w.heap.size, 2, none⟩ = false := (hd6.frozen (x := w.heap.size) (o := 2) smx (by omega)).trans kfx
          have c6_0_3 : w6.cell? ⟨w.heap.size, 3, none⟩ = some (.int .i64 0) := (hd6.cell (x := w.heap.size) (o := 3) smx (by omega)).trans kpx
          have f6_0_3 : w6.frozen? ⟨w.heap.size, 3, none⟩ = false := (hd6.frozen (x := w.heap.size) (o := 3) smx (by omega)).trans kfx
          have c6_0_4 : w6.cell? ⟨w.heap.size, 4, none⟩ = some (.string ⟨#[]⟩) := (hd6.cell (x := w.heap.size) (o := 4) smx (by omega)).trans kpx
          have f6_0_4 : w6.frozen? ⟨w.heap.size, 4, none⟩ = false := (hd6.frozen (x := w.heap.size) (o := 4) smx (by omega)).trans kfx
          have c6_0_5 : w6.cell? ⟨w.heap.size, 5, none⟩ = some (.string ⟨#[]⟩) := (hd6.cell (x := w.heap.size) (o := 5) smx (by omega)).trans kpx
          have f6_0_5 : w6.frozen? ⟨w.heap.size, 5, none⟩ = false := (hd6.frozen (x := w.heap.size) (o := 5) smx (by omega)).trans kfx
          have s6_1 : w1.heap.size < w6.heap.size := (by omega)
          have c6_1_0 : w6.cell? ⟨w1.heap.size, 0, none⟩ = some (.int .i64 r.kind) := (hd6.cell (x := w1.heap.size) (o := 0) smx (by omega)).trans kpx
          have f6_1_0 : w6.frozen? ⟨w1.heap.size, 0, none⟩ = false := (hd6.frozen (x := w1.heap.size) (o := 0) smx (by omega)).trans kfx
          have c6_1_1 : w6.cell? ⟨w1.heap.size, 1, none⟩ = some (.int .i64 r.n) := (hd6.cell (x := w1.heap.size) (o := 1) smx (by omega)).trans kpx
          have f6_1_1 : w6.frozen? ⟨w1.heap.size, 1, none⟩ = false := (hd6.frozen (x := w1.heap.size) (o := 1) smx (by omega)).trans kfx
          have c6_1_2 : w6.cell? ⟨w1.heap.size, 2, none⟩ = some (.int .i64 r.uid) := (hd6.cell (x := w1.heap.size) (o := 2) smx (by omega)).trans kpx
          have f6_1_2 : w6.frozen? ⟨w1.heap.size, 2, none⟩ = false := (hd6.frozen (x := w1.heap.size) (o := 2) smx (by omega)).trans kfx
          have c6_1_3 : w6.cell? ⟨w1.heap.size, 3, none⟩ = some (.int .i64 r.flags) := (hd6.cell (x := w1.heap.size) (o := 3) smx (by omega)).trans kpx
          have f6_1_3 : w6.frozen? ⟨w1.heap.size, 3, none⟩ = false := (hd6.frozen (x := w1.heap.size) (o := 3) smx (by omega)).trans kfx
          have c6_1_4 : w6.cell? ⟨w1.heap.size, 4, none⟩ = some (.string r.name) := (hd6.cell (x := w1.heap.size) (o := 4) smx (by omega)).trans kpx
          have f6_1_4 : w6.frozen? ⟨w1.heap.size, 4, none⟩ = false := (hd6.frozen (x := w1.heap.size) (o := 4) smx (by omega)).trans kfx
          have c6_1_5 : w6.cell? ⟨w1.heap.size, 5, none⟩ = some (.string r.text) := (hd6.cell (x := w1.heap.size) (o := 5) smx (by omega)).trans kpx
          have f6_1_5 : w6.frozen? ⟨w1.heap.size, 5, none⟩ = false := (hd6.frozen (x := w1.heap.size) (o := 5) smx (by omega)).trans kfx
          go_wp2_with fail
          refine bodyPost_ret (v := .agg #[.int .i64 (r.kind), .int .i64 (r.n), .int .i64 (r.uid), .int .i64 (n), .string (r.name), .string (r.text)]) (by simp [results, Tryz.results29, go_sem, *]) rfl ⟨⟨r.kind, r.n, r.uid, n, r.name, r.text⟩, rfl, dtx, hn, ht⟩
        · have ev3 : (v == 3) = false := by simpa using hv3
          by_cases hv4 : v = 4
          · subst hv4
            go_wp2_with fail
            refine (l2Any_any cb _ (hd2.cur.ext bxt)).mono ?_
            rintro e w7 ⟨n, hs, rfl, hd7⟩
            have hz7 := hd7.size; (try simp at hz7)
            have s7_0 : w.heap.size < w7.heap.size := (by omega)
            have c7_0_0 : w7.cell? ⟨w.heap.size, 0, none⟩ = some (.int .i64 0) := (hd7.cell (x := w.heap.size) (o := 0) smx (by omega)).trans kpx
            have f7_0_0 : w7.frozen? ⟨w.heap.size, 0, none⟩ = false := (hd7.frozen (x := w.heap.size) (o := 0) smx (by omega)).trans kfx
            have c7_0_1 : w7.cell? ⟨w.heap.size, 1, none⟩ = some (.int .i64 0) := (hd7.cell (x := w.heap.size) (o := 1) smx (by omega)).trans kpx
            have f7_0_1 : w7.frozen? ⟨w.heap.size, 1, none⟩ = false := (hd7.frozen (x := w.heap.size) (o := 1) smx (by omega)).trans kfx
            have c7_0_2 : w7.cell? ⟨w.heap.size, 2, none⟩ = some (.int .i64 0) := (hd7.cell (x := w.heap.size) (o := 2) smx (by omega)).trans kpx
            have f7_0_2 : w7.frozen? ⟨w.heap.size, 2, none⟩ = false := (hd7.frozen (x := w.heap.size) (o := 2) smx (by omega)).trans kfx
            have c7_0_3 : w7.cell? ⟨w.heap.size, 3, none⟩ = some (.int .i64 0) := (hd7.cell (x := w.heap.size) (o := 3) smx (by omega)).trans kpx
            have f7_0_3 : w7.frozen? ⟨w.heap.size, 3, none⟩ = false := (hd7.frozen (x := w.heap.size) (o := 3) smx (by omega)).trans kfx
            have c7_0_4 : w7.cell? ⟨w.heap.size, 4, none⟩ = some (.string ⟨#[]⟩) := (hd7.cell (x := w.heap.size) (o := 4) smx (by omega)).trans kpx
            have f7_0_4 : w7.frozen? ⟨w.heap.size, 4, none⟩ = false := (hd7.frozen (x := w.heap.size) (o := 4) smx (by omega)).trans kfx
            have c7_0_5 : w7.cell? ⟨w.heap.size, 5, none⟩ = some (.string ⟨#[]⟩) := (hd7.cell (x := w.heap.size) (o := 5) smx (by omega)).trans kpx
            have f7_0_5 : w7.frozen? ⟨w.heap.size, 5, none⟩ = false := (hd7.frozen (x := w.heap.size) (o := 5) smx (by omega)).trans kfx
            have s7_1 : w1.heap.size < w7.heap.size := (by omega)
            have c7_1_0 : w7.cell? ⟨w1.heap.size, 0, none⟩ = some (.int .i64 r.kind) := (hd7.cell (x := w1.heap.size) (o := 0) smx (by omega)).trans kpx
            have f7_1_0 : w7.frozen? ⟨w1.heap.size, 0, none⟩ = false := (hd7.frozen (x := w1.heap.size) (o := 0) smx (by omega)).trans kfx
            have c7_1_1 : w7.cell? ⟨w1.heap.size, 1, none⟩ = some (.int .i64 r.n) := (hd7.cell (x := w1.heap.size) (o := 1) smx (by omega)).trans kpx
            have f7_1_1 : w7.frozen? ⟨w1.heap.size, 1, none⟩ = false := (hd7.frozen (x := w1.heap.size) (o := 1) smx (by omega)).trans kfx
            have c7_1_2 : w7.cell? ⟨w1.heap.size, 2, none⟩ = some (.int .i64 r.uid) := (hd7.cell (x := w1.heap.size) (o := 2) smx (by omega)).trans kpx
            have f7_1_2 : w7.frozen? ⟨w1.heap.size, 2, none⟩ = false := (hd7.frozen (x := w1.heap.size) (o := 2) smx (by omega)).trans kfx
            have c7_1_3 : w7.cell? ⟨w1.heap.size, 3, none⟩ = some (.int .i64 r.flags) := (hd7.cell (x := w1.heap.size) (o := 3) smx (by omega)).trans kpx
            have f7_1_3 : w7.frozen? ⟨w1.heap.size, 3, none⟩ = false := (hd7.frozen (x := w1.heap.size) (o := 3) smx (by omega)).trans kfx
            have c7_1_4 : w7.cell? ⟨w1.heap.size, 4, none⟩ = some (.string r.name) := (hd7.cell (x := w1.heap.size) (o := 4) smx (by omega)).trans kpx
            have f7_1_4 : w7.frozen? ⟨w1.heap.size, 4, none⟩ = false := (hd7.frozen (x := w1.heap.size) (o := 4) smx (by omega)).trans kfx
            have c7_1_5 : w7.cell? ⟨w1.heap.size, 5, none⟩ = some (.string r.text) := (hd7.cell (x := w1.heap.size) (o := 5) smx (by omega)).trans kpx
            have f7_1_5 : w7.frozen? ⟨w1.heap.size, 5, none⟩ = false := (hd7.frozen (x := w1.heap.size) (o := 5) smx (by omega)).trans kfx
            go_wp2_with fail
            refine bodyPost_ret (v := .agg #[.int .i64 (r.kind), .int .i64 (r.n), .int .i64 (r.uid), .int .i64 (r.flags), .string (n), .string (r.text)]) (by simp [results, Tryz.results29, go_sem, *]) rfl ⟨⟨r.kind, r.n, r.uid, r.flags, n, r.text⟩, rfl, dtx, hs, ht⟩
          · have ev4 : (v == 4) = false := by simpa using hv4
            by_cases hv5 : v = 5
            · subst hv5
              go_wp2_with fail
              refine (l1Pick_any cb _ 41 _ _ _ _ (hd2.cur.ext bxt) (Rd.lit _ _ _ _ 1 _ rfl rfl (by omega)) (by omega) (by omega) (by rfl) (fun b o e => by have hq := (hd2.cur.ext bxt).lt; simp at e; (try simp at hq); omega)).mono ?_
              rintro e w8 ⟨n, hs, rfl, hd8⟩
              have hz8 := hd8.size; (try simp at hz8)
              have s8_0 : w.heap.size < w8.heap.size := (by omega)
              have c8_0_0 : w8.cell? ⟨w.heap.size, 0, none⟩ = some (.int .i64 0) := (hd8.cell (x := w.heap.size) (o := 0) smx (by omega)).trans kpx
              have f8_0_0 : w8.frozen? ⟨w.heap.size, 0, none⟩ = false := (hd8.frozen (x := w.heap.size) (o := 0) smx (by omega)).trans kfx
              have c8_0_1 : w8.cell? ⟨w.heap.size, 1, none⟩ = some (.int .i64 0) := (hd8.cell (x := w.heap.size) (o := 1) smx (by omega)).trans kpx
              have f8_0_1 : w8.frozen? ⟨w.heap.size, 1, none⟩ = false := (hd8.frozen (x := w.heap.size) (o := 1) smx (by omega)).trans kfx
              have c8_0_2 : w8.cell? ⟨w.heap.size, 2, none⟩ = some (.int .i64 0) := (hd8.cell (x := w.heap.size) (o := 2) smx (by omega)).trans kpx
              have f8_0_2 : w8.frozen? ⟨w.heap.size, 2, none⟩ = false := (hd8.frozen (x := w.heap.size) (o := 2) smx (by omega)).trans kfx
              have c8_0_3 : w8.cell? ⟨w.heap.size, 3, none⟩ = some (.int .i64 0) := (hd8.cell (x := w.heap.size) (o := 3) smx (by omega)).trans kpx
              have f8_0_3 : w8.frozen? ⟨w.heap.size, 3, none⟩ = false := (hd8.frozen (x := w.heap.size) (o := 3) smx (by omega)).trans kfx
              have c8_0_4 : w8.cell? ⟨w.heap.size, 4, none⟩ = some (.string ⟨#[]⟩) := (hd8.cell (x := w.heap.size) (o := 4) smx (by omega)).trans kpx
              have f8_0_4 : w8.frozen? ⟨w.heap.size, 4, none⟩ = false := (hd8.frozen (x := w.heap.size) (o := 4) smx (by omega)).trans kfx
              have c8_0_5 : w8.cell? ⟨w.heap.size, 5, none⟩ = some (.string ⟨#[]⟩) := (hd8.cell (x := w.heap.size) (o := 5) smx (by omega)).trans kpx
              have f8_0_5 : w8.frozen? ⟨w.heap.size, 5, none⟩ = false := (hd8.frozen (x := w.heap.size) (o := 5) smx (by omega)).trans kfx
              have s8_1 : w1.heap.size < w8.heap.size := (by omega)
              have c8_1_0 : w8.cell? ⟨w1.heap.size, 0, none⟩ = some (.int .i64 r.kind) := (hd8.cell (x := w1.heap.size) (o := 0) smx (by omega)).trans kpx
              have f8_1_0 : w8.frozen? ⟨w1.heap.size, 0, none⟩ = false := (hd8.frozen (x := w1.heap.size) (o := 0) smx (by omega)).trans kfx
              have c8_1_1 : w8.cell? ⟨w1.heap.size, 1, none⟩ = some (.int .i64 r.n) := (hd8.cell (x := w1.heap.size) (o := 1) smx (by omega)).trans kpx
              have f8_1_1 : w8.frozen? ⟨w1.heap.size, 1, none⟩ = false := (hd8.frozen (x := w1.heap.size) (o := 1) smx (by omega)).trans kfx
              have c8_1_2 : w8.cell? ⟨w1.heap.size, 2, none⟩ = some (.int .i64 r.uid) := (hd8.cell (x := w1.heap.size) (o := 2) smx (by omega)).trans kpx
              have f8_1_2 : w8.frozen? ⟨w1.heap.size, 2, none⟩ = false := (hd8.frozen (x := w1.heap.size) (o := 2) smx (by omega)).trans kfx
              have c8_1_3 : w8.cell? ⟨w1.heap.size, 3, none⟩ = some (.int .i64 r.flags) := (hd8.cell (x := w1.heap.size) (o := 3) smx (by omega)).trans kpx
              have f8_1_3 : w8.frozen? ⟨w1.heap.size, 3, none⟩ = false := (hd8.frozen (x := w1.heap.size) (o := 3) smx (by omega)).trans kfx
              have c8_1_4 : w8.cell? ⟨w1.heap.size, 4, none⟩ = some (.string r.name) := (hd8.cell (x := w1.heap.size) (o := 4) smx (by omega)).trans kpx
              have f8_1_4 : w8.frozen? ⟨w1.heap.size, 4, none⟩ = false := (hd8.frozen (x := w1.heap.size) (o := 4) smx (by omega)).trans kfx
              have c8_1_5 : w8.cell? ⟨w1.heap.size, 5, none⟩ = some (.string r.text) := (hd8.cell (x := w1.heap.size) (o := 5) smx (by omega)).trans kpx
              have f8_1_5 : w8.frozen? ⟨w1.heap.size, 5, none⟩ = false := (hd8.frozen (x := w1.heap.size) (o := 5) smx (by omega)).trans kfx
              go_wp2_with fail
              refine bodyPost_ret (v := .agg #[.int .i64 (r.kind), .int .i64 (r.n), .int .i64 (r.uid), .int .i64 (r.flags), .string (r.name), .string (n)]) (by simp [results, Tryz.results29, go_sem, *]) rfl ⟨⟨r.kind, r.n, r.uid, r.flags, r.name, n⟩, rfl, dtx, hn, hs⟩
            · have ev5 : (v == 5) = false := by simpa using hv5
              go_wp2_with fail
              refine bodyPost_ret (v := .agg #[.int .i64 (r.kind), .int .i64 (r.n), .int .i64 (r.uid), .int .i64 (r.flags), .string (r.name), .string (r.text)]) (by simp [results, Tryz.results29, go_sem, *]) rfl ⟨⟨r.kind, r.n, r.uid, r.flags, r.name, r.text⟩, rfl, dtx, hn, ht⟩
end Go.Proofs.YtidfhkdonhjgaaaGreatDoor
