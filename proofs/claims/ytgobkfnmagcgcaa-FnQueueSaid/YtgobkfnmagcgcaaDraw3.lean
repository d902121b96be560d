/-
  The draws of notes and of queues.
-/
import Derived.Test.YtgobkfnmagcgcaaDraw2
import Derived.Test.YtgobkfnmagcgcaaWPushNote
namespace Go.Proofs.Ytgobkfnmagcgcaa
open Go.RowKit
set_option linter.unusedVariables false
set_option linter.unusedSimpArgs false

/-- a note that is drawn -/
def DrN (cb : Nat) (w : World) (e : Ending) (w' : World) : Prop := ∃ x : DNote, x.name.size ≤ 41 ∧ e = .returned (.agg #[.int .i64 x.kind, .int .i64 x.n, .int .i64 x.uid, .string x.name]) ∧ Dr cb w w'
set_option maxRecDepth 100000 in
set_option maxHeartbeats 1000000 in
theorem l16Note_any (cb : Nat) (w : World) (hc : Cur w cb) :
    Calls Try.prog 93 #[.pointer (some ⟨cb, 0, none⟩)] w (DrN cb w) := by
  have hcl := hc.lt
  have HC := Lib.hid hc
  clear hc
  go_enter Try.func93, Try.ntmps93
  go_wp2_with fail
  refine (l1Once_any cb 2 _ (HC.out.ext bxt) (by omega)).mono ?_
  rintro e w1 ⟨v, rfl, hd1⟩
  have hz1 := hd1.size; (try simp at hz1)
  have s1_0 : w.heap.size < w1.heap.size := (by omega)
  have c1_0_0 : w1.cell? ⟨w.heap.size, 0, none⟩ = some (.int .i64 0) := (hd1.cell (x := w.heap.size) (o := 0) smx (by omega)).trans kpx
  have f1_0_0 : w1.frozen? ⟨w.heap.size, 0, none⟩ = false := (hd1.frozen (x := w.heap.size) (o := 0) smx (by omega)).trans kfx
  have c1_0_1 : w1.cell? ⟨w.heap.size, 1, none⟩ = some (.int .i64 0) := (hd1.cell (x := w.heap.size) (o := 1) smx (by omega)).trans kpx
  have f1_0_1 : w1.frozen? ⟨w.heap.size, 1, none⟩ = false := (hd1.frozen (x := w.heap.size) (o := 1) smx (by omega)).trans kfx
  have c1_0_2 : w1.cell? ⟨w.heap.size, 2, none⟩ = some (.int .i64 0) := (hd1.cell (x := w.heap.size) (o := 2) smx (by omega)).trans kpx
  have f1_0_2 : w1.frozen? ⟨w.heap.size, 2, none⟩ = false := (hd1.frozen (x := w.heap.size) (o := 2) smx (by omega)).trans kfx
  have c1_0_3 : w1.cell? ⟨w.heap.size, 3, none⟩ = some (.string ⟨#[]⟩) := (hd1.cell (x := w.heap.size) (o := 3) smx (by omega)).trans kpx
  have f1_0_3 : w1.frozen? ⟨w.heap.size, 3, none⟩ = false := (hd1.frozen (x := w.heap.size) (o := 3) smx (by omega)).trans kfx
  cases v
  · skip
    go_wp2_with fail
    refine (l1Below_any cb 3 _ (hd1.cur.ext bxt) (by omega)).mono ?_
    rintro e w2 ⟨n, ⟨n0, n1, -⟩, rfl, hd2⟩
    have n1 := n1 (by omega)
    have hz2 := hd2.size; (try simp at hz2)
    have s2_0 : w.heap.size < w2.heap.size := (by omega)
    have c2_0_0 : w2.cell? ⟨w.heap.size, 0, none⟩ = some (.int .i64 0) := (hd2.cell (x := w.heap.size) (o := 0) smx (by omega)).trans kpx
    have f2_0_0 : w2.frozen? ⟨w.heap.size, 0, none⟩ = false := (hd2.frozen (x := w.heap.size) (o := 0) smx (by omega)).trans kfx
    have c2_0_1 : w2.cell? ⟨w.heap.size, 1, none⟩ = some (.int .i64 0) := (hd2.cell (x := w.heap.size) (o := 1) smx (by omega)).trans kpx
    have f2_0_1 : w2.frozen? ⟨w.heap.size, 1, none⟩ = false := (hd2.frozen (x := w.heap.size) (o := 1) smx (by omega)).trans kfx
    have c2_0_2 : w2.cell? ⟨w.heap.size, 2, none⟩ = some (.int .i64 0) := (hd2.cell (x := w.heap.size) (o := 2) smx (by omega)).trans kpx
    have f2_0_2 : w2.frozen? ⟨w.heap.size, 2, none⟩ = false := (hd2.frozen (x := w.heap.size) (o := 2) smx (by omega)).trans kfx
    have c2_0_3 : w2.cell? ⟨w.heap.size, 3, none⟩ = some (.string ⟨#[]⟩) := (hd2.cell (x := w.heap.size) (o := 3) smx (by omega)).trans kpx
    have f2_0_3 : w2.frozen? ⟨w.heap.size, 3, none⟩ = false := (hd2.frozen (x := w.heap.size) (o := 3) smx (by omega)).trans kfx
    go_wp2_with fail
    refine (l2Name_any cb _ (hd2.cur.ext bxt)).mono ?_
    rintro e w3 ⟨s, hs, rfl, hd3⟩
    have hz3 := hd3.size; (try simp at hz3)
    have s3_0 : w.heap.size < w3.heap.size := (by omega)
    have c3_0_0 : w3.cell? ⟨w.heap.size, 0, none⟩ = some (.int .i64 0) := (hd3.cell (x := w.heap.size) (o := 0) smx (by omega)).trans kpx
    have f3_0_0 : w3.frozen? ⟨w.heap.size, 0, none⟩ = false := (hd3.frozen (x := w.heap.size) (o := 0) smx (by omega)).trans kfx
    have c3_0_1 : w3.cell? ⟨w.heap.size, 1, none⟩ = some (.int .i64 0) := (hd3.cell (x := w.heap.size) (o := 1) smx (by omega)).trans kpx
    have f3_0_1 : w3.frozen? ⟨w.heap.size, 1, none⟩ = false := (hd3.frozen (x := w.heap.size) (o := 1) smx (by omega)).trans kfx
    have c3_0_2 : w3.cell? ⟨w.heap.size, 2, none⟩ = some (.int .i64 0) := (hd3.cell (x := w.heap.size) (o := 2) smx (by omega)).trans kpx
    have f3_0_2 : w3.frozen? ⟨w.heap.size, 2, none⟩ = false := (hd3.frozen (x := w.heap.size) (o := 2) smx (by omega)).trans kfx
    have c3_0_3 : w3.cell? ⟨w.heap.size, 3, none⟩ = some (.string ⟨#[]⟩) := (hd3.cell (x := w.heap.size) (o := 3) smx (by omega)).trans kpx
    have f3_0_3 : w3.frozen? ⟨w.heap.size, 3, none⟩ = false := (hd3.frozen (x := w.heap.size) (o := 3) smx (by omega)).trans kfx
    go_wp2_with fail
    refine bodyPost_ret (v := .agg #[.int .i64 (2 + n), .int .i64 0, .int .i64 0, .string s]) (by simp [results, Try.results93, go_sem, *]) rfl ⟨⟨2 + n, 0, 0, s⟩, by show s.size ≤ 41; omega, rfl, dtx⟩
  · skip
    go_wp2_with fail
    refine (l1Below_any cb 30 _ (hd1.cur.ext bxt) (by omega)).mono ?_
    rintro e w4 ⟨n, ⟨n0, n1, -⟩, rfl, hd4⟩
    have n1 := n1 (by omega)
    have hz4 := hd4.size; (try simp at hz4)
    have s4_0 : w.heap.size < w4.heap.size := (by omega)
    have c4_0_0 : w4.cell? ⟨w.heap.size, 0, none⟩ = some (.int .i64 0) := (hd4.cell (x := w.heap.size) (o := 0) smx (by omega)).trans kpx
    have f4_0_0 : w4.frozen? ⟨w.heap.size, 0, none⟩ = false := (hd4.frozen (x := w.heap.size) (o := 0) smx (by omega)).trans kfx
    have c4_0_1 : w4.cell? ⟨w.heap.size, 1, none⟩ = some (.int .i64 0) := (hd4.cell (x := w.heap.size) (o := 1) smx (by omega)).trans kpx
    have f4_0_1 : w4.frozen? ⟨w.heap.size, 1, none⟩ = false := (hd4.frozen (x := w.heap.size) (o := 1) smx (by omega)).trans kfx
    have c4_0_2 : w4.cell? ⟨w.heap.size, 2, none⟩ = some (.int .i64 0) := (hd4.cell (x := w.heap.size) (o := 2) smx (by omega)).trans kpx
    have f4_0_2 : w4.frozen? ⟨w.heap.size, 2, none⟩ = false := (hd4.frozen (x := w.heap.size) (o := 2) smx (by omega)).trans kfx
    have c4_0_3 : w4.cell? ⟨w.heap.size, 3, none⟩ = some (.string ⟨#[]⟩) := (hd4.cell (x := w.heap.size) (o := 3) smx (by omega)).trans kpx
    have f4_0_3 : w4.frozen? ⟨w.heap.size, 3, none⟩ = false := (hd4.frozen (x := w.heap.size) (o := 3) smx (by omega)).trans kfx
    go_wp2_with fail
    refine (l1Below_any cb 3 _ (hd4.cur.ext bxt) (by omega)).mono ?_
    rintro e w5 ⟨m, ⟨m0, m1, -⟩, rfl, hd5⟩
    have m1 := m1 (by omega)
    have hz5 := hd5.size; (try simp at hz5)
    have s5_0 : w.heap.size < w5.heap.size := (by omega)
    have c5_0_0 : w5.cell? ⟨w.heap.size, 0, none⟩ = some (.int .i64 0) := (hd5.cell (x := w.heap.size) (o := 0) smx (by omega)).trans kpx
    have f5_0_0 : w5.frozen? ⟨w.heap.size, 0, none⟩ = false := (hd5.frozen (x := w.heap.size) (o := 0) smx (by omega)).trans kfx
    have c5_0_1 : w5.cell? ⟨w.heap.size, 1, none⟩ = some (.int .i64 0) := (hd5.cell (x := w.heap.size) (o := 1) smx (by omega)).trans kpx
    have f5_0_1 : w5.frozen? ⟨w.heap.size, 1, none⟩ = false := (hd5.frozen (x := w.heap.size) (o := 1) smx (by omega)).trans kfx
    have c5_0_2 : w5.cell? ⟨w.heap.size, 2, none⟩ = some (.int .i64 0) := (hd5.cell (x := w.heap.size) (o := 2) smx (by omega)).trans kpx
    have f5_0_2 : w5.frozen? ⟨w.heap.size, 2, none⟩ = false := (hd5.frozen (x := w.heap.size) (o := 2) smx (by omega)).trans kfx
    have c5_0_3 : w5.cell? ⟨w.heap.size, 3, none⟩ = some (.string ⟨#[]⟩) := (hd5.cell (x := w.heap.size) (o := 3) smx (by omega)).trans kpx
    have f5_0_3 : w5.frozen? ⟨w.heap.size, 3, none⟩ = false := (hd5.frozen (x := w.heap.size) (o := 3) smx (by omega)).trans kfx
    go_wp2_with fail
    refine bodyPost_ret (v := .agg #[.int .i64 1, .int .i64 n, .int .i64 m, .string ⟨#[]⟩]) (by simp [results, Try.results93, go_sem, *]) rfl ⟨⟨1, n, m, ⟨#[]⟩⟩, by show (⟨#[]⟩ : ByteArray).size ≤ 41; decide, rfl, dtx⟩
set_option maxRecDepth 100000 in
set_option maxHeartbeats 1000000 in
theorem l16Note2_any (cb : Nat) (w : World) (hc : Cur w cb) :
    Calls Try.prog 51 #[.pointer (some ⟨cb, 0, none⟩)] w (DrN cb w) := by
  have hcl := hc.lt
  have HC := Lib.hid hc
  clear hc
  go_enter Try.func51, Try.ntmps51
  go_wp2_with fail
  refine (l16Note_any cb _ (HC.out.ext bxt)).mono ?_
  rintro e w1 ⟨x, hx, rfl, hd1⟩
  have hz1 := hd1.size; (try simp at hz1)
  have s1_0 : w.heap.size < w1.heap.size := (by omega)
  have c1_0_0 : w1.cell? ⟨w.heap.size, 0, none⟩ = some (.int .i64 0) := (hd1.cell (x := w.heap.size) (o := 0) smx (by omega)).trans kpx
  have f1_0_0 : w1.frozen? ⟨w.heap.size, 0, none⟩ = false := (hd1.frozen (x := w.heap.size) (o := 0) smx (by omega)).trans kfx
  have c1_0_1 : w1.cell? ⟨w.heap.size, 1, none⟩ = some (.int .i64 0) := (hd1.cell (x := w.heap.size) (o := 1) smx (by omega)).trans kpx
  have f1_0_1 : w1.frozen? ⟨w.heap.size, 1, none⟩ = false := (hd1.frozen (x := w.heap.size) (o := 1) smx (by omega)).trans kfx
  have c1_0_2 : w1.cell? ⟨w.heap.size, 2, none⟩ = some (.int .i64 0) := (hd1.cell (x := w.heap.size) (o := 2) smx (by omega)).trans kpx
  have f1_0_2 : w1.frozen? ⟨w.heap.size, 2, none⟩ = false := (hd1.frozen (x := w.heap.size) (o := 2) smx (by omega)).trans kfx
  have c1_0_3 : w1.cell? ⟨w.heap.size, 3, none⟩ = some (.string ⟨#[]⟩) := (hd1.cell (x := w.heap.size) (o := 3) smx (by omega)).trans kpx
  have f1_0_3 : w1.frozen? ⟨w.heap.size, 3, none⟩ = false := (hd1.frozen (x := w.heap.size) (o := 3) smx (by omega)).trans kfx
  go_wp2_with fail
  refine (l1Below_any cb 10 _ (hd1.cur.ext bxt) (by omega)).mono ?_
  rintro e w2 ⟨v, ⟨v0, v1, -⟩, rfl, hd2⟩
  have v1 := v1 (by omega)
  have hz2 := hd2.size; (try simp at hz2)
  have s2_0 : w.heap.size < w2.heap.size := (by omega)
  have c2_0_0 : w2.cell? ⟨w.heap.size, 0, none⟩ = some (.int .i64 0) := (hd2.cell (x := w.heap.size) (o := 0) smx (by omega)).trans kpx
  have f2_0_0 : w2.frozen? ⟨w.heap.size, 0, none⟩ = false := (hd2.frozen (x := w.heap.size) (o := 0) smx (by omega)).trans kfx
  have c2_0_1 : w2.cell? ⟨w.heap.size, 1, none⟩ = some (.int .i64 0) := (hd2.cell (x := w.heap.size) (o := 1) smx (by omega)).trans kpx
  have f2_0_1 : w2.frozen? ⟨w.heap.size, 1, none⟩ = false := (hd2.frozen (x := w.heap.size) (o := 1) smx (by omega)).trans kfx
  have c2_0_2 : w2.cell? ⟨w.heap.size, 2, none⟩ = some (.int .i64 0) := (hd2.cell (x := w.heap.size) (o := 2) smx (by omega)).trans kpx
  have f2_0_2 : w2.frozen? ⟨w.heap.size, 2, none⟩ = false := (hd2.frozen (x := w.heap.size) (o := 2) smx (by omega)).trans kfx
  have c2_0_3 : w2.cell? ⟨w.heap.size, 3, none⟩ = some (.string ⟨#[]⟩) := (hd2.cell (x := w.heap.size) (o := 3) smx (by omega)).trans kpx
  have f2_0_3 : w2.frozen? ⟨w.heap.size, 3, none⟩ = false := (hd2.frozen (x := w.heap.size) (o := 3) smx (by omega)).trans kfx
  have s2_1 : w1.heap.size < w2.heap.size := (by omega)
  have c2_1_0 : w2.cell? ⟨w1.heap.size, 0, none⟩ = some (.int .i64 x.kind) := (hd2.cell (x := w1.heap.size) (o := 0) smx (by omega)).trans kpx
  have f2_1_0 : w2.frozen? ⟨w1.heap.size, 0, none⟩ = false := (hd2.frozen (x := w1.heap.size) (o := 0) smx (by omega)).trans kfx
  have c2_1_1 : w2.cell? ⟨w1.heap.size, 1, none⟩ = some (.int .i64 x.n) := (hd2.cell (x := w1.heap.size) (o := 1) smx (by omega)).trans kpx
  have f2_1_1 : w2.frozen? ⟨w1.heap.size, 1, none⟩ = false := (hd2.frozen (x := w1.heap.size) (o := 1) smx (by omega)).trans kfx
  have c2_1_2 : w2.cell? ⟨w1.heap.size, 2, none⟩ = some (.int .i64 x.uid) := (hd2.cell (x := w1.heap.size) (o := 2) smx (by omega)).trans kpx
  have f2_1_2 : w2.frozen? ⟨w1.heap.size, 2, none⟩ = false := (hd2.frozen (x := w1.heap.size) (o := 2) smx (by omega)).trans kfx
  have c2_1_3 : w2.cell? ⟨w1.heap.size, 3, none⟩ = some (.string x.name) := (hd2.cell (x := w1.heap.size) (o := 3) smx (by omega)).trans kpx
  have f2_1_3 : w2.frozen? ⟨w1.heap.size, 3, none⟩ = false := (hd2.frozen (x := w1.heap.size) (o := 3) smx (by omega)).trans kfx
  by_cases hv0 : v = 0
  · subst hv0
    go_wp2_with fail
    refine (l1Below_any cb 7 _ (hd2.cur.ext bxt) (by omega)).mono ?_
    rintro e w3 ⟨n, ⟨n0, n1, -⟩, rfl, hd3⟩
    have n1 := n1 (by omega)
    have hz3 := hd3.size; (try simp at hz3)
    have s3_0 : w.heap.size < w3.heap.size := (by omega)
    have c3_0_0 : w3.cell? ⟨w.heap.size, 0, none⟩ = some (.int .i64 0) := (hd3.cell (x := w.heap.size) (o := 0) smx (by omega)).trans kpx
    have f3_0_0 : w3.frozen? ⟨w.heap.size, 0, none⟩ = false := (hd3.frozen (x := w.heap.size) (o := 0) smx (by omega)).trans kfx
    have c3_0_1 : w3.cell? ⟨w.heap.size, 1, none⟩ = some (.int .i64 0) := (hd3.cell (x := w.heap.size) (o := 1) smx (by omega)).trans kpx
    have f3_0_1 : w3.frozen? ⟨w.heap.size, 1, none⟩ = false := (hd3.frozen (x := w.heap.size) (o := 1) smx (by omega)).trans kfx
    have c3_0_2 : w3.cell? ⟨w.heap.size, 2, none⟩ = some (.int .i64 0) := (hd3.cell (x := w.heap.size) (o := 2) smx (by omega)).trans kpx
    have f3_0_2 : w3.frozen? ⟨w.heap.size, 2, none⟩ = false := (hd3.frozen (x := w.heap.size) (o := 2) smx (by omega)).trans kfx
    have c3_0_3 : w3.cell? ⟨w.heap.size, 3, none⟩ = some (.string ⟨#[]⟩) := (hd3.cell (x := w.heap.size) (o := 3) smx (by omega)).trans kpx
    have f3_0_3 : w3.frozen? ⟨w.heap.size, 3, none⟩ = false := (hd3.frozen (x := w.heap.size) (o := 3) smx (by omega)).trans kfx
    have s3_1 : w1.heap.size < w3.heap.size := (by omega)
    have c3_1_0 : w3.cell? ⟨w1.heap.size, 0, none⟩ = some (.int .i64 x.kind) := (hd3.cell (x := w1.heap.size) (o := 0) smx (by omega)).trans kpx
    have f3_1_0 : w3.frozen? ⟨w1.heap.size, 0, none⟩ = false := (hd3.frozen (x := w1.heap.size) (o := 0) smx (by omega)).trans kfx
    have c3_1_1 : w3.cell? ⟨w1.heap.size, 1, none⟩ = some (.int .i64 x.n) := (hd3.cell (x := w1.heap.size) (o := 1) smx (by omega)).trans kpx
    have f3_1_1 : w3.frozen? ⟨w1.heap.size, 1, none⟩ = false := (hd3.frozen (x := w1.heap.size) (o := 1) smx (by omega)).trans kfx
    have c3_1_2 : w3.cell? ⟨w1.heap.size, 2, none⟩ = some (.int .i64 x.uid) := (hd3.cell (x := w1.heap.size) (o := 2) smx (by omega)).trans kpx
    have f3_1_2 : w3.frozen? ⟨w1.heap.size, 2, none⟩ = false := (hd3.frozen (x := w1.heap.size) (o := 2) smx (by omega)).trans kfx
    have c3_1_3 : w3.cell? ⟨w1.heap.size, 3, none⟩ = some (.string x.name) := (hd3.cell (x := w1.heap.size) (o := 3) smx (by omega)).trans kpx
    have f3_1_3 : w3.frozen? ⟨w1.heap.size, 3, none⟩ = false := (hd3.frozen (x := w1.heap.size) (o := 3) smx (by omega)).trans kfx
    go_wp2_with fail
    refine bodyPost_ret (v := .agg #[.int .i64 (n - 1), .int .i64 (x.n), .int .i64 (x.uid), .string (x.name)]) (by simp [results, Try.results51, go_sem, *]) rfl ⟨⟨n - 1, x.n, x.uid, x.name⟩, hx, rfl, dtx⟩
  · have ev0 : (v == 0) = false := by simpa using hv0
    by_cases hv1 : v = 1
    · subst hv1
      go_wp2_with fail
      refine (l1PickInt_any cb _ _ _ _ _ (hd2.cur.ext bxt) (Rd.lit _ _ _ _ 1 _ rfl rfl (by omega)) (by omega) (by omega) (by rfl) (fun b o e => by have hq := (hd2.cur.ext bxt).lt; simp at e; (try simp at hq); omega)).mono ?_
      rintro e w4 ⟨n, hn, rfl, hd4⟩
      have hz4 := hd4.size; (try simp at hz4)
      have s4_0 : w.heap.size < w4.heap.size := (by omega)
      have c4_0_0 : w4.cell? ⟨w.heap.size, 0, none⟩ = some (.int .i64 0) := (hd4.cell (x := w.heap.size) (o := 0) smx (by omega)).trans kpx
      have f4_0_0 : w4.frozen? ⟨w.heap.size, 0, none⟩ = false := (hd4.frozen (x := w.heap.size) (o := 0) smx (by omega)).trans kfx
      have c4_0_1 : w4.cell? ⟨w.heap.size, 1, none⟩ = some (.int .i64 0) := (hd4.cell (x := w.heap.size) (o := 1) smx (by omega)).trans kpx
      have f4_0_1 : w4.frozen? ⟨w.heap.size, 1, none⟩ = false := (hd4.frozen (x := w.heap.size) (o := 1) smx (by omega)).trans kfx
      have c4_0_2 : w4.cell? ⟨w.heap.size, 2, none⟩ = some (.int .i64 0) := (hd4.cell (x := w.heap.size) (o := 2) smx (by omega)).trans kpx
      have f4_0_2 : w4.frozen? ⟨w.heap.size, 2, none⟩ = false := (hd4.frozen (x := w.heap.size) (o := 2) smx (by omega)).trans kfx
      have c4_0_3 : w4.cell? ⟨w.heap.size, 3, none⟩ = some (.string ⟨#[]⟩) := (hd4.cell (x := w.heap.size) (o := 3) smx (by omega)).trans kpx
      have f4_0_3 : w4.frozen? ⟨w.heap.size, 3, none⟩ = false := (hd4.frozen (x := w.heap.size) (o := 3) smx (by omega)).trans kfx
      have s4_1 : w1.heap.size < w4.heap.size := (by omega)
      have c4_1_0 : w4.cell? ⟨w1.heap.size, 0, none⟩ = some (.int .i64 x.kind) := (hd4.cell (x := w1.heap.size) (o := 0) smx (by omega)).trans kpx
      have f4_1_0 : w4.frozen? ⟨w1.heap.size, 0, none⟩ = false := (hd4.frozen (x := w1.heap.size) (o := 0) smx (by omega)).trans kfx
      have c4_1_1 : w4.cell? ⟨w1.heap.size, 1, none⟩ = some (.int .i64 x.n) := (hd4.cell (x := w1.heap.size) (o := 1) smx (by omega)).trans kpx
      have f4_1_1 : w4.frozen? ⟨w1.heap.size, 1, none⟩ = false := (hd4.frozen (x := w1.heap.size) (o := 1) smx (by omega)).trans kfx
      have c4_1_2 : w4.cell? ⟨w1.heap.size, 2, none⟩ = some (.int .i64 x.uid) := (hd4.cell (x := w1.heap.size) (o := 2) smx (by omega)).trans kpx
      have f4_1_2 : w4.frozen? ⟨w1.heap.size, 2, none⟩ = false := (hd4.frozen (x := w1.heap.size) (o := 2) smx (by omega)).trans kfx
      have c4_1_3 : w4.cell? ⟨w1.heap.size, 3, none⟩ = some (.string x.name) := (hd4.cell (x := w1.heap.size) (o := 3) smx (by omega)).trans kpx
      have f4_1_3 : w4.frozen? ⟨w1.heap.size, 3, none⟩ = false := (hd4.frozen (x := w1.heap.size) (o := 3) smx (by omega)).trans kfx
      go_wp2_with fail
      refine bodyPost_ret (v := .agg #[.int .i64 (x.kind), .int .i64 (n), .int .i64 (x.uid), .string (x.name)]) (by simp [results, Try.results51, go_sem, *]) rfl ⟨⟨x.kind, n, x.uid, x.name⟩, hx, rfl, dtx⟩
    · have ev1 : (v == 1) = false := by simpa using hv1
      by_cases hv2 : v = 2
      · subst hv2
        go_wp2_with fail
        refine (l1PickInt_any cb _ _ _ _ _ (hd2.cur.ext bxt) (Rd.lit _ _ _ _ 1 _ rfl rfl (by omega)) (by omega) (by omega) (by rfl) (fun b o e => by have hq := (hd2.cur.ext bxt).lt; simp at e; (try simp at hq); omega)).mono ?_
        rintro e w5 ⟨n, hn, rfl, hd5⟩
        have hz5 := hd5.size; (try simp at hz5)
        have s5_0 : w.heap.size < w5.heap.size := (by omega)
        have c5_0_0 : w5.cell? ⟨w.heap.size, 0, none⟩ = some (.int .i64 0) := (hd5.cell (x := w.heap.size) (o := 0) smx (by omega)).trans kpx
        have f5_0_0 : w5.frozen? ⟨w.heap.size, 0, none⟩ = false := (hd5.frozen (x := w.heap.size) (o := 0) smx (by omega)).trans kfx
        have c5_0_1 : w5.cell? ⟨w.heap.size, 1, none⟩ = some (.int .i64 0) := (hd5.cell (x := w.heap.size) (o := 1) smx (by omega)).trans kpx
        have f5_0_1 : w5.frozen? ⟨w.heap.size, 1, none⟩ = false := (hd5.frozen (x := w.heap.size) (o := 1) smx (by omega)).trans kfx
        have c5_0_2 : w5.cell? ⟨w.heap.size, 2, none⟩ = some (.int .i64 0) := (hd5.cell (x := w.heap.size) (o := 2) smx (by omega)).trans kpx
        have f5_0_2 : w5.frozen? ⟨w.heap.size, 2, none⟩ = false := (hd5.frozen (x := w.heap.size) (o := 2) smx (by omega)).trans kfx
        have c5_0_3 : w5.cell? ⟨w.heap.size, 3, none⟩ = some (.string ⟨#[]⟩) := (hd5.cell (x := w.heap.size) (o := 3) smx (by omega)).trans kpx
        have f5_0_3 : w5.frozen? ⟨w.heap.size, 3, none⟩ = false := (hd5.frozen (x := w.heap.size) (o := 3) smx (by omega)).trans kfx
        have s5_1 : w1.heap.size < w5.heap.size := (by omega)
        have c5_1_0 : w5.cell? ⟨w1.heap.size, 0, none⟩ = some (.int .i64 x.kind) := (hd5.cell (x := w1.heap.size) (o := 0) smx (by omega)).trans kpx
        have f5_1_0 : w5.frozen? ⟨w1.heap.size, 0, none⟩ = false := (hd5.frozen (x := w1.heap.size) (o := 0) smx (by omega)).trans kfx
        have c5_1_1 : w5.cell? ⟨w1.heap.size, 1, none⟩ = some (.int .i64 x.n) := (hd5.cell (x := w1.heap.size) (o := 1) smx (by omega)).trans kpx
        have f5_1_1 : w5.frozen? ⟨w1.heap.size, 1, none⟩ = false := (hd5.frozen (x := w1.heap.size) (o := 1) smx (by omega)).trans kfx
        have c5_1_2 : w5.cell? ⟨w1.heap.size, 2, none⟩ = some (.int .i64 x.uid) := (hd5.cell (x := w1.heap.size) (o := 2) smx (by omega)).trans kpx
        have f5_1_2 : w5.frozen? ⟨w1.heap.size, 2, none⟩ = false := (hd5.frozen (x := w1.heap.size) (o := 2) smx (by omega)).trans kfx
        have c5_1_3 : w5.cell? ⟨w1.heap.size, 3, none⟩ = some (.string x.name) := (hd5.cell (x := w1.heap.size) (o := 3) smx (by omega)).trans kpx
        have f5_1_3 : w5.frozen? ⟨w1.heap.size, 3, none⟩ = false := (hd5.frozen (x := w1.heap.size) (o := 3) smx (by omega)).trans kfx
        go_wp2_with fail
        refine bodyPost_ret (v := .agg #[.int .i64 (x.kind), .int .i64 (x.n), .int .i64 (n), .string (x.name)]) (by simp [results, Try.results51, go_sem, *]) rfl ⟨⟨x.kind, x.n, n, x.name⟩, hx, rfl, dtx⟩
      · have ev2 : (v == 2) = false := by simpa using hv2
        go_wp2_with fail
        refine bodyPost_ret (v := .agg #[.int .i64 (x.kind), .int .i64 (x.n), .int .i64 (x.uid), .string (x.name)]) (by simp [results, Try.results51, go_sem, *]) rfl ⟨⟨x.kind, x.n, x.uid, x.name⟩, hx, rfl, dtx⟩
theorem pushQ_mem (l : List DNote) (rb rc : Bool) (n : DNote) : ∀ y ∈ (pushQ l rb rc n).notes, y ∈ l ∨ y = n := by
  unfold pushQ
  intro y hy
  repeat' split at hy
  all_goals first | exact Or.inl hy | (rcases List.mem_or_eq_of_mem_set hy with h | h; exact Or.inl h; exact Or.inr h) | exact Or.inl (List.mem_filter.1 hy).1 | (rcases List.mem_append.1 hy with h | h; exact Or.inl h; exact Or.inr (by simpa using h))
/-- a queue that is drawn -/
def DrQ (M : Nat) (cb : Nat) (w : World) (e : Ending) (w' : World) : Prop := ∃ (g : Option Addr) (q : Nat) (l : List DNote) (rb rc : Bool), l.length ≤ M ∧ (∀ y ∈ l, y.name.size ≤ 41) ∧ e = .returned (.agg #[.slice g l.length q, .bool rb, .bool rc]) ∧ Own w' w.heap.size 36 4 (.slice g l.length q) l.length (l.flatMap DNote.cells) ∧ Dr cb w w'
def QRel (cb : Nat) (n : Int) (w : World) (i : Value) (wr : World) : Prop :=
  ∃ (k : Nat) (g : Option Addr) (q : Nat) (l : List DNote) (rb rc : Bool), (k : Int) ≤ n ∧ i = .int .i64 k ∧ l.length ≤ k ∧ Hid (∀ y ∈ l, y.name.size ≤ 41) ∧ Hid (Bx wr (w.heap.size + 1) [.slice g l.length q, .bool rb, .bool rc]) ∧ Hid (Bx wr w.heap.size [.slice none 0 0, .bool false, .bool false]) ∧ Hid (Own wr (w.heap.size + 2) 36 4 (.slice g l.length q) l.length (l.flatMap DNote.cells)) ∧ Dr cb w wr ∧ w.heap.size + 2 ≤ wr.heap.size
theorem QRel.next {cb k B q : Nat} {n : Int} {w w3 : World} {g : Option Addr} {l : List DNote} {rb rc : Bool} {cs : List Value} (hk : (k : Int) < n) (hl : l.length ≤ k + 1) (hm : ∀ y ∈ l, y.name.size ≤ 41) (hb : Bx w3 (w.heap.size + 1) cs) (hc : cs.length = 3) (hr : Bx w3 w.heap.size [.slice none 0 0, .bool false, .bool false])
    (ho : Own w3 B 36 4 (.slice g l.length q) l.length (l.flatMap DNote.cells)) (hB : w.heap.size + 2 ≤ B) (hd : Dr cb w w3) (hs : w.heap.size + 2 ≤ w3.heap.size) : QRel cb n w (.int .i64 ((k : Int) + 1)) (putW w3 (w.heap.size + 1) 0 [.slice g l.length q, .bool rb, .bool rc]) :=
  ⟨k + 1, g, q, l, rb, rc, by omega, by simp, hl, hm, hb.put _ (by simp [hc]), hr.putn _ _ (by omega), Own.putB (by omega) _ _ _ (ho.le hB), Dr.putW (by omega) _ _ _ hd, by rw [putW_size]; exact hs⟩
set_option maxRecDepth 100000 in
set_option maxHeartbeats 1000000 in
theorem l16Right_any (cb : Nat) (w : World) (hc : Cur w cb) :
    Calls Try.prog 92 #[.pointer (some ⟨cb, 0, none⟩)] w (DrQ 10 cb w) := by
  have hcl := hc.lt
  have HC := Lib.hid hc
  clear hc
  go_enter Try.func92, Try.ntmps92
  go_wp2_with fail
  refine (l1Below_any cb 10 _ (HC.out.ext bxt) (by omega)).mono ?_
  rintro e w1 ⟨n, ⟨n0, n1, -⟩, rfl, hd1⟩
  have n1 := n1 (by omega)
  have hz1 := hd1.size; (try simp at hz1)
  have s1_0 : w.heap.size < w1.heap.size := (by omega)
  have c1_0_0 : w1.cell? ⟨w.heap.size, 0, none⟩ = some (.slice none 0 0) := (hd1.cell (x := w.heap.size) (o := 0) smx (by omega)).trans kpx
  have f1_0_0 : w1.frozen? ⟨w.heap.size, 0, none⟩ = false := (hd1.frozen (x := w.heap.size) (o := 0) smx (by omega)).trans kfx
  have c1_0_1 : w1.cell? ⟨w.heap.size, 1, none⟩ = some (.bool false) := (hd1.cell (x := w.heap.size) (o := 1) smx (by omega)).trans kpx
  have f1_0_1 : w1.frozen? ⟨w.heap.size, 1, none⟩ = false := (hd1.frozen (x := w.heap.size) (o := 1) smx (by omega)).trans kfx
  have c1_0_2 : w1.cell? ⟨w.heap.size, 2, none⟩ = some (.bool false) := (hd1.cell (x := w.heap.size) (o := 2) smx (by omega)).trans kpx
  have f1_0_2 : w1.frozen? ⟨w.heap.size, 2, none⟩ = false := (hd1.frozen (x := w.heap.size) (o := 2) smx (by omega)).trans kfx
  have s1_1 : w.heap.size + 1 < w1.heap.size := (by omega)
  have c1_1_0 : w1.cell? ⟨w.heap.size + 1, 0, none⟩ = some (.slice none 0 0) := (hd1.cell (x := w.heap.size + 1) (o := 0) smx (by omega)).trans kpx
  have f1_1_0 : w1.frozen? ⟨w.heap.size + 1, 0, none⟩ = false := (hd1.frozen (x := w.heap.size + 1) (o := 0) smx (by omega)).trans kfx
  have c1_1_1 : w1.cell? ⟨w.heap.size + 1, 1, none⟩ = some (.bool false) := (hd1.cell (x := w.heap.size + 1) (o := 1) smx (by omega)).trans kpx
  have f1_1_1 : w1.frozen? ⟨w.heap.size + 1, 1, none⟩ = false := (hd1.frozen (x := w.heap.size + 1) (o := 1) smx (by omega)).trans kfx
  have c1_1_2 : w1.cell? ⟨w.heap.size + 1, 2, none⟩ = some (.bool false) := (hd1.cell (x := w.heap.size + 1) (o := 2) smx (by omega)).trans kpx
  have f1_1_2 : w1.frozen? ⟨w.heap.size + 1, 2, none⟩ = false := (hd1.frozen (x := w.heap.size + 1) (o := 2) smx (by omega)).trans kfx
  have HB0 : Hid (Bx w1 w.heap.size [.slice none 0 0, .bool false, .bool false]) := (Bx.ext (Bx.mk rfl _ rfl) bxt).dr hd1 (by omega)
  have HB1 : Hid (Bx w1 (w.heap.size + 1) [.slice none 0 0, .bool false, .bool false]) := (Bx.ext (Bx.mk (heap_alloc_size _ _) _ rfl) bxt).dr hd1 (by omega)
  have hdw : Dr cb w w1 := dtx
  clear hd1 c1_0_0 f1_0_0 c1_0_1 f1_0_1 c1_0_2 f1_0_2 c1_1_0 f1_1_0 c1_1_1 f1_1_1 c1_1_2 f1_1_2
  go_wp2_with fail
  go_loopw [5] (QRel cb n w) (fun i _ => (n - intOf i).toNat)
  case atStart => exact ⟨0, none, 0, [], false, false, n0, rfl, by simp, by simp [Hid], HB1.out, HB0.out, Own.none0 _, hdw, by omega⟩
  case round =>
    obtain ⟨k, g, q, l, rb, rc, hk, rfl, hl, HM, HQ, HZ, HO, hd, hsz⟩ := hrel
    clear hdw HB0 HB1
    have HCR := Lib.hid hd.cur
    obtain ⟨cq0, fq0⟩ := HQ.out.at 0 _ rfl
    obtain ⟨cq1, fq1⟩ := HQ.out.at 1 _ rfl
    obtain ⟨cq2, fq2⟩ := HQ.out.at 2 _ rfl
    obtain ⟨cz0, fz0⟩ := HZ.out.at 0 _ rfl
    obtain ⟨cz1, fz1⟩ := HZ.out.at 1 _ rfl
    obtain ⟨cz2, fz2⟩ := HZ.out.at 2 _ rfl
    by_cases hlt : (k : Int) < n
    · skip
      go_wp2_with fail
      refine (l16Note_any cb _ (hd.cur)).mono ?_
      rintro e w2 ⟨x, hx, rfl, hd2⟩
      have hz2 := hd2.size; (try simp at hz2)
      have s2_0 : w.heap.size < w2.heap.size := (by omega)
      have c2_0_0 : w2.cell? ⟨w.heap.size, 0, none⟩ = some (.slice none 0 0) := (hd2.cell (x := w.heap.size) (o := 0) smx (by omega)).trans kpx
      have f2_0_0 : w2.frozen? ⟨w.heap.size, 0, none⟩ = false := (hd2.frozen (x := w.heap.size) (o := 0) smx (by omega)).trans kfx
      have c2_0_1 : w2.cell? ⟨w.heap.size, 1, none⟩ = some (.bool false) := (hd2.cell (x := w.heap.size) (o := 1) smx (by omega)).trans kpx
      have f2_0_1 : w2.frozen? ⟨w.heap.size, 1, none⟩ = false := (hd2.frozen (x := w.heap.size) (o := 1) smx (by omega)).trans kfx
      have c2_0_2 : w2.cell? ⟨w.heap.size, 2, none⟩ = some (.bool false) := (hd2.cell (x := w.heap.size) (o := 2) smx (by omega)).trans kpx
      have f2_0_2 : w2.frozen? ⟨w.heap.size, 2, none⟩ = false := (hd2.frozen (x := w.heap.size) (o := 2) smx (by omega)).trans kfx
      have s2_1 : w.heap.size + 1 < w2.heap.size := (by omega)
      have c2_1_0 : w2.cell? ⟨w.heap.size + 1, 0, none⟩ = some (.slice g l.length q) := (hd2.cell (x := w.heap.size + 1) (o := 0) smx (by omega)).trans kpx
      have f2_1_0 : w2.frozen? ⟨w.heap.size + 1, 0, none⟩ = false := (hd2.frozen (x := w.heap.size + 1) (o := 0) smx (by omega)).trans kfx
      have c2_1_1 : w2.cell? ⟨w.heap.size + 1, 1, none⟩ = some (.bool rb) := (hd2.cell (x := w.heap.size + 1) (o := 1) smx (by omega)).trans kpx
      have f2_1_1 : w2.frozen? ⟨w.heap.size + 1, 1, none⟩ = false := (hd2.frozen (x := w.heap.size + 1) (o := 1) smx (by omega)).trans kfx
      have c2_1_2 : w2.cell? ⟨w.heap.size + 1, 2, none⟩ = some (.bool rc) := (hd2.cell (x := w.heap.size + 1) (o := 2) smx (by omega)).trans kpx
      have f2_1_2 : w2.frozen? ⟨w.heap.size + 1, 2, none⟩ = false := (hd2.frozen (x := w.heap.size + 1) (o := 2) smx (by omega)).trans kfx
      by_cases hk1 : x.kind = 1
      · have ek : (x.kind == 1) = true := by simpa using hk1
        have HK := Lib.hid hk1; clear hk1
        go_wp2_with fail
        refine (l1Once_any cb 4 _ (hd2.cur.ext bxt) (by omega)).mono ?_
        rintro e w3 ⟨v, rfl, hd3⟩
        have hz3 := hd3.size; (try simp at hz3)
        have s3_0 : w.heap.size < w3.heap.size := (by omega)
        have c3_0_0 : w3.cell? ⟨w.heap.size, 0, none⟩ = some (.slice none 0 0) := (hd3.cell (x := w.heap.size) (o := 0) smx (by omega)).trans kpx
        have f3_0_0 : w3.frozen? ⟨w.heap.size, 0, none⟩ = false := (hd3.frozen (x := w.heap.size) (o := 0) smx (by omega)).trans kfx
        have c3_0_1 : w3.cell? ⟨w.heap.size, 1, none⟩ = some (.bool false) := (hd3.cell (x := w.heap.size) (o := 1) smx (by omega)).trans kpx
        have f3_0_1 : w3.frozen? ⟨w.heap.size, 1, none⟩ = false := (hd3.frozen (x := w.heap.size) (o := 1) smx (by omega)).trans kfx
        have c3_0_2 : w3.cell? ⟨w.heap.size, 2, none⟩ = some (.bool false) := (hd3.cell (x := w.heap.size) (o := 2) smx (by omega)).trans kpx
        have f3_0_2 : w3.frozen? ⟨w.heap.size, 2, none⟩ = false := (hd3.frozen (x := w.heap.size) (o := 2) smx (by omega)).trans kfx
        have s3_1 : w.heap.size + 1 < w3.heap.size := (by omega)
        have c3_1_0 : w3.cell? ⟨w.heap.size + 1, 0, none⟩ = some (.slice g l.length q) := (hd3.cell (x := w.heap.size + 1) (o := 0) smx (by omega)).trans kpx
        have f3_1_0 : w3.frozen? ⟨w.heap.size + 1, 0, none⟩ = false := (hd3.frozen (x := w.heap.size + 1) (o := 0) smx (by omega)).trans kfx
        have c3_1_1 : w3.cell? ⟨w.heap.size + 1, 1, none⟩ = some (.bool rb) := (hd3.cell (x := w.heap.size + 1) (o := 1) smx (by omega)).trans kpx
        have f3_1_1 : w3.frozen? ⟨w.heap.size + 1, 1, none⟩ = false := (hd3.frozen (x := w.heap.size + 1) (o := 1) smx (by omega)).trans kfx
        have c3_1_2 : w3.cell? ⟨w.heap.size + 1, 2, none⟩ = some (.bool rc) := (hd3.cell (x := w.heap.size + 1) (o := 2) smx (by omega)).trans kpx
        have f3_1_2 : w3.frozen? ⟨w.heap.size + 1, 2, none⟩ = false := (hd3.frozen (x := w.heap.size + 1) (o := 2) smx (by omega)).trans kfx
        have s3_2 : w2.heap.size < w3.heap.size := (by omega)
        have c3_2_0 : w3.cell? ⟨w2.heap.size, 0, none⟩ = some (.int .i64 x.kind) := (hd3.cell (x := w2.heap.size) (o := 0) smx (by omega)).trans kpx
        have f3_2_0 : w3.frozen? ⟨w2.heap.size, 0, none⟩ = false := (hd3.frozen (x := w2.heap.size) (o := 0) smx (by omega)).trans kfx
        have c3_2_1 : w3.cell? ⟨w2.heap.size, 1, none⟩ = some (.int .i64 x.n) := (hd3.cell (x := w2.heap.size) (o := 1) smx (by omega)).trans kpx
        have f3_2_1 : w3.frozen? ⟨w2.heap.size, 1, none⟩ = false := (hd3.frozen (x := w2.heap.size) (o := 1) smx (by omega)).trans kfx
        have c3_2_2 : w3.cell? ⟨w2.heap.size, 2, none⟩ = some (.int .i64 x.uid) := (hd3.cell (x := w2.heap.size) (o := 2) smx (by omega)).trans kpx
        have f3_2_2 : w3.frozen? ⟨w2.heap.size, 2, none⟩ = false := (hd3.frozen (x := w2.heap.size) (o := 2) smx (by omega)).trans kfx
        have c3_2_3 : w3.cell? ⟨w2.heap.size, 3, none⟩ = some (.string x.name) := (hd3.cell (x := w2.heap.size) (o := 3) smx (by omega)).trans kpx
        have f3_2_3 : w3.frozen? ⟨w2.heap.size, 3, none⟩ = false := (hd3.frozen (x := w2.heap.size) (o := 3) smx (by omega)).trans kfx
        cases v
        · skip
          have hnm := pushQ_mem l rb rc ⟨x.kind, (k : Int) * 3, x.uid, x.name⟩; have hln := pushQ_len l rb rc ⟨x.kind, (k : Int) * 3, x.uid, x.name⟩; have HNM := Lib.hid hnm; clear hnm
          go_wp2_with fail
          with_reducible refine (specPushNote_any l g q rb rc ⟨x.kind, (k : Int) * 3, x.uid, x.name⟩ _ (Rd.of_Own (HO.out.dr (cb := cb) dtx (by omega))) (by omega) (fun y hy => by have := HM.out y hy; omega) (by show x.name.size ≤ _; omega) _ (Lib.hid rfl) _ (Lib.hid rfl) _ (Lib.hid rfl)).mono ?_
          rintro e w4 ⟨g2, q2, rfl, hown, hb4⟩
          have hdq : Dr cb wr w4 := dtx
          have hdt : Dr cb w w4 := hd.trans hdq
          have hzt := hb4.size; (try simp at hzt)
          have HBQ : Hid (Bx w4 (w.heap.size + 1) [.slice g l.length q, .bool rb, .bool rc]) := HQ.out.dr hdq (by omega)
          have HBZ : Hid (Bx w4 w.heap.size [.slice none 0 0, .bool false, .bool false]) := HZ.out.dr hdq (by omega)
          have HN := Lib.hid (QRel.next (rb := (pushQ l rb rc ⟨x.kind, (k : Int) * 3, x.uid, x.name⟩).resync) (rc := (pushQ l rb rc ⟨x.kind, (k : Int) * 3, x.uid, x.name⟩).lost) hlt (by omega) (fun y hy => by rcases HNM.out y hy with h | h; exact HM.out y h; rw [h]; exact hx) HBQ.out rfl HBZ.out hown smx hdt (by omega))
          obtain ⟨ct0, ft0⟩ := HBQ.out.at 0 _ rfl
          obtain ⟨ct1, ft1⟩ := HBQ.out.at 1 _ rfl
          obtain ⟨ct2, ft2⟩ := HBQ.out.at 2 _ rfl
          have hst : w.heap.size + 1 < w4.heap.size := by omega
          clear hown
          go_wp2_with fail
          go_roundw
          case rel => exact HN.out
          case measure => simp [intOf]; omega
        · skip
          have hnm := pushQ_mem l rb rc ⟨x.kind, x.n, x.uid, x.name⟩; have hln := pushQ_len l rb rc ⟨x.kind, x.n, x.uid, x.name⟩; have HNM := Lib.hid hnm; clear hnm
          go_wp2_with fail
          with_reducible refine (specPushNote_any l g q rb rc ⟨x.kind, x.n, x.uid, x.name⟩ _ (Rd.of_Own (HO.out.dr (cb := cb) dtx (by omega))) (by omega) (fun y hy => by have := HM.out y hy; omega) (by show x.name.size ≤ _; omega) _ (Lib.hid rfl) _ (Lib.hid rfl) _ (Lib.hid rfl)).mono ?_
          rintro e w5 ⟨g2, q2, rfl, hown, hb5⟩
          have hdq : Dr cb wr w5 := dtx
          have hdt : Dr cb w w5 := hd.trans hdq
          have hzt := hb5.size; (try simp at hzt)
          have HBQ : Hid (Bx w5 (w.heap.size + 1) [.slice g l.length q, .bool rb, .bool rc]) := HQ.out.dr hdq (by omega)
          have HBZ : Hid (Bx w5 w.heap.size [.slice none 0 0, .bool false, .bool false]) := HZ.out.dr hdq (by omega)
          have HN := Lib.hid (QRel.next (rb := (pushQ l rb rc ⟨x.kind, x.n, x.uid, x.name⟩).resync) (rc := (pushQ l rb rc ⟨x.kind, x.n, x.uid, x.name⟩).lost) hlt (by omega) (fun y hy => by rcases HNM.out y hy with h | h; exact HM.out y h; rw [h]; exact hx) HBQ.out rfl HBZ.out hown smx hdt (by omega))
          obtain ⟨ct0, ft0⟩ := HBQ.out.at 0 _ rfl
          obtain ⟨ct1, ft1⟩ := HBQ.out.at 1 _ rfl
          obtain ⟨ct2, ft2⟩ := HBQ.out.at 2 _ rfl
          have hst : w.heap.size + 1 < w5.heap.size := by omega
          clear hown
          go_wp2_with fail
          go_roundw
          case rel => exact HN.out
          case measure => simp [intOf]; omega
      · have ek : (x.kind == 1) = false := by simpa using hk1
        have HK := Lib.hid hk1; clear hk1
        have hnm := pushQ_mem l rb rc ⟨x.kind, x.n, x.uid, x.name⟩; have hln := pushQ_len l rb rc ⟨x.kind, x.n, x.uid, x.name⟩; have HNM := Lib.hid hnm; clear hnm
        go_wp2_with fail
        with_reducible refine (specPushNote_any l g q rb rc ⟨x.kind, x.n, x.uid, x.name⟩ _ (Rd.of_Own (HO.out.dr (cb := cb) dtx (by omega))) (by omega) (fun y hy => by have := HM.out y hy; omega) (by show x.name.size ≤ _; omega) _ (Lib.hid rfl) _ (Lib.hid rfl) _ (Lib.hid rfl)).mono ?_
        rintro e w6 ⟨g2, q2, rfl, hown, hb6⟩
        have hdq : Dr cb wr w6 := dtx
        have hdt : Dr cb w w6 := hd.trans hdq
        have hzt := hb6.size; (try simp at hzt)
        have HBQ : Hid (Bx w6 (w.heap.size + 1) [.slice g l.length q, .bool rb, .bool rc]) := HQ.out.dr hdq (by omega)
        have HBZ : Hid (Bx w6 w.heap.size [.slice none 0 0, .bool false, .bool false]) := HZ.out.dr hdq (by omega)
        have HN := Lib.hid (QRel.next (rb := (pushQ l rb rc ⟨x.kind, x.n, x.uid, x.name⟩).resync) (rc := (pushQ l rb rc ⟨x.kind, x.n, x.uid, x.name⟩).lost) hlt (by omega) (fun y hy => by rcases HNM.out y hy with h | h; exact HM.out y h; rw [h]; exact hx) HBQ.out rfl HBZ.out hown smx hdt (by omega))
        obtain ⟨ct0, ft0⟩ := HBQ.out.at 0 _ rfl
        obtain ⟨ct1, ft1⟩ := HBQ.out.at 1 _ rfl
        obtain ⟨ct2, ft2⟩ := HBQ.out.at 2 _ rfl
        have hst : w.heap.size + 1 < w6.heap.size := by omega
        clear hown
        go_wp2_with fail
        go_roundw
        case rel => exact HN.out
        case measure => simp [intOf]; omega
    · skip
      go_wp2_with fail
      refine bodyPost_ret (v := .agg #[.slice g l.length q, .bool rb, .bool rc]) (by simp [results, Try.results92, go_sem, *]) rfl ⟨g, q, l, rb, rc, by omega, HM.out, rfl, ?_, dtx⟩
      exact Own.putB (b := w.heap.size) (B := w.heap.size + 1) (by omega) [_, _, _] _ _ (HO.out.le (by omega)) |>.le (by omega)
end Go.Proofs.Ytgobkfnmagcgcaa
