/-
  The draw of a queue that is turned a little.
-/
import Derived.Test.YtgobkfnmagcgcaaDraw3
import Derived.Deep.RegionLaw
namespace Go.Proofs.Ytgobkfnmagcgcaa
open Go.RowKit
set_option linter.unusedVariables false
set_option linter.unusedSimpArgs false

theorem names_app {l : List DNote} {x : DNote} (h : ∀ y ∈ l, y.name.size ≤ 41) (hx : x.name.size ≤ 41) : ∀ y ∈ l ++ [x], y.name.size ≤ 41 := fun y hy => by
  rcases List.mem_append.1 hy with hy | hy
  · exact h y hy
  · rw [List.mem_singleton.1 hy]; exact hx
theorem names_set {l : List DNote} {x : DNote} (k : Nat) (h : ∀ y ∈ l, y.name.size ≤ 41) (hx : x.name.size ≤ 41) : ∀ y ∈ l.set k x, y.name.size ≤ 41 := fun y hy => by
  rcases List.mem_or_eq_of_mem_set hy with hy | hy
  · exact h y hy
  · rw [hy]; exact hx
set_option maxRecDepth 100000 in
set_option maxHeartbeats 1000000 in
theorem l16Bent_any (cb : Nat) (w : World) (hc : Cur w cb) :
    Calls Try.prog 50 #[.pointer (some ⟨cb, 0, none⟩)] w (DrQ 11 cb w) := by
  obtain ⟨i0, hi, hy0, hy1, hy2⟩ := info_parts info_Note
  have hcl := hc.lt
  have HC := Lib.hid hc
  clear hc
  go_enter Try.func50, Try.ntmps50
  go_wp2_with fail
  refine (l16Right_any cb _ (HC.out.ext bxt)).mono ?_
  rintro e w1 ⟨g, q, l, rb, rc, hl, hm, rfl, ho, hd1⟩
  have hz1 := hd1.size; (try simp at hz1)
  have s1_0 : w.heap.size < w1.heap.size := (by omega)
  have c1_0_0 : w1.cell? ⟨w.heap.size, 0, none⟩ = some (.slice none 0 0) := (hd1.cell (x := w.heap.size) (o := 0) smx (by omega)).trans kpx
  have f1_0_0 : w1.frozen? ⟨w.heap.size, 0, none⟩ = false := (hd1.frozen (x := w.heap.size) (o := 0) smx (by omega)).trans kfx
  have c1_0_1 : w1.cell? ⟨w.heap.size, 1, none⟩ = some (.bool false) := (hd1.cell (x := w.heap.size) (o := 1) smx (by omega)).trans kpx
  have f1_0_1 : w1.frozen? ⟨w.heap.size, 1, none⟩ = false := (hd1.frozen (x := w.heap.size) (o := 1) smx (by omega)).trans kfx
  have c1_0_2 : w1.cell? ⟨w.heap.size, 2, none⟩ = some (.bool false) := (hd1.cell (x := w.heap.size) (o := 2) smx (by omega)).trans kpx
  have f1_0_2 : w1.frozen? ⟨w.heap.size, 2, none⟩ = false := (hd1.frozen (x := w.heap.size) (o := 2) smx (by omega)).trans kfx
  have HM := Lib.hid hm; have HO := Lib.hid (ho.le (B' := w.heap.size + 1) (by simp)); clear hm ho
  go_wp2_with fail
  refine (l1Below_any cb 8 _ (hd1.cur.ext bxt) (by omega)).mono ?_
  rintro e w2 ⟨v, ⟨v0, v1, -⟩, rfl, hd2⟩
  have v1 := v1 (by omega)
  have hz2 := hd2.size; (try simp at hz2)
  have s2_0 : w.heap.size < w2.heap.size := (by omega)
  have c2_0_0 : w2.cell? ⟨w.heap.size, 0, none⟩ = some (.slice none 0 0) := (hd2.cell (x := w.heap.size) (o := 0) smx (by omega)).trans kpx
  have f2_0_0 : w2.frozen? ⟨w.heap.size, 0, none⟩ = false := (hd2.frozen (x := w.heap.size) (o := 0) smx (by omega)).trans kfx
  have c2_0_1 : w2.cell? ⟨w.heap.size, 1, none⟩ = some (.bool false) := (hd2.cell (x := w.heap.size) (o := 1) smx (by omega)).trans kpx
  have f2_0_1 : w2.frozen? ⟨w.heap.size, 1, none⟩ = false := (hd2.frozen (x := w.heap.size) (o := 1) smx (by omega)).trans kfx
  have c2_0_2 : w2.cell? ⟨w.heap.size, 2, none⟩ = some (.bool false) := (hd2.cell (x := w.heap.size) (o := 2) smx (by omega)).trans kpx
  have f2_0_2 : w2.frozen? ⟨w.heap.size, 2, none⟩ = false := (hd2.frozen (x := w.heap.size) (o := 2) smx (by omega)).trans kfx
  have s2_1 : w1.heap.size < w2.heap.size := (by omega)
  have c2_1_0 : w2.cell? ⟨w1.heap.size, 0, none⟩ = some (.slice g l.length q) := (hd2.cell (x := w1.heap.size) (o := 0) smx (by omega)).trans kpx
  have f2_1_0 : w2.frozen? ⟨w1.heap.size, 0, none⟩ = false := (hd2.frozen (x := w1.heap.size) (o := 0) smx (by omega)).trans kfx
  have c2_1_1 : w2.cell? ⟨w1.heap.size, 1, none⟩ = some (.bool rb) := (hd2.cell (x := w1.heap.size) (o := 1) smx (by omega)).trans kpx
  have f2_1_1 : w2.frozen? ⟨w1.heap.size, 1, none⟩ = false := (hd2.frozen (x := w1.heap.size) (o := 1) smx (by omega)).trans kfx
  have c2_1_2 : w2.cell? ⟨w1.heap.size, 2, none⟩ = some (.bool rc) := (hd2.cell (x := w1.heap.size) (o := 2) smx (by omega)).trans kpx
  have f2_1_2 : w2.frozen? ⟨w1.heap.size, 2, none⟩ = false := (hd2.frozen (x := w1.heap.size) (o := 2) smx (by omega)).trans kfx
  have HCR := Lib.hid hd1.cur; have hdo : Dr cb w1 w2 := dtx; have HCS := Lib.hid hd2.cur; have HO2 := Lib.hid (HO.out.dr hdo (by omega)); have n1 := HO.out.ne_ge (b := w1.heap.size) (Nat.le_refl _)
  by_cases hv0 : v = 0
  · subst hv0
    go_wp2_with fail
    go_region_law ((first | (go_simp; go_at_call 93; refine (l16Note_any cb _ (hd2.cur.ext bxt)).mono ?_; rintro e w3 ⟨x, hx, rfl, hd3⟩; have hz3 := hd3.size; (try simp at hz3); have s3_0 : w.heap.size < w3.heap.size := (by omega); have c3_0_0 : w3.cell? ⟨w.heap.size, 0, none⟩ = some (.slice none 0 0) := (hd3.cell (x := w.heap.size) (o := 0) smx (by omega)).trans kpx; have f3_0_0 : w3.frozen? ⟨w.heap.size, 0, none⟩ = false := (hd3.frozen (x := w.heap.size) (o := 0) smx (by omega)).trans kfx; have c3_0_1 : w3.cell? ⟨w.heap.size, 1, none⟩ = some (.bool false) := (hd3.cell (x := w.heap.size) (o := 1) smx (by omega)).trans kpx; have f3_0_1 : w3.frozen? ⟨w.heap.size, 1, none⟩ = false := (hd3.frozen (x := w.heap.size) (o := 1) smx (by omega)).trans kfx; have c3_0_2 : w3.cell? ⟨w.heap.size, 2, none⟩ = some (.bool false) := (hd3.cell (x := w.heap.size) (o := 2) smx (by omega)).trans kpx; have f3_0_2 : w3.frozen? ⟨w.heap.size, 2, none⟩ = false := (hd3.frozen (x := w.heap.size) (o := 2) smx (by omega)).trans kfx; have s3_1 : w1.heap.size < w3.heap.size := (by omega); have c3_1_0 : w3.cell? ⟨w1.heap.size, 0, none⟩ = some (.slice g l.length q) := (hd3.cell (x := w1.heap.size) (o := 0) smx (by omega)).trans kpx; have f3_1_0 : w3.frozen? ⟨w1.heap.size, 0, none⟩ = false := (hd3.frozen (x := w1.heap.size) (o := 0) smx (by omega)).trans kfx; have c3_1_1 : w3.cell? ⟨w1.heap.size, 1, none⟩ = some (.bool rb) := (hd3.cell (x := w1.heap.size) (o := 1) smx (by omega)).trans kpx; have f3_1_1 : w3.frozen? ⟨w1.heap.size, 1, none⟩ = false := (hd3.frozen (x := w1.heap.size) (o := 1) smx (by omega)).trans kfx; have c3_1_2 : w3.cell? ⟨w1.heap.size, 2, none⟩ = some (.bool rc) := (hd3.cell (x := w1.heap.size) (o := 2) smx (by omega)).trans kpx; have f3_1_2 : w3.frozen? ⟨w1.heap.size, 2, none⟩ = false := (hd3.frozen (x := w1.heap.size) (o := 2) smx (by omega)).trans kfx) | (refine step_appL (B := w.heap.size + 1) (v := .slice g l.length q) rfl (.tmp 11) (.tmp 14) 32 rfl i0 _ _ Try.underlying32 hi hy0 hy1 hy2 rfl (by decide) (by simp [Act.eval, Act.put]) (HO.out.dr (cb := cb) (Dr.trans hdo dtx) (by omega)) (some ⟨w3.heap.size, 0, none⟩) 1 1 x.cells (by simp [Act.eval, Act.put]) (Rd.lit _ _ _ _ 4 _ (by simp) rfl (by omega)) (DNote.one x) (by omega) (by omega) smx ?_; intro g2 q2 w4 hown hg hwl; have n0 := HO.out.ne_lt (b := w.heap.size) (by omega); have n1 := HO.out.ne_ge (b := w1.heap.size) (Nat.le_refl _); have nn1 : foot (.slice g2 (l.length + 1) q2) ≠ some w1.heap.size := (fun e => by rcases hwl _ e with h | h; exact n1 h; (try simp at h); omega); have HW := Lib.hid hown; have hdg : Dr cb w w4 := Dr.grown (b := _) dtx hg (fun k hk => (Nat.le_trans (Nat.le_succ _) (HO.out.lt k hk).1)); clear hown hwl; have s4_0 : w.heap.size < w4.heap.size := (by have hss := hg.size; first | omega | (simp at hss; omega)); have c4_0_0 : w4.cell? ⟨w.heap.size, 0, none⟩ = some (.slice none 0 0) := grown_cell hg kpx n0; have f4_0_0 : w4.frozen? ⟨w.heap.size, 0, none⟩ = false := grown_frz hg smx kfx n0; have c4_0_1 : w4.cell? ⟨w.heap.size, 1, none⟩ = some (.bool false) := grown_cell hg kpx n0; have f4_0_1 : w4.frozen? ⟨w.heap.size, 1, none⟩ = false := grown_frz hg smx kfx n0; have c4_0_2 : w4.cell? ⟨w.heap.size, 2, none⟩ = some (.bool false) := grown_cell hg kpx n0; have f4_0_2 : w4.frozen? ⟨w.heap.size, 2, none⟩ = false := grown_frz hg smx kfx n0; have s4_1 : w1.heap.size < w4.heap.size := (by have hss := hg.size; first | omega | (simp at hss; omega)); have c4_1_0 : w4.cell? ⟨w1.heap.size, 0, none⟩ = some (.slice g l.length q) := grown_cell hg kpx n1; have f4_1_0 : w4.frozen? ⟨w1.heap.size, 0, none⟩ = false := grown_frz hg smx kfx n1; have c4_1_1 : w4.cell? ⟨w1.heap.size, 1, none⟩ = some (.bool rb) := grown_cell hg kpx n1; have f4_1_1 : w4.frozen? ⟨w1.heap.size, 1, none⟩ = false := grown_frz hg smx kfx n1; have c4_1_2 : w4.cell? ⟨w1.heap.size, 2, none⟩ = some (.bool rc) := grown_cell hg kpx n1; have f4_1_2 : w4.frozen? ⟨w1.heap.size, 2, none⟩ = false := grown_frz hg smx kfx n1)))
    all_goals go_wp2_with fail
    all_goals refine bodyPost_ret (v := .agg #[.slice g2 (l.length + 1) q2, .bool rb, .bool rc]) (by simp [results, Try.results50, go_sem, *]) rfl ⟨g2, q2, l ++ [x], rb, rc, by simp; omega, names_app HM.out hx, by simp, ?_, ?_⟩
    all_goals first | (simp only [List.length_append, List.length_cons, List.length_nil, List.flatMap_append, List.flatMap_cons, List.flatMap_nil, List.append_nil, Nat.zero_add]; refine Own.le (B := w.heap.size + 1) ?_ (by omega); exact (by repeat' (first | with_reducible exact HW.out | with_reducible refine Own.set_below ?_ smx _ | with_reducible refine Own.set_off ?_ (by with_reducible exact nn1) _ | with_reducible refine Own.alloc1 ?_ _ | with_reducible refine Own.drew1 ?_ | with_reducible refine Own.drewN1 ?_ | with_reducible refine Own.ext ?_ (by assumption)))) | skip
    all_goals exact dtx
  · have ev0 : (v == 0) = false := by simpa using hv0
    by_cases hv1 : v = 1
    · subst hv1
      go_wp2_with fail
      refine bodyPost_ret (v := .agg #[.slice g l.length q, .bool (!rb), .bool rc]) (by simp [results, Try.results50, go_sem, *]) rfl ⟨g, q, l, (!rb), rc, by omega, HM.out, rfl, ?_, dtx⟩
      refine Own.le (B := w.heap.size + 1) ?_ (by omega); exact (by repeat' (first | with_reducible exact HO2.out | with_reducible refine Own.set_below ?_ smx _ | with_reducible refine Own.set_off ?_ (by with_reducible exact n1) _ | with_reducible refine Own.alloc1 ?_ _ | with_reducible refine Own.drew1 ?_ | with_reducible refine Own.drewN1 ?_ | with_reducible refine Own.ext ?_ (by assumption)))
    · have ev1 : (v == 1) = false := by simpa using hv1
      by_cases hv2 : v = 2
      · subst hv2
        go_wp2_with fail
        refine bodyPost_ret (v := .agg #[.slice g l.length q, .bool rb, .bool (!rc)]) (by simp [results, Try.results50, go_sem, *]) rfl ⟨g, q, l, rb, (!rc), by omega, HM.out, rfl, ?_, dtx⟩
        refine Own.le (B := w.heap.size + 1) ?_ (by omega); exact (by repeat' (first | with_reducible exact HO2.out | with_reducible refine Own.set_below ?_ smx _ | with_reducible refine Own.set_off ?_ (by with_reducible exact n1) _ | with_reducible refine Own.alloc1 ?_ _ | with_reducible refine Own.drew1 ?_ | with_reducible refine Own.drewN1 ?_ | with_reducible refine Own.ext ?_ (by assumption)))
      · have ev2 : (v == 2) = false := by simpa using hv2
        by_cases hv3 : v = 3
        · subst hv3
          by_cases hlen : 0 < l.length
          · have hlen2 : (0 : Int) < (l.length : Int) := by omega
            obtain ⟨g0, rfl, -⟩ := HO.out.row (by have := HO.out.cap; omega)
            have hq0 : q ≠ 0 := by have := HO.out.cap; omega
            obtain ⟨hg1, hg2⟩ : w.heap.size + 1 ≤ g0 ∧ g0 < w1.heap.size := HO.out.lt g0 (by simp [foot, hq0])
            have HL := Lib.hid hlen; clear hlen
            go_wp2_with fail
            have HSET : ∀ s : ByteArray, (l.flatMap DNote.cells).set 3 (.string s) = (l.set 0 ⟨l[0].kind, l[0].n, l[0].uid, s⟩).flatMap DNote.cells := fun s => by
              have := flat_set1 DNote.cells_len l 0 3 (by omega) (by omega) (.string s) ⟨l[0].kind, l[0].n, l[0].uid, s⟩ rfl
              simpa using this
            have HSET2 := Lib.hid HSET; clear HSET
            go_region_law (((go_simp; go_at_call 94; refine (l2Any_any cb _ (hd2.cur.ext bxt)).mono ?_; rintro e w5 ⟨s, hs, rfl, hd5⟩; have hz5 := hd5.size; (try simp at hz5); have s5_0 : w.heap.size < w5.heap.size := (by omega); have c5_0_0 : w5.cell? ⟨w.heap.size, 0, none⟩ = some (.slice none 0 0) := (hd5.cell (x := w.heap.size) (o := 0) smx (by omega)).trans kpx; have f5_0_0 : w5.frozen? ⟨w.heap.size, 0, none⟩ = false := (hd5.frozen (x := w.heap.size) (o := 0) smx (by omega)).trans kfx; have c5_0_1 : w5.cell? ⟨w.heap.size, 1, none⟩ = some (.bool false) := (hd5.cell (x := w.heap.size) (o := 1) smx (by omega)).trans kpx; have f5_0_1 : w5.frozen? ⟨w.heap.size, 1, none⟩ = false := (hd5.frozen (x := w.heap.size) (o := 1) smx (by omega)).trans kfx; have c5_0_2 : w5.cell? ⟨w.heap.size, 2, none⟩ = some (.bool false) := (hd5.cell (x := w.heap.size) (o := 2) smx (by omega)).trans kpx; have f5_0_2 : w5.frozen? ⟨w.heap.size, 2, none⟩ = false := (hd5.frozen (x := w.heap.size) (o := 2) smx (by omega)).trans kfx; have s5_1 : w1.heap.size < w5.heap.size := (by omega); have c5_1_0 : w5.cell? ⟨w1.heap.size, 0, none⟩ = some (.slice (some ⟨g0, 0, none⟩) l.length q) := (hd5.cell (x := w1.heap.size) (o := 0) smx (by omega)).trans kpx; have f5_1_0 : w5.frozen? ⟨w1.heap.size, 0, none⟩ = false := (hd5.frozen (x := w1.heap.size) (o := 0) smx (by omega)).trans kfx; have c5_1_1 : w5.cell? ⟨w1.heap.size, 1, none⟩ = some (.bool rb) := (hd5.cell (x := w1.heap.size) (o := 1) smx (by omega)).trans kpx; have f5_1_1 : w5.frozen? ⟨w1.heap.size, 1, none⟩ = false := (hd5.frozen (x := w1.heap.size) (o := 1) smx (by omega)).trans kfx; have c5_1_2 : w5.cell? ⟨w1.heap.size, 2, none⟩ = some (.bool rc) := (hd5.cell (x := w1.heap.size) (o := 2) smx (by omega)).trans kpx; have f5_1_2 : w5.frozen? ⟨w1.heap.size, 2, none⟩ = false := (hd5.frozen (x := w1.heap.size) (o := 2) smx (by omega)).trans kfx; have hdz : Dr cb w1 w5 := Dr.trans hdo (Dr.trans (Dr.drew (Dr.refl HCS.out)) hd5); have HOZ := Lib.hid (HO.out.dr hdz (by omega)); obtain ⟨⟨u3, hu3⟩, hf3⟩ := HOZ.out.slot 3 (by omega); have hgz : g0 < w5.heap.size := (by omega))))
            all_goals have hset := HSET2.out s
            all_goals go_wp2_with fail
            all_goals refine bodyPost_ret (v := .agg #[.slice (some ⟨g0, 0, none⟩) l.length q, .bool rb, .bool rc]) (by simp [results, Try.results50, go_sem, *]) rfl ⟨some ⟨g0, 0, none⟩, q, l.set 0 ⟨l[0].kind, l[0].n, l[0].uid, s⟩, rb, rc, by simp; omega, names_set 0 HM.out (by show s.size ≤ 41; omega), by simp, ?_, ?_⟩
            all_goals first | (rw [List.length_set]; refine Own.le (B := w.heap.size + 1) ?_ (by omega); exact (by repeat' (first | with_reducible exact HOZ.out | with_reducible refine Own.set_below ?_ smx _ | with_reducible refine Own.put1 ?_ hq0 hset | with_reducible refine Own.alloc1 ?_ _ | with_reducible refine Own.drew1 ?_ | with_reducible refine Own.drewN1 ?_ | with_reducible refine Own.ext ?_ (by assumption)))) | skip
            all_goals exact dtx
          · have hlen2 : decide ((0 : Int) < (l.length : Int)) = false := decide_eq_false (by omega); have hlen3 : decide (0 < l.length) = false := decide_eq_false hlen
            go_wp2_with fail
            refine bodyPost_ret (v := .agg #[.slice g l.length q, .bool rb, .bool rc]) (by simp [results, Try.results50, go_sem, *]) rfl ⟨g, q, l, rb, rc, by omega, HM.out, rfl, ?_, dtx⟩
            refine Own.le (B := w.heap.size + 1) ?_ (by omega); exact (by repeat' (first | with_reducible exact HO2.out | with_reducible refine Own.set_below ?_ smx _ | with_reducible refine Own.set_off ?_ (by with_reducible exact n1) _ | with_reducible refine Own.alloc1 ?_ _ | with_reducible refine Own.drew1 ?_ | with_reducible refine Own.drewN1 ?_ | with_reducible refine Own.ext ?_ (by assumption)))
        · have ev3 : (v == 3) = false := by simpa using hv3
          go_wp2_with fail
          refine bodyPost_ret (v := .agg #[.slice g l.length q, .bool rb, .bool rc]) (by simp [results, Try.results50, go_sem, *]) rfl ⟨g, q, l, rb, rc, by omega, HM.out, rfl, ?_, dtx⟩
          refine Own.le (B := w.heap.size + 1) ?_ (by omega); exact (by repeat' (first | with_reducible exact HO2.out | with_reducible refine Own.set_below ?_ smx _ | with_reducible refine Own.set_off ?_ (by with_reducible exact n1) _ | with_reducible refine Own.alloc1 ?_ _ | with_reducible refine Own.drew1 ?_ | with_reducible refine Own.drewN1 ?_ | with_reducible refine Own.ext ?_ (by assumption)))
end Go.Proofs.Ytgobkfnmagcgcaa
