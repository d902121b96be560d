/-
  A note pushed into a queue: the program's function, whole.
-/
import Derived.Test.YtgobkfnmagcgcaaWimplPush
namespace Go.Proofs.Ytgobkfnmagcgcaa
open Go.RowKit
set_option linter.unusedVariables false
set_option linter.unusedSimpArgs false

theorem any_status_in {rb rc : Bool} {l : List DNote} {n : DNote} (hq : QueueP l rb rc) (hp : NoteP n) (h2 : n.kind = 2) : l.any (fun x => decide (n = x)) = l.any (statusIn n.name) := by
  apply any_same
  intro x hx
  obtain ⟨j, hj, rfl⟩ := List.getElem_of_mem hx
  obtain ⟨h1, h3, _⟩ := hq.1 j hj
  exact status_same _ _ hp h3 h2
theorem push_any (l : List DNote) (a : Option Addr) (c : Nat) (rb rc : Bool) (n : DNote) (Bs B0 : Nat) (w : World) (h : Own w Bs 36 4 (.slice a l.length c) l.length (l.flatMap DNote.cells)) (hl : l.length ≤ 1048576) (hB : B0 < w.heap.size) (hBs : Bs ≤ B0) (hoff : foot (.slice a l.length c) ≠ some B0) (q0 : w.cell? ⟨B0, 0, none⟩ = some (.slice a l.length c)) (q1 : w.cell? ⟨B0, 1, none⟩ = some (.bool rb)) (q2 : w.cell? ⟨B0, 2, none⟩ = some (.bool rc)) (f0 : w.frozen? ⟨B0, 0, none⟩ = false) (f1 : w.frozen? ⟨B0, 1, none⟩ = false) (f2 : w.frozen? ⟨B0, 2, none⟩ = false) (hq : QueueP l rb rc) (hp : NoteP n) :
    Calls Try.prog 55 #[.pointer (some ⟨B0, 0, none⟩), .agg #[.int .i64 n.kind, .int .i64 n.n, .int .i64 n.uid, .string n.name]] w (PushI 36 Bs B0 (pushQ l rb rc n) w) := by
  by_cases hk : n.kind = 1
  · have hz : 0 ≤ n.n := ((noteP_box _ hk).1 hp).1.1
    cases rb with
    | true =>
      have e : pushQ l true rc n = ⟨l, true, rc⟩ := by unfold pushQ; simp [hq, hp, hk]
      rw [e]
      exact implPush_rs l a c true rc n Bs B0 w h hl hB hBs hoff q0 q1 q2 f0 f1 f2 hk rfl
    | false =>
      cases ha : l.any (boxIn n.n) with
      | true =>
        rw [show pushQ l false rc n = ⟨l, false, rc⟩ from (by unfold pushQ; simp [hq, hp, hk, ha])]
        exact implPush_ab l a c false rc n Bs B0 w h hl hB hBs hoff q0 q1 q2 f0 f1 f2 hk rfl hz ha
      | false =>
        rcases Nat.eq_zero_or_pos l.length with h0 | h0
        · have hL : ¬ lastIs l n := fun ⟨h, _⟩ => by omega
          have h6 : ¬ l.length = 6 := by omega
          rw [show pushQ l false rc n = ⟨l ++ [n], false, rc⟩ from (by unfold pushQ; simp [hq, hp, hk, ha, hL, h6])]
          exact implPush_g0 l a c false rc n Bs B0 w h hl hB hBs hoff q0 q1 q2 f0 f1 f2 h0 hk rfl hz ha h6
        · obtain ⟨K, hK⟩ : ∃ K, l.length = K + 1 := ⟨l.length - 1, by omega⟩
          have hKl : K < l.length := by omega
          have hLi := lastIs_iff (n := n) hKl hK
          by_cases t1 : l[K].kind = 1
          · by_cases t2 : l[K].uid = n.uid
            · by_cases t3 : n.uid = 0
              · have hL : ¬ lastIs l n := fun h => (hLi.1 h).2.2 t3
                by_cases h6 : l.length = 6
                · rw [show pushQ l false rc n = ⟨l.filter (onlyIs false), true, rc⟩ from (by unfold pushQ; simp [hq, hp, hk, ha, hL, h6])]
                  exact implPush_f3 l a c false rc n Bs B0 w h hl hB hBs hoff q0 q1 q2 f0 f1 f2 _ (Lib.hid rfl) K hKl hK t1 t2 t3 hk rfl hz ha h6
                · rw [show pushQ l false rc n = ⟨l ++ [n], false, rc⟩ from (by unfold pushQ; simp [hq, hp, hk, ha, hL, h6])]
                  exact implPush_g3 l a c false rc n Bs B0 w h hl hB hBs hoff q0 q1 q2 f0 f1 f2 K hKl hK t1 t2 t3 hk rfl hz ha h6
              · have hL : lastIs l n := hLi.2 ⟨t1, t2, t3⟩
                have hs1 : l.length - 1 = K := by omega
                rw [show pushQ l false rc n = ⟨l.set K n, false, rc⟩ from (by unfold pushQ; simp [hq, hp, hk, ha, hL, hs1])]
                exact implPush_e l a c false rc n Bs B0 w h hl hB hBs hoff q0 q1 q2 f0 f1 f2 K hKl hK t1 t2 t3 hk rfl hz ha
            · have hL : ¬ lastIs l n := fun h => t2 (hLi.1 h).2.1
              by_cases h6 : l.length = 6
              · rw [show pushQ l false rc n = ⟨l.filter (onlyIs false), true, rc⟩ from (by unfold pushQ; simp [hq, hp, hk, ha, hL, h6])]
                exact implPush_f2 l a c false rc n Bs B0 w h hl hB hBs hoff q0 q1 q2 f0 f1 f2 _ (Lib.hid rfl) K hKl hK t1 t2 hk rfl hz ha h6
              · rw [show pushQ l false rc n = ⟨l ++ [n], false, rc⟩ from (by unfold pushQ; simp [hq, hp, hk, ha, hL, h6])]
                exact implPush_g2 l a c false rc n Bs B0 w h hl hB hBs hoff q0 q1 q2 f0 f1 f2 K hKl hK t1 t2 hk rfl hz ha h6
          · have hL : ¬ lastIs l n := fun h => t1 (hLi.1 h).1
            by_cases h6 : l.length = 6
            · rw [show pushQ l false rc n = ⟨l.filter (onlyIs false), true, rc⟩ from (by unfold pushQ; simp [hq, hp, hk, ha, hL, h6])]
              exact implPush_f1 l a c false rc n Bs B0 w h hl hB hBs hoff q0 q1 q2 f0 f1 f2 _ (Lib.hid rfl) K hKl hK t1 hk rfl hz ha h6
            · rw [show pushQ l false rc n = ⟨l ++ [n], false, rc⟩ from (by unfold pushQ; simp [hq, hp, hk, ha, hL, h6])]
              exact implPush_g1 l a c false rc n Bs B0 w h hl hB hBs hoff q0 q1 q2 f0 f1 f2 K hKl hK t1 hk rfl hz ha h6
  · cases rc with
    | true =>
      rw [show pushQ l rb true n = ⟨l, rb, true⟩ from (by unfold pushQ; simp [hq, hp, hk])]
      exact implPush_lo l a c rb true n Bs B0 w h hl hB hBs hoff q0 q1 q2 f0 f1 f2 hk rfl
    | false =>
      by_cases h2 : n.kind = 2 ∧ l.any (statusIn n.name) = true
      · have hs := any_status_in hq hp h2.1
        rw [h2.2] at hs
        rw [show pushQ l rb false n = ⟨l, rb, false⟩ from (by unfold pushQ; simp [hq, hp, hk, h2])]
        exact implPush_st l a c rb false n Bs B0 w h hl hB hBs hoff q0 q1 q2 f0 f1 f2 hk rfl h2.1 hs
      · have h3 : ¬ (n.kind = 2 ∧ l.any (fun x => decide (n = x)) = true) := fun hh => h2 ⟨hh.1, by rw [← any_status_in hq hp hh.1]; exact hh.2⟩
        by_cases h6 : l.length = 6
        · rw [show pushQ l rb false n = ⟨l.filter (onlyIs true), rb, true⟩ from (by unfold pushQ; simp only [hq, hp, hk, h6, not_true_eq_false, reduceIte, Bool.false_eq_true, if_neg h2])]
          exact implPush_ks l a c rb false n Bs B0 w h hl hB hBs hoff q0 q1 q2 f0 f1 f2 _ (Lib.hid rfl) hk rfl h3 h6
        · rw [show pushQ l rb false n = ⟨l ++ [n], rb, false⟩ from (by unfold pushQ; simp only [hq, hp, hk, h6, not_true_eq_false, reduceIte, Bool.false_eq_true, if_neg h2])]
          exact implPush_ko l a c rb false n Bs B0 w h hl hB hBs hoff q0 q1 q2 f0 f1 f2 hk rfl h3 h6

set_option maxRecDepth 100000 in
set_option maxHeartbeats 4000000 in
theorem implPushNote_any (l : List DNote) (a : Option Addr) (c : Nat) (rb rc : Bool) (n : DNote) (w : World) (R : Rd w a c 4 l.length (l.flatMap DNote.cells)) (hl : l.length ≤ 1048576) (hmx : MaxLen w) (hn : ∀ y ∈ l, y.name.size ≤ 9223372036854775807) (hs : n.name.size ≤ 9223372036854775807) (r : List DNote) (Hr : Hid ((pushQ l rb rc n).notes = r)) (b : Bool) (Hb : Hid ((pushQ l rb rc n).resync = b)) (d : Bool) (Hd : Hid ((pushQ l rb rc n).lost = d)) :
    Calls Try.prog 16 #[.agg #[.slice a l.length c, .bool rb, .bool rc], .agg #[.int .i64 n.kind, .int .i64 n.n, .int .i64 n.uid, .string n.name]] w fun e w' => ∃ g q, e = .returned (.agg #[.slice g r.length q, .bool b, .bool d]) ∧ Own w' w.heap.size 36 4 (.slice g r.length q) r.length (r.flatMap DNote.cells) ∧ Ext w w' := by
  obtain rfl := Hr.out
  obtain rfl := Hb.out
  obtain rfl := Hd.out
  clear Hr Hb Hd
  have HR := Lib.hid R
  clear R
  have HM := Lib.hid hmx
  clear hmx
  have CL := fun W (hW : Ext w W) => copyQueue_any l a c rb rc W (HR.out.ext hW) (by omega)
  have HC := Lib.hid CL
  clear CL
  have Hsz := Lib.hid hn
  clear hn
  by_cases hq : QueueP l rb rc
  rotate_left
  · rw [show pushQ l rb rc n = ⟨l, rb, rc⟩ from (by unfold pushQ; simp [hq])]
    have HQ : Hid (Tells false (QueueP l rb rc)) := ⟨(fun h => by cases h), fun h => (hq h).elim⟩
    have HN := HQ
    clear hq
    go_enter Try.func16, Try.ntmps16
    go_wp2_with (first | (go_at_call 53; refine (HC.out _ bxt).mono ?_; rintro e w1 ⟨g, q, rfl, hown, hb1⟩; have HO := Lib.hid (hown.le (by first | (simp; done) | (simp; omega) | omega : w.heap.size + 3 ≤ _)); clear hown; obtain ⟨hc1, hf1⟩ := bcell hb1; have hz1 := hb1.size; (try simp at hz1); have s1_0 : w.heap.size < w1.heap.size := (by omega); have s1_1 : w.heap.size + 1 < w1.heap.size := (by omega); have s1_2 : w.heap.size + 2 < w1.heap.size := (by omega)) | (go_at_call 19; refine (implQueueOk_any l a c rb rc _ (HR.out.ext bxt) (HM.out.ext bxt) Hsz.out false HQ).mono ?_; rintro e w2 ⟨rfl, hb2⟩; obtain ⟨hc2, hf2⟩ := bcell hb2; have hz2 := hb2.size; (try simp at hz2); have s2_0 : w.heap.size < w2.heap.size := (by omega); have s2_1 : w.heap.size + 1 < w2.heap.size := (by omega); have s2_2 : w.heap.size + 2 < w2.heap.size := (by omega); have s2_3 : w1.heap.size < w2.heap.size := (by omega)) | (go_at_call 54; refine (implNoteOk_any n _ (HM.out.ext bxt) hs false HN).mono ?_; rintro e w3 ⟨rfl, hb3⟩; obtain ⟨hc3, hf3⟩ := bcell hb3; have hz3 := hb3.size; (try simp at hz3); have s3_0 : w.heap.size < w3.heap.size := (by omega); have s3_1 : w.heap.size + 1 < w3.heap.size := (by omega); have s3_2 : w.heap.size + 2 < w3.heap.size := (by omega); have s3_3 : w1.heap.size < w3.heap.size := (by omega)))
    refine bodyPost_ret (v := .agg #[.slice g l.length q, .bool rb, .bool rc]) (by simp [results, Try.results16, go_sem, *]) rfl ⟨g, q, rfl, ?_, ?_⟩
    · refine Own.le (B := w.heap.size + 3) ?_ (by omega)
      try dsimp only
      exact (by repeat' (first | with_reducible exact HO.out | with_reducible refine Own.set_below ?_ smx _ | with_reducible refine Own.alloc1 ?_ _ | with_reducible refine Own.drew1 ?_ | with_reducible refine Own.drewN1 ?_ | with_reducible refine Own.ext ?_ (by assumption)))
    · exact bxt
  by_cases hp : NoteP n
  rotate_left
  · rw [show pushQ l rb rc n = ⟨l, rb, rc⟩ from (by unfold pushQ; simp [hq, hp])]
    have HQ : Hid (Tells true (QueueP l rb rc)) := ⟨fun _ => hq, fun _ => rfl⟩
    have HN : Hid (Tells false (NoteP n)) := ⟨(fun h => by cases h), fun h => (hp h).elim⟩
    clear hq hp
    go_enter Try.func16, Try.ntmps16
    go_wp2_with (first | (go_at_call 53; refine (HC.out _ bxt).mono ?_; rintro e w1 ⟨g, q, rfl, hown, hb1⟩; have HO := Lib.hid (hown.le (by first | (simp; done) | (simp; omega) | omega : w.heap.size + 3 ≤ _)); clear hown; obtain ⟨hc1, hf1⟩ := bcell hb1; have hz1 := hb1.size; (try simp at hz1); have s1_0 : w.heap.size < w1.heap.size := (by omega); have s1_1 : w.heap.size + 1 < w1.heap.size := (by omega); have s1_2 : w.heap.size + 2 < w1.heap.size := (by omega)) | (go_at_call 19; refine (implQueueOk_any l a c rb rc _ (HR.out.ext bxt) (HM.out.ext bxt) Hsz.out true HQ).mono ?_; rintro e w2 ⟨rfl, hb2⟩; obtain ⟨hc2, hf2⟩ := bcell hb2; have hz2 := hb2.size; (try simp at hz2); have s2_0 : w.heap.size < w2.heap.size := (by omega); have s2_1 : w.heap.size + 1 < w2.heap.size := (by omega); have s2_2 : w.heap.size + 2 < w2.heap.size := (by omega); have s2_3 : w1.heap.size < w2.heap.size := (by omega)) | (go_at_call 54; refine (implNoteOk_any n _ (HM.out.ext bxt) hs false HN).mono ?_; rintro e w3 ⟨rfl, hb3⟩; obtain ⟨hc3, hf3⟩ := bcell hb3; have hz3 := hb3.size; (try simp at hz3); have s3_0 : w.heap.size < w3.heap.size := (by omega); have s3_1 : w.heap.size + 1 < w3.heap.size := (by omega); have s3_2 : w.heap.size + 2 < w3.heap.size := (by omega); have s3_3 : w1.heap.size < w3.heap.size := (by omega)))
    refine bodyPost_ret (v := .agg #[.slice g l.length q, .bool rb, .bool rc]) (by simp [results, Try.results16, go_sem, *]) rfl ⟨g, q, rfl, ?_, ?_⟩
    · refine Own.le (B := w.heap.size + 3) ?_ (by omega)
      try dsimp only
      exact (by repeat' (first | with_reducible exact HO.out | with_reducible refine Own.set_below ?_ smx _ | with_reducible refine Own.alloc1 ?_ _ | with_reducible refine Own.drew1 ?_ | with_reducible refine Own.drewN1 ?_ | with_reducible refine Own.ext ?_ (by assumption)))
    · exact bxt
  · have HQ : Hid (Tells true (QueueP l rb rc)) := ⟨fun _ => hq, fun _ => rfl⟩
    have HN : Hid (Tells true (NoteP n)) := ⟨fun _ => hp, fun _ => rfl⟩
    have HQP := Lib.hid hq
    have HNP := Lib.hid hp
    clear hq hp
    obtain ⟨D, hD⟩ : ∃ D, pushQ l rb rc n = D := ⟨_, rfl⟩
    rw [hD]
    have HD := Lib.hid hD
    clear hD
    go_enter Try.func16, Try.ntmps16
    go_upto_region 3 with (first | (go_at_call 53; refine (HC.out _ bxt).mono ?_; rintro e w1 ⟨g, q, rfl, hown, hb1⟩; have HO := Lib.hid (hown.le (by first | (simp; done) | (simp; omega) | omega : w.heap.size + 3 ≤ _)); clear hown; obtain ⟨hc1, hf1⟩ := bcell hb1; have hz1 := hb1.size; (try simp at hz1); have s1_0 : w.heap.size < w1.heap.size := (by omega); have s1_1 : w.heap.size + 1 < w1.heap.size := (by omega); have s1_2 : w.heap.size + 2 < w1.heap.size := (by omega)) | (go_at_call 19; refine (implQueueOk_any l a c rb rc _ (HR.out.ext bxt) (HM.out.ext bxt) Hsz.out true HQ).mono ?_; rintro e w2 ⟨rfl, hb2⟩; obtain ⟨hc2, hf2⟩ := bcell hb2; have hz2 := hb2.size; (try simp at hz2); have s2_0 : w.heap.size < w2.heap.size := (by omega); have s2_1 : w.heap.size + 1 < w2.heap.size := (by omega); have s2_2 : w.heap.size + 2 < w2.heap.size := (by omega); have s2_3 : w1.heap.size < w2.heap.size := (by omega)) | (go_at_call 54; refine (implNoteOk_any n _ (HM.out.ext bxt) hs true HN).mono ?_; rintro e w3 ⟨rfl, hb3⟩; obtain ⟨hc3, hf3⟩ := bcell hb3; have hz3 := hb3.size; (try simp at hz3); have s3_0 : w.heap.size < w3.heap.size := (by omega); have s3_1 : w.heap.size + 1 < w3.heap.size := (by omega); have s3_2 : w.heap.size + 2 < w3.heap.size := (by omega); have s3_3 : w1.heap.size < w3.heap.size := (by omega)))
    refine wp_world (fun W hW => ?_)
    have hwW : Ext w W := by (rw [hW]; exact bxt)
    have Wn0 : W.cell? ⟨w.heap.size + 1, 0, none⟩ = some (.int .i64 n.kind) := by (rw [hW]; simp [go_sem, *])
    have Wn1 : W.cell? ⟨w.heap.size + 1, 1, none⟩ = some (.int .i64 n.n) := by (rw [hW]; simp [go_sem, *])
    have Wn2 : W.cell? ⟨w.heap.size + 1, 2, none⟩ = some (.int .i64 n.uid) := by (rw [hW]; simp [go_sem, *])
    have Wn3 : W.cell? ⟨w.heap.size + 1, 3, none⟩ = some (.string n.name) := by (rw [hW]; simp [go_sem, *])
    have Wr0 : W.cell? ⟨w.heap.size + 2, 0, none⟩ = some (.slice none 0 0) := by (rw [hW]; simp [go_sem, *])
    have Wfr0 : W.frozen? ⟨w.heap.size + 2, 0, none⟩ = false := by (rw [hW]; simp [go_sem, *])
    have Wr1 : W.cell? ⟨w.heap.size + 2, 1, none⟩ = some (.bool false) := by (rw [hW]; simp [go_sem, *])
    have Wfr1 : W.frozen? ⟨w.heap.size + 2, 1, none⟩ = false := by (rw [hW]; simp [go_sem, *])
    have Wr2 : W.cell? ⟨w.heap.size + 2, 2, none⟩ = some (.bool false) := by (rw [hW]; simp [go_sem, *])
    have Wfr2 : W.frozen? ⟨w.heap.size + 2, 2, none⟩ = false := by (rw [hW]; simp [go_sem, *])
    have Wo0 : W.cell? ⟨w1.heap.size, 0, none⟩ = some (.slice g l.length q) := by (rw [hW]; simp [go_sem, *])
    have Wfo0 : W.frozen? ⟨w1.heap.size, 0, none⟩ = false := by (rw [hW]; simp [go_sem, *])
    have Wo1 : W.cell? ⟨w1.heap.size, 1, none⟩ = some (.bool rb) := by (rw [hW]; simp [go_sem, *])
    have Wfo1 : W.frozen? ⟨w1.heap.size, 1, none⟩ = false := by (rw [hW]; simp [go_sem, *])
    have Wo2 : W.cell? ⟨w1.heap.size, 2, none⟩ = some (.bool rc) := by (rw [hW]; simp [go_sem, *])
    have Wfo2 : W.frozen? ⟨w1.heap.size, 2, none⟩ = false := by (rw [hW]; simp [go_sem, *])
    have Ws3 : w1.heap.size < W.heap.size := by (rw [hW]; first | omega | (simp; omega))
    have HW : Hid (Own W (w.heap.size + 3) 36 4 (.slice g l.length q) l.length (l.flatMap DNote.cells)) := HO.out.ext (by (rw [hW]; exact bxt))
    clear hW
    have Ws2 : w.heap.size + 2 < w1.heap.size := by omega
    have hne := HO.out.ne_ge (b := w1.heap.size) (Nat.le_refl _)
    have HNE := Lib.hid hne
    clear hne
    go_wp2_with (go_loud (go_at_call 55; refine (push_any l g q rb rc n (w.heap.size + 3) w1.heap.size _ (HW.out.ext bxt) hl (by omega) (by omega) HNE.out Wo0 Wo1 Wo2 Wfo0 Wfo1 Wfo2 HQP.out HNP.out).mono ?_; rw [HD.out]; rintro e w4 ⟨g4, q4, rfl, k0, k1, k2, hown4, hbel, hB4⟩; have z0 := (hbel.cell (p := ⟨w.heap.size + 2, 0, none⟩) Ws2).trans Wr0; have z1 := (hbel.cell (p := ⟨w.heap.size + 2, 1, none⟩) Ws2).trans Wr1; have z2 := (hbel.cell (p := ⟨w.heap.size + 2, 2, none⟩) Ws2).trans Wr2; have x0 := (hbel.frozen (p := ⟨w.heap.size + 2, 0, none⟩) Ws2).trans Wfr0; have x1 := (hbel.frozen (p := ⟨w.heap.size + 2, 1, none⟩) Ws2).trans Wfr1; have x2 := (hbel.frozen (p := ⟨w.heap.size + 2, 2, none⟩) Ws2).trans Wfr2; have hbw4 : Ext w w4 := Below.trans hwW (Below.mono hbel (by omega)); have H4 := Lib.hid hown4; clear hown4))
    refine bodyPost_ret (v := .agg #[.slice g4 D.notes.length q4, .bool D.resync, .bool D.lost]) (by simp [results, Try.results16, go_sem, *]) rfl ⟨g4, q4, rfl, ?_, ?_⟩
    · refine Own.le (B := w.heap.size + 3) ?_ (by omega)
      try dsimp only
      exact (by repeat' (first | with_reducible exact H4.out | with_reducible refine Own.set_below ?_ smx _ | with_reducible refine Own.alloc1 ?_ _ | with_reducible refine Own.drew1 ?_ | with_reducible refine Own.drewN1 ?_ | with_reducible refine Own.ext ?_ (by assumption)))
    · exact bxt

end Go.Proofs.Ytgobkfnmagcgcaa
