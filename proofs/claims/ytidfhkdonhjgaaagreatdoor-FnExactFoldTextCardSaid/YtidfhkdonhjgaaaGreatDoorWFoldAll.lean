/-
  A client's state behind a list of replies: the program's function and the reference's.
-/
import Derived.Test.YtidfhkdonhjgaaaGreatDoorWFoldReply
import Derived.Test.YtidfhkdonhjgaaaGreatDoorXOwn
namespace Go.Proofs.YtidfhkdonhjgaaaGreatDoor
open Go.RowKit
set_option linter.unusedVariables false
set_option linter.unusedSimpArgs false

def foldTo (c : DClient) (l : List DReply) (k : Nat) : DClient := (l.take k).foldl foldReply c
def foldAll (c : DClient) (l : List DReply) : DClient := foldTo c l l.length
theorem foldTo_succ (c : DClient) (l : List DReply) (k : Nat) (hk : k < l.length) : foldTo c l (k + 1) = foldReply (foldTo c l k) l[k] := by
  unfold foldTo
  rw [List.take_succ_eq_append_getElem hk, List.foldl_append]; rfl
theorem foldTo_len (c : DClient) (l : List DReply) : ∀ k, (foldTo c l k).known.length ≤ c.known.length + min k l.length
  | 0 => by simp [foldTo]
  | k + 1 => by
    by_cases hk : k < l.length
    · have h1 := foldReply_len (foldTo c l k) l[k]
      have h2 := foldTo_len c l k
      rw [foldTo_succ c l k hk]; omega
    · have h2 := foldTo_len c l k
      have : foldTo c l (k + 1) = foldTo c l k := by unfold foldTo; rw [List.take_of_length_le (by omega), List.take_of_length_le (by omega)]
      rw [this]; omega

theorem implFold_c (c : DClient) (A : Option Addr) (C : Nat) (r : DReply) (w : World) (R : Rd w A C 2 c.known.length (c.known.flatMap DSeen.cells)) (hl : c.known.length ≤ 2097152) :
    Calls Tryz.prog 93 #[.agg #[.bool c.active, .string c.name, .int .i64 c.validity, .int .i64 c.size, .slice A c.known.length C, .bool c.bad], .agg #[.int .i64 r.kind, .int .i64 r.n, .int .i64 r.uid, .int .i64 r.flags, .string r.name, .string r.text]] w (FoldPost 89 (foldReply c r) w) := by
  obtain ⟨x1, x2, x3, x4, x5, x6⟩ := c
  obtain ⟨r1, r2, r3, r4, r5, r6⟩ := r
  exact implFold_all x1 x2 x3 x4 x5 A C x6 r1 r2 r3 r4 r5 r6 w R hl
theorem specFold_c (c : DClient) (A : Option Addr) (C : Nat) (r : DReply) (w : World) (R : Rd w A C 2 c.known.length (c.known.flatMap DSeen.cells)) (hl : c.known.length ≤ 2097152) :
    Calls Tryz.prog 91 #[.agg #[.bool c.active, .string c.name, .int .i64 c.validity, .int .i64 c.size, .slice A c.known.length C, .bool c.bad], .agg #[.int .i64 r.kind, .int .i64 r.n, .int .i64 r.uid, .int .i64 r.flags, .string r.name, .string r.text]] w (FoldPost 89 (foldReply c r) w) := by
  obtain ⟨x1, x2, x3, x4, x5, x6⟩ := c
  obtain ⟨r1, r2, r3, r4, r5, r6⟩ := r
  exact specFold_all x1 x2 x3 x4 x5 A C x6 r1 r2 r3 r4 r5 r6 w R hl


/-- the loop: behind k rounds the box β holds the state behind k replies -/
def FoldRel (E n β : Nat) (f : Nat → DClient) (W : World) (i : Value) (wr : World) : Prop :=
  ∃ (k : Nat) (d : DClient) (g : Option Addr) (q : Nat), k ≤ n ∧ i = .int .i64 k ∧ Hid (f k = d) ∧ Hid (Own wr (W.heap.size + 2) E 2 (.slice g d.known.length q) d.known.length (d.known.flatMap DSeen.cells)) ∧ Hid (FOff β (.slice g d.known.length q)) ∧
    Hid (At wr β 0 [.bool d.active, .string d.name, .int .i64 d.validity, .int .i64 d.size, .slice g d.known.length q, .bool d.bad]) ∧
    Hid (At wr (W.heap.size + 1) 0 [.bool false, .string ⟨#[]⟩, .int .i64 0, .int .i64 0, .slice none 0 0, .bool false]) ∧
    Hid (∀ o, o < 6 → wr.frozen? ⟨β, o, none⟩ = false ∧ wr.frozen? ⟨W.heap.size + 1, o, none⟩ = false) ∧ Below W.heap.size W wr ∧ β < wr.heap.size ∧ W.heap.size + 2 ≤ β
theorem fz6 {P : Nat → Prop} (h0 : P 0) (h1 : P 1) (h2 : P 2) (h3 : P 3) (h4 : P 4) (h5 : P 5) : ∀ o, o < 6 → P o := fun o ho => by
  obtain rfl | rfl | rfl | rfl | rfl | rfl : o = 0 ∨ o = 1 ∨ o = 2 ∨ o = 3 ∨ o = 4 ∨ o = 5 := by omega
  all_goals assumption

set_option maxRecDepth 100000 in
set_option maxHeartbeats 8000000 in
theorem implFoldAll_c (c : DClient) (A : Option Addr) (C : Nat) (l : List DReply) (la : Option Addr) (lc : Nat) (w : World) (R : Rd w A C 2 c.known.length (c.known.flatMap DSeen.cells)) (RL : Rd w la lc 6 l.length (l.flatMap DReply.cells)) (hl : c.known.length ≤ 1048576) (hll : l.length ≤ 1048576) :
    Calls Tryz.prog 50 #[.agg #[.bool c.active, .string c.name, .int .i64 c.validity, .int .i64 c.size, .slice A c.known.length C, .bool c.bad], .slice la l.length lc] w (FoldPost 89 (foldAll c l) w) := by
  have HR := Lib.hid R
  have HL := Lib.hid RL
  have HN := Lib.hid (foldTo_len c l)
  clear R RL
  go_enter Tryz.func50, Tryz.ntmps50
  go_wp2_with ((go_at_call 92; refine (cloneSeenS_any c.known _ _ _ (HR.out.ext bxt) (by omega)).mono ?_; rintro e w1 ⟨g, q, rfl, hown, hb1⟩; have HO := Lib.hid (hown.le (by first | (simp; done) | (simp; omega) | omega : w.heap.size + 3 ≤ _)); clear hown; have c0_0 : w1.cell? ⟨w.heap.size + 1, 0, none⟩ = some (.bool false) := (hb1.cell (p := ⟨w.heap.size + 1, 0, none⟩) smx).trans kpx; have f0_0 : w1.frozen? ⟨w.heap.size + 1, 0, none⟩ = false := (hb1.frozen (p := ⟨w.heap.size + 1, 0, none⟩) smx).trans kfx; have c0_1 : w1.cell? ⟨w.heap.size + 1, 1, none⟩ = some (.string ⟨#[]⟩) := (hb1.cell (p := ⟨w.heap.size + 1, 1, none⟩) smx).trans kpx; have f0_1 : w1.frozen? ⟨w.heap.size + 1, 1, none⟩ = false := (hb1.frozen (p := ⟨w.heap.size + 1, 1, none⟩) smx).trans kfx; have c0_2 : w1.cell? ⟨w.heap.size + 1, 2, none⟩ = some (.int .i64 0) := (hb1.cell (p := ⟨w.heap.size + 1, 2, none⟩) smx).trans kpx; have f0_2 : w1.frozen? ⟨w.heap.size + 1, 2, none⟩ = false := (hb1.frozen (p := ⟨w.heap.size + 1, 2, none⟩) smx).trans kfx; have c0_3 : w1.cell? ⟨w.heap.size + 1, 3, none⟩ = some (.int .i64 0) := (hb1.cell (p := ⟨w.heap.size + 1, 3, none⟩) smx).trans kpx; have f0_3 : w1.frozen? ⟨w.heap.size + 1, 3, none⟩ = false := (hb1.frozen (p := ⟨w.heap.size + 1, 3, none⟩) smx).trans kfx; have c0_4 : w1.cell? ⟨w.heap.size + 1, 4, none⟩ = some (.slice none 0 0) := (hb1.cell (p := ⟨w.heap.size + 1, 4, none⟩) smx).trans kpx; have f0_4 : w1.frozen? ⟨w.heap.size + 1, 4, none⟩ = false := (hb1.frozen (p := ⟨w.heap.size + 1, 4, none⟩) smx).trans kfx; have c0_5 : w1.cell? ⟨w.heap.size + 1, 5, none⟩ = some (.bool false) := (hb1.cell (p := ⟨w.heap.size + 1, 5, none⟩) smx).trans kpx; have f0_5 : w1.frozen? ⟨w.heap.size + 1, 5, none⟩ = false := (hb1.frozen (p := ⟨w.heap.size + 1, 5, none⟩) smx).trans kfx; have s0 : w.heap.size + 1 < w1.heap.size := (by have hss := hb1.size; first | omega | (simp at hss; omega)); have c1_0 : w1.cell? ⟨w.heap.size + 2, 0, none⟩ = some (.bool c.active) := (hb1.cell (p := ⟨w.heap.size + 2, 0, none⟩) smx).trans kpx; have f1_0 : w1.frozen? ⟨w.heap.size + 2, 0, none⟩ = false := (hb1.frozen (p := ⟨w.heap.size + 2, 0, none⟩) smx).trans kfx; have c1_1 : w1.cell? ⟨w.heap.size + 2, 1, none⟩ = some (.string c.name) := (hb1.cell (p := ⟨w.heap.size + 2, 1, none⟩) smx).trans kpx; have f1_1 : w1.frozen? ⟨w.heap.size + 2, 1, none⟩ = false := (hb1.frozen (p := ⟨w.heap.size + 2, 1, none⟩) smx).trans kfx; have c1_2 : w1.cell? ⟨w.heap.size + 2, 2, none⟩ = some (.int .i64 c.validity) := (hb1.cell (p := ⟨w.heap.size + 2, 2, none⟩) smx).trans kpx; have f1_2 : w1.frozen? ⟨w.heap.size + 2, 2, none⟩ = false := (hb1.frozen (p := ⟨w.heap.size + 2, 2, none⟩) smx).trans kfx; have c1_3 : w1.cell? ⟨w.heap.size + 2, 3, none⟩ = some (.int .i64 c.size) := (hb1.cell (p := ⟨w.heap.size + 2, 3, none⟩) smx).trans kpx; have f1_3 : w1.frozen? ⟨w.heap.size + 2, 3, none⟩ = false := (hb1.frozen (p := ⟨w.heap.size + 2, 3, none⟩) smx).trans kfx; have c1_4 : w1.cell? ⟨w.heap.size + 2, 4, none⟩ = some (.slice A c.known.length C) := (hb1.cell (p := ⟨w.heap.size + 2, 4, none⟩) smx).trans kpx; have f1_4 : w1.frozen? ⟨w.heap.size + 2, 4, none⟩ = false := (hb1.frozen (p := ⟨w.heap.size + 2, 4, none⟩) smx).trans kfx; have c1_5 : w1.cell? ⟨w.heap.size + 2, 5, none⟩ = some (.bool c.bad) := (hb1.cell (p := ⟨w.heap.size + 2, 5, none⟩) smx).trans kpx; have f1_5 : w1.frozen? ⟨w.heap.size + 2, 5, none⟩ = false := (hb1.frozen (p := ⟨w.heap.size + 2, 5, none⟩) smx).trans kfx; have s1 : w.heap.size + 2 < w1.heap.size := (by have hss := hb1.size; first | omega | (simp at hss; omega))))
  go_loopw [15] (FoldRel 89 l.length (w.heap.size + 2) (foldTo c l) w) (fun i _ => l.length - (intOf i).toNat)
  case atStart =>
    refine ⟨0, c, g, q, Nat.zero_le _, rfl, Lib.hid rfl, Lib.hid (Own.le (B := w.heap.size + 3) (by repeat' (first | with_reducible exact HO.out | with_reducible refine Own.set_below ?_ smx _ | with_reducible refine Own.alloc1 ?_ _ | with_reducible refine Own.drew1 ?_ | with_reducible refine Own.drewN1 ?_ | with_reducible refine Own.ext ?_ (by assumption))) (by omega)), Lib.hid (HO.out.ne_lt (by omega)), Lib.hid (at_cons (by first | assumption | (simp [go_sem, *]; done)) (at_cons (by first | assumption | (simp [go_sem, *]; done)) (at_cons (by first | assumption | (simp [go_sem, *]; done)) (at_cons (by first | assumption | (simp [go_sem, *]; done)) (at_cons (by first | assumption | (simp [go_sem, *]; done)) (at_cons (by first | assumption | (simp [go_sem, *]; done)) at_nil)))))), Lib.hid (at_cons (by first | assumption | (simp [go_sem, *]; done)) (at_cons (by first | assumption | (simp [go_sem, *]; done)) (at_cons (by first | assumption | (simp [go_sem, *]; done)) (at_cons (by first | assumption | (simp [go_sem, *]; done)) (at_cons (by first | assumption | (simp [go_sem, *]; done)) (at_cons (by first | assumption | (simp [go_sem, *]; done)) at_nil)))))), Lib.hid (fz6 (by simp [go_sem, *]) (by simp [go_sem, *]) (by simp [go_sem, *]) (by simp [go_sem, *]) (by simp [go_sem, *]) (by simp [go_sem, *])), bxt, smx, by omega⟩
  case round =>
    obtain ⟨k, d, g2, q2, hk, rfl, HD, HO2, HF2, HA, HZ, HFZ, hbe, hsz, hsz2⟩ := hrel
    have d0 : wr.cell? ⟨w.heap.size + 2, 0, none⟩ = some (.bool d.active) := HA.out 0 _ rfl
    have e0 := (HFZ.out 0 (by omega)).1
    have d1 : wr.cell? ⟨w.heap.size + 2, 1, none⟩ = some (.string d.name) := HA.out 1 _ rfl
    have e1 := (HFZ.out 1 (by omega)).1
    have d2 : wr.cell? ⟨w.heap.size + 2, 2, none⟩ = some (.int .i64 d.validity) := HA.out 2 _ rfl
    have e2 := (HFZ.out 2 (by omega)).1
    have d3 : wr.cell? ⟨w.heap.size + 2, 3, none⟩ = some (.int .i64 d.size) := HA.out 3 _ rfl
    have e3 := (HFZ.out 3 (by omega)).1
    have d4 : wr.cell? ⟨w.heap.size + 2, 4, none⟩ = some (.slice g2 d.known.length q2) := HA.out 4 _ rfl
    have e4 := (HFZ.out 4 (by omega)).1
    have d5 : wr.cell? ⟨w.heap.size + 2, 5, none⟩ = some (.bool d.bad) := HA.out 5 _ rfl
    have e5 := (HFZ.out 5 (by omega)).1
    have hss0 : w.heap.size < wr.heap.size := by omega
    have hss1 : w.heap.size + 1 < wr.heap.size := by omega
    by_cases hlt : k < l.length
    · obtain ⟨b, ofs, rfl, hbb, hat⟩ := HL.out.ptr (by omega)
      have hbw : b < wr.heap.size := by (have := hbe.size; omega)
      obtain ⟨x0, x1, x2, x3, x4, x5⟩ := DReply.at (hat.ext hbb hbe) k hlt
      have HAT := Lib.hid hat
      clear hat
      have hdl : d.known.length ≤ 2097152 := by (have h1 := HN.out k; rw [HD.out] at h1; omega)
      go_wp2_with ((go_at_call 93; refine (implFold_c d g2 q2 l[k] _ ((Rd.of_Own HO2.out).ext bxt) hdl).mono ?_; rintro e w2 ⟨g3, q3, rfl, hown, hb2⟩; have hbn : Ext wr w2 := bxt; have HF3 := Lib.hid (FOff.lt (b := w.heap.size + 2) hown (by first | omega | (simp; omega))); have HO3 := Lib.hid (hown.le (B' := w.heap.size + 2) (by first | omega | (simp; omega))); clear hown; have cn0_0 : w2.cell? ⟨w.heap.size + 2, 0, none⟩ = some (.bool d.active) := (hb2.cell (p := ⟨w.heap.size + 2, 0, none⟩) smx).trans kpx; have fn0_0 : w2.frozen? ⟨w.heap.size + 2, 0, none⟩ = false := (hb2.frozen (p := ⟨w.heap.size + 2, 0, none⟩) smx).trans kfx; have cn0_1 : w2.cell? ⟨w.heap.size + 2, 1, none⟩ = some (.string d.name) := (hb2.cell (p := ⟨w.heap.size + 2, 1, none⟩) smx).trans kpx; have fn0_1 : w2.frozen? ⟨w.heap.size + 2, 1, none⟩ = false := (hb2.frozen (p := ⟨w.heap.size + 2, 1, none⟩) smx).trans kfx; have cn0_2 : w2.cell? ⟨w.heap.size + 2, 2, none⟩ = some (.int .i64 d.validity) := (hb2.cell (p := ⟨w.heap.size + 2, 2, none⟩) smx).trans kpx; have fn0_2 : w2.frozen? ⟨w.heap.size + 2, 2, none⟩ = false := (hb2.frozen (p := ⟨w.heap.size + 2, 2, none⟩) smx).trans kfx; have cn0_3 : w2.cell? ⟨w.heap.size + 2, 3, none⟩ = some (.int .i64 d.size) := (hb2.cell (p := ⟨w.heap.size + 2, 3, none⟩) smx).trans kpx; have fn0_3 : w2.frozen? ⟨w.heap.size + 2, 3, none⟩ = false := (hb2.frozen (p := ⟨w.heap.size + 2, 3, none⟩) smx).trans kfx; have cn0_4 : w2.cell? ⟨w.heap.size + 2, 4, none⟩ = some (.slice g2 d.known.length q2) := (hb2.cell (p := ⟨w.heap.size + 2, 4, none⟩) smx).trans kpx; have fn0_4 : w2.frozen? ⟨w.heap.size + 2, 4, none⟩ = false := (hb2.frozen (p := ⟨w.heap.size + 2, 4, none⟩) smx).trans kfx; have cn0_5 : w2.cell? ⟨w.heap.size + 2, 5, none⟩ = some (.bool d.bad) := (hb2.cell (p := ⟨w.heap.size + 2, 5, none⟩) smx).trans kpx; have fn0_5 : w2.frozen? ⟨w.heap.size + 2, 5, none⟩ = false := (hb2.frozen (p := ⟨w.heap.size + 2, 5, none⟩) smx).trans kfx; have sn0 : w.heap.size + 2 < w2.heap.size := (by have hss := hb2.size; first | omega | (simp at hss; omega))))
      all_goals
        go_roundw
        case rel =>
          have A1 : At w2 (w.heap.size + 2) 0 [.bool d.active, .string d.name, .int .i64 d.validity, .int .i64 d.size, .slice g2 d.known.length q2, .bool d.bad] := HA.out.ext (by omega) hbn
          have A2 : At w2 (w.heap.size + 1) 0 [.bool false, .string ⟨#[]⟩, .int .i64 0, .int .i64 0, .slice none 0 0, .bool false] := HZ.out.ext (by omega) hbn
          have hne : w.heap.size + 2 ≠ w.heap.size + 1 := by omega
          change FoldRel 89 l.length (w.heap.size + 2) (foldTo c l) w _ (putW w2 (w.heap.size + 2) 0 [.bool (foldReply d l[k]).active, .string (foldReply d l[k]).name, .int .i64 (foldReply d l[k]).validity, .int .i64 (foldReply d l[k]).size, .slice g3 (foldReply d l[k]).known.length q3, .bool (foldReply d l[k]).bad])
          exact ⟨k + 1, foldReply d l[k], g3, q3, by omega, by go_num, Lib.hid (by rw [foldTo_succ c l k hlt, HD.out]), Lib.hid (Own.putW_off HF3.out _ _ _ HO3.out), Lib.hid HF3.out, Lib.hid (putW_at _ w2 0 A1.some), Lib.hid (putW_at_ne A2 hne), Lib.hid (fun o ho => ⟨putW_frz _ _ _ (((bcell hbn).2 _ _ (by omega)).trans (HFZ.out o ho).1), putW_frz _ _ _ (((bcell hbn).2 _ _ (by omega)).trans (HFZ.out o ho).2)⟩), Below.putW (by omega) _ _ _ (Below.ext hbe hbn), by (rw [putW_size]; have := hbn.size; omega), hsz2⟩
        case measure => simp [intOf]; omega
    · have hkk : k = l.length := by omega
      have HKK := Lib.hid hkk
      clear hkk
      have z0 : wr.cell? ⟨w.heap.size + 1, 0, none⟩ = some (.bool false) := HZ.out 0 _ rfl
      have y0 := (HFZ.out 0 (by omega)).2
      have z1 : wr.cell? ⟨w.heap.size + 1, 1, none⟩ = some (.string ⟨#[]⟩) := HZ.out 1 _ rfl
      have y1 := (HFZ.out 1 (by omega)).2
      have z2 : wr.cell? ⟨w.heap.size + 1, 2, none⟩ = some (.int .i64 0) := HZ.out 2 _ rfl
      have y2 := (HFZ.out 2 (by omega)).2
      have z3 : wr.cell? ⟨w.heap.size + 1, 3, none⟩ = some (.int .i64 0) := HZ.out 3 _ rfl
      have y3 := (HFZ.out 3 (by omega)).2
      have z4 : wr.cell? ⟨w.heap.size + 1, 4, none⟩ = some (.slice none 0 0) := HZ.out 4 _ rfl
      have y4 := (HFZ.out 4 (by omega)).2
      have z5 : wr.cell? ⟨w.heap.size + 1, 5, none⟩ = some (.bool false) := HZ.out 5 _ rfl
      have y5 := (HFZ.out 5 (by omega)).2
      go_wp2_with fail
      have hfin : foldAll c l = d := by (unfold foldAll; rw [← HKK.out]; exact HD.out)
      rw [hfin]
      unfold FoldPost
      refine bodyPost_ret (v := .agg #[.bool d.active, .string d.name, .int .i64 d.validity, .int .i64 d.size, .slice g2 d.known.length q2, .bool d.bad]) (by simp [results, Tryz.results50, go_sem, *]) rfl ⟨_, _, rfl, ?_, ?_⟩
      · refine Own.le (B := w.heap.size + 2) ?_ (by omega)
        exact (by repeat' (first | with_reducible exact HO2.out | with_reducible refine Own.set_below ?_ smx _ | with_reducible refine Own.alloc1 ?_ _ | with_reducible refine Own.drew1 ?_ | with_reducible refine Own.drewN1 ?_ | with_reducible refine Own.ext ?_ (by assumption)))
      · exact bxt

theorem implFoldAll_any (xactive : Bool) (xname : ByteArray) (xvalidity xsize : Int) (xknown : List DSeen) (xknownA : Option Addr) (xknownC : Nat) (xbad : Bool) (l : List DReply) (la : Option Addr) (lc : Nat) (w : World) (R : Rd w xknownA xknownC 2 xknown.length (xknown.flatMap DSeen.cells)) (RL : Rd w la lc 6 l.length (l.flatMap DReply.cells)) (hl : xknown.length ≤ 1048576) (hll : l.length ≤ 1048576)
    (ractive : Bool) (Hractive : Hid ((foldAll (⟨xactive, xname, xvalidity, xsize, xknown, xbad⟩ : DClient) l).active = ractive)) (rname : ByteArray) (Hrname : Hid ((foldAll (⟨xactive, xname, xvalidity, xsize, xknown, xbad⟩ : DClient) l).name = rname)) (rvalidity : Int) (Hrvalidity : Hid ((foldAll (⟨xactive, xname, xvalidity, xsize, xknown, xbad⟩ : DClient) l).validity = rvalidity)) (rsize : Int) (Hrsize : Hid ((foldAll (⟨xactive, xname, xvalidity, xsize, xknown, xbad⟩ : DClient) l).size = rsize)) (rknown : List DSeen) (Hrknown : Hid ((foldAll (⟨xactive, xname, xvalidity, xsize, xknown, xbad⟩ : DClient) l).known = rknown)) (rbad : Bool) (Hrbad : Hid ((foldAll (⟨xactive, xname, xvalidity, xsize, xknown, xbad⟩ : DClient) l).bad = rbad)) :
    Calls Tryz.prog 50 #[.agg #[.bool xactive, .string xname, .int .i64 xvalidity, .int .i64 xsize, .slice xknownA xknown.length xknownC, .bool xbad], .slice la l.length lc] w fun e w' => ∃ g q, e = .returned (.agg #[.bool ractive, .string rname, .int .i64 rvalidity, .int .i64 rsize, .slice g rknown.length q, .bool rbad]) ∧ Own w' w.heap.size 89 2 (.slice g rknown.length q) rknown.length (rknown.flatMap DSeen.cells) ∧ Ext w w' := by
  obtain rfl := Hractive.out
  obtain rfl := Hrname.out
  obtain rfl := Hrvalidity.out
  obtain rfl := Hrsize.out
  obtain rfl := Hrknown.out
  obtain rfl := Hrbad.out
  exact implFoldAll_c (⟨xactive, xname, xvalidity, xsize, xknown, xbad⟩ : DClient) xknownA xknownC l la lc w R RL hl hll

set_option maxRecDepth 100000 in
set_option maxHeartbeats 8000000 in
theorem specFoldAll_c (c : DClient) (A : Option Addr) (C : Nat) (l : List DReply) (la : Option Addr) (lc : Nat) (w : World) (R : Rd w A C 2 c.known.length (c.known.flatMap DSeen.cells)) (RL : Rd w la lc 6 l.length (l.flatMap DReply.cells)) (hl : c.known.length ≤ 1048576) (hll : l.length ≤ 1048576) :
    Calls Tryz.prog 49 #[.agg #[.bool c.active, .string c.name, .int .i64 c.validity, .int .i64 c.size, .slice A c.known.length C, .bool c.bad], .slice la l.length lc] w (FoldPost 89 (foldAll c l) w) := by
  have HR := Lib.hid R
  have HL := Lib.hid RL
  have HN := Lib.hid (foldTo_len c l)
  clear R RL
  go_enter Tryz.func49, Tryz.ntmps49
  go_wp2_with ((go_at_call 90; refine (l15Copy_any c.active c.name c.validity c.size c.known _ _ c.bad _ (HR.out.ext bxt) (by omega)).mono ?_; rintro e w1 ⟨g, q, rfl, hown, hb1⟩; have HO := Lib.hid (hown.le (by first | (simp; done) | (simp; omega) | omega : w.heap.size + 2 ≤ _)); clear hown; have c0_0 : w1.cell? ⟨w.heap.size + 1, 0, none⟩ = some (.bool false) := (hb1.cell (p := ⟨w.heap.size + 1, 0, none⟩) smx).trans kpx; have f0_0 : w1.frozen? ⟨w.heap.size + 1, 0, none⟩ = false := (hb1.frozen (p := ⟨w.heap.size + 1, 0, none⟩) smx).trans kfx; have c0_1 : w1.cell? ⟨w.heap.size + 1, 1, none⟩ = some (.string ⟨#[]⟩) := (hb1.cell (p := ⟨w.heap.size + 1, 1, none⟩) smx).trans kpx; have f0_1 : w1.frozen? ⟨w.heap.size + 1, 1, none⟩ = false := (hb1.frozen (p := ⟨w.heap.size + 1, 1, none⟩) smx).trans kfx; have c0_2 : w1.cell? ⟨w.heap.size + 1, 2, none⟩ = some (.int .i64 0) := (hb1.cell (p := ⟨w.heap.size + 1, 2, none⟩) smx).trans kpx; have f0_2 : w1.frozen? ⟨w.heap.size + 1, 2, none⟩ = false := (hb1.frozen (p := ⟨w.heap.size + 1, 2, none⟩) smx).trans kfx; have c0_3 : w1.cell? ⟨w.heap.size + 1, 3, none⟩ = some (.int .i64 0) := (hb1.cell (p := ⟨w.heap.size + 1, 3, none⟩) smx).trans kpx; have f0_3 : w1.frozen? ⟨w.heap.size + 1, 3, none⟩ = false := (hb1.frozen (p := ⟨w.heap.size + 1, 3, none⟩) smx).trans kfx; have c0_4 : w1.cell? ⟨w.heap.size + 1, 4, none⟩ = some (.slice none 0 0) := (hb1.cell (p := ⟨w.heap.size + 1, 4, none⟩) smx).trans kpx; have f0_4 : w1.frozen? ⟨w.heap.size + 1, 4, none⟩ = false := (hb1.frozen (p := ⟨w.heap.size + 1, 4, none⟩) smx).trans kfx; have c0_5 : w1.cell? ⟨w.heap.size + 1, 5, none⟩ = some (.bool false) := (hb1.cell (p := ⟨w.heap.size + 1, 5, none⟩) smx).trans kpx; have f0_5 : w1.frozen? ⟨w.heap.size + 1, 5, none⟩ = false := (hb1.frozen (p := ⟨w.heap.size + 1, 5, none⟩) smx).trans kfx; have s0 : w.heap.size + 1 < w1.heap.size := (by have hss := hb1.size; first | omega | (simp at hss; omega))))
  go_loopw [6] (FoldRel 89 l.length w1.heap.size (foldTo c l) w) (fun i _ => l.length - (intOf i).toNat)
  case atStart =>
    refine ⟨0, c, g, q, Nat.zero_le _, rfl, Lib.hid rfl, Lib.hid ((by repeat' (first | with_reducible exact HO.out | with_reducible refine Own.set_below ?_ smx _ | with_reducible refine Own.set_off ?_ (by with_reducible exact HO.out.ne_ge (Nat.le_refl _)) _ | with_reducible refine Own.alloc1 ?_ _ | with_reducible refine Own.drew1 ?_ | with_reducible refine Own.drewN1 ?_ | with_reducible refine Own.ext ?_ (by assumption)))), Lib.hid (HO.out.ne_ge (Nat.le_refl _)), Lib.hid (at_cons (by first | assumption | (simp [go_sem, *]; done)) (at_cons (by first | assumption | (simp [go_sem, *]; done)) (at_cons (by first | assumption | (simp [go_sem, *]; done)) (at_cons (by first | assumption | (simp [go_sem, *]; done)) (at_cons (by first | assumption | (simp [go_sem, *]; done)) (at_cons (by first | assumption | (simp [go_sem, *]; done)) at_nil)))))), Lib.hid (at_cons (by first | assumption | (simp [go_sem, *]; done)) (at_cons (by first | assumption | (simp [go_sem, *]; done)) (at_cons (by first | assumption | (simp [go_sem, *]; done)) (at_cons (by first | assumption | (simp [go_sem, *]; done)) (at_cons (by first | assumption | (simp [go_sem, *]; done)) (at_cons (by first | assumption | (simp [go_sem, *]; done)) at_nil)))))), Lib.hid (fz6 (by simp [go_sem, *]) (by simp [go_sem, *]) (by simp [go_sem, *]) (by simp [go_sem, *]) (by simp [go_sem, *]) (by simp [go_sem, *])), bxt, smx, by omega⟩
  case round =>
    obtain ⟨k, d, g2, q2, hk, rfl, HD, HO2, HF2, HA, HZ, HFZ, hbe, hsz, hsz2⟩ := hrel
    have d0 : wr.cell? ⟨w1.heap.size, 0, none⟩ = some (.bool d.active) := HA.out 0 _ rfl
    have e0 := (HFZ.out 0 (by omega)).1
    have d1 : wr.cell? ⟨w1.heap.size, 1, none⟩ = some (.string d.name) := HA.out 1 _ rfl
    have e1 := (HFZ.out 1 (by omega)).1
    have d2 : wr.cell? ⟨w1.heap.size, 2, none⟩ = some (.int .i64 d.validity) := HA.out 2 _ rfl
    have e2 := (HFZ.out 2 (by omega)).1
    have d3 : wr.cell? ⟨w1.heap.size, 3, none⟩ = some (.int .i64 d.size) := HA.out 3 _ rfl
    have e3 := (HFZ.out 3 (by omega)).1
    have d4 : wr.cell? ⟨w1.heap.size, 4, none⟩ = some (.slice g2 d.known.length q2) := HA.out 4 _ rfl
    have e4 := (HFZ.out 4 (by omega)).1
    have d5 : wr.cell? ⟨w1.heap.size, 5, none⟩ = some (.bool d.bad) := HA.out 5 _ rfl
    have e5 := (HFZ.out 5 (by omega)).1
    have hss0 : w.heap.size < wr.heap.size := by omega
    have hss1 : w.heap.size + 1 < wr.heap.size := by omega
    by_cases hlt : k < l.length
    · obtain ⟨b, ofs, rfl, hbb, hat⟩ := HL.out.ptr (by omega)
      have hbw : b < wr.heap.size := by (have := hbe.size; omega)
      obtain ⟨x0, x1, x2, x3, x4, x5⟩ := DReply.at (hat.ext hbb hbe) k hlt
      have HAT := Lib.hid hat
      clear hat
      have hdl : d.known.length ≤ 2097152 := by (have h1 := HN.out k; rw [HD.out] at h1; omega)
      go_wp2_with fail
      first
        | go_region_law (first | (go_simp; go_at_call 91; refine (specFold_c d g2 q2 l[k] _ ((Rd.of_Own HO2.out).ext bxt) hdl).mono ?_; rintro e w2 ⟨g3, q3, rfl, hown, hb2⟩; have hbn : Ext wr w2 := bxt; have HF3 := Lib.hid (FOff.lt (b := w1.heap.size) hown (by first | omega | (simp; omega))); have HO3 := Lib.hid (hown.le (B' := w.heap.size + 2) (by first | omega | (simp; omega))); clear hown; have cn0_0 : w2.cell? ⟨w1.heap.size, 0, none⟩ = some (.bool d.active) := (hb2.cell (p := ⟨w1.heap.size, 0, none⟩) smx).trans kpx; have fn0_0 : w2.frozen? ⟨w1.heap.size, 0, none⟩ = false := (hb2.frozen (p := ⟨w1.heap.size, 0, none⟩) smx).trans kfx; have cn0_1 : w2.cell? ⟨w1.heap.size, 1, none⟩ = some (.string d.name) := (hb2.cell (p := ⟨w1.heap.size, 1, none⟩) smx).trans kpx; have fn0_1 : w2.frozen? ⟨w1.heap.size, 1, none⟩ = false := (hb2.frozen (p := ⟨w1.heap.size, 1, none⟩) smx).trans kfx; have cn0_2 : w2.cell? ⟨w1.heap.size, 2, none⟩ = some (.int .i64 d.validity) := (hb2.cell (p := ⟨w1.heap.size, 2, none⟩) smx).trans kpx; have fn0_2 : w2.frozen? ⟨w1.heap.size, 2, none⟩ = false := (hb2.frozen (p := ⟨w1.heap.size, 2, none⟩) smx).trans kfx; have cn0_3 : w2.cell? ⟨w1.heap.size, 3, none⟩ = some (.int .i64 d.size) := (hb2.cell (p := ⟨w1.heap.size, 3, none⟩) smx).trans kpx; have fn0_3 : w2.frozen? ⟨w1.heap.size, 3, none⟩ = false := (hb2.frozen (p := ⟨w1.heap.size, 3, none⟩) smx).trans kfx; have cn0_4 : w2.cell? ⟨w1.heap.size, 4, none⟩ = some (.slice g2 d.known.length q2) := (hb2.cell (p := ⟨w1.heap.size, 4, none⟩) smx).trans kpx; have fn0_4 : w2.frozen? ⟨w1.heap.size, 4, none⟩ = false := (hb2.frozen (p := ⟨w1.heap.size, 4, none⟩) smx).trans kfx; have cn0_5 : w2.cell? ⟨w1.heap.size, 5, none⟩ = some (.bool d.bad) := (hb2.cell (p := ⟨w1.heap.size, 5, none⟩) smx).trans kpx; have fn0_5 : w2.frozen? ⟨w1.heap.size, 5, none⟩ = false := (hb2.frozen (p := ⟨w1.heap.size, 5, none⟩) smx).trans kfx; have sn0 : w1.heap.size < w2.heap.size := (by have hss := hb2.size; first | omega | (simp at hss; omega))))
        | fail
      all_goals go_wp2_with fail
      all_goals
        go_roundw
        case rel =>
          have A1 : At w2 (w1.heap.size) 0 [.bool d.active, .string d.name, .int .i64 d.validity, .int .i64 d.size, .slice g2 d.known.length q2, .bool d.bad] := HA.out.ext (by omega) hbn
          have A2 : At w2 (w.heap.size + 1) 0 [.bool false, .string ⟨#[]⟩, .int .i64 0, .int .i64 0, .slice none 0 0, .bool false] := HZ.out.ext (by omega) hbn
          have hne : w1.heap.size ≠ w.heap.size + 1 := by omega
          change FoldRel 89 l.length (w1.heap.size) (foldTo c l) w _ (putW w2 (w1.heap.size) 0 [.bool (foldReply d l[k]).active, .string (foldReply d l[k]).name, .int .i64 (foldReply d l[k]).validity, .int .i64 (foldReply d l[k]).size, .slice g3 (foldReply d l[k]).known.length q3, .bool (foldReply d l[k]).bad])
          exact ⟨k + 1, foldReply d l[k], g3, q3, by omega, by go_num, Lib.hid (by rw [foldTo_succ c l k hlt, HD.out]), Lib.hid (Own.putW_off HF3.out _ _ _ HO3.out), Lib.hid HF3.out, Lib.hid (putW_at _ w2 0 A1.some), Lib.hid (putW_at_ne A2 hne), Lib.hid (fun o ho => ⟨putW_frz _ _ _ (((bcell hbn).2 _ _ (by omega)).trans (HFZ.out o ho).1), putW_frz _ _ _ (((bcell hbn).2 _ _ (by omega)).trans (HFZ.out o ho).2)⟩), Below.putW (by omega) _ _ _ (Below.ext hbe hbn), by (rw [putW_size]; have := hbn.size; omega), hsz2⟩
        case measure => simp [intOf]; omega
    · have hkk : k = l.length := by omega
      have HKK := Lib.hid hkk
      clear hkk
      have z0 : wr.cell? ⟨w.heap.size + 1, 0, none⟩ = some (.bool false) := HZ.out 0 _ rfl
      have y0 := (HFZ.out 0 (by omega)).2
      have z1 : wr.cell? ⟨w.heap.size + 1, 1, none⟩ = some (.string ⟨#[]⟩) := HZ.out 1 _ rfl
      have y1 := (HFZ.out 1 (by omega)).2
      have z2 : wr.cell? ⟨w.heap.size + 1, 2, none⟩ = some (.int .i64 0) := HZ.out 2 _ rfl
      have y2 := (HFZ.out 2 (by omega)).2
      have z3 : wr.cell? ⟨w.heap.size + 1, 3, none⟩ = some (.int .i64 0) := HZ.out 3 _ rfl
      have y3 := (HFZ.out 3 (by omega)).2
      have z4 : wr.cell? ⟨w.heap.size + 1, 4, none⟩ = some (.slice none 0 0) := HZ.out 4 _ rfl
      have y4 := (HFZ.out 4 (by omega)).2
      have z5 : wr.cell? ⟨w.heap.size + 1, 5, none⟩ = some (.bool false) := HZ.out 5 _ rfl
      have y5 := (HFZ.out 5 (by omega)).2
      go_wp2_with fail
      have hfin : foldAll c l = d := by (unfold foldAll; rw [← HKK.out]; exact HD.out)
      rw [hfin]
      unfold FoldPost
      refine bodyPost_ret (v := .agg #[.bool d.active, .string d.name, .int .i64 d.validity, .int .i64 d.size, .slice g2 d.known.length q2, .bool d.bad]) (by simp [results, Tryz.results49, go_sem, *]) rfl ⟨_, _, rfl, ?_, ?_⟩
      · refine Own.le (B := w.heap.size + 2) ?_ (by omega)
        exact (by repeat' (first | with_reducible exact HO2.out | with_reducible refine Own.set_below ?_ smx _ | with_reducible refine Own.alloc1 ?_ _ | with_reducible refine Own.drew1 ?_ | with_reducible refine Own.drewN1 ?_ | with_reducible refine Own.ext ?_ (by assumption)))
      · exact bxt

theorem specFoldAll_any (xactive : Bool) (xname : ByteArray) (xvalidity xsize : Int) (xknown : List DSeen) (xknownA : Option Addr) (xknownC : Nat) (xbad : Bool) (l : List DReply) (la : Option Addr) (lc : Nat) (w : World) (R : Rd w xknownA xknownC 2 xknown.length (xknown.flatMap DSeen.cells)) (RL : Rd w la lc 6 l.length (l.flatMap DReply.cells)) (hl : xknown.length ≤ 1048576) (hll : l.length ≤ 1048576)
    (ractive : Bool) (Hractive : Hid ((foldAll (⟨xactive, xname, xvalidity, xsize, xknown, xbad⟩ : DClient) l).active = ractive)) (rname : ByteArray) (Hrname : Hid ((foldAll (⟨xactive, xname, xvalidity, xsize, xknown, xbad⟩ : DClient) l).name = rname)) (rvalidity : Int) (Hrvalidity : Hid ((foldAll (⟨xactive, xname, xvalidity, xsize, xknown, xbad⟩ : DClient) l).validity = rvalidity)) (rsize : Int) (Hrsize : Hid ((foldAll (⟨xactive, xname, xvalidity, xsize, xknown, xbad⟩ : DClient) l).size = rsize)) (rknown : List DSeen) (Hrknown : Hid ((foldAll (⟨xactive, xname, xvalidity, xsize, xknown, xbad⟩ : DClient) l).known = rknown)) (rbad : Bool) (Hrbad : Hid ((foldAll (⟨xactive, xname, xvalidity, xsize, xknown, xbad⟩ : DClient) l).bad = rbad)) :
    Calls Tryz.prog 49 #[.agg #[.bool xactive, .string xname, .int .i64 xvalidity, .int .i64 xsize, .slice xknownA xknown.length xknownC, .bool xbad], .slice la l.length lc] w fun e w' => ∃ g q, e = .returned (.agg #[.bool ractive, .string rname, .int .i64 rvalidity, .int .i64 rsize, .slice g rknown.length q, .bool rbad]) ∧ Own w' w.heap.size 89 2 (.slice g rknown.length q) rknown.length (rknown.flatMap DSeen.cells) ∧ Ext w w' := by
  obtain rfl := Hractive.out
  obtain rfl := Hrname.out
  obtain rfl := Hrvalidity.out
  obtain rfl := Hrsize.out
  obtain rfl := Hrknown.out
  obtain rfl := Hrbad.out
  exact specFoldAll_c (⟨xactive, xname, xvalidity, xsize, xknown, xbad⟩ : DClient) xknownA xknownC l la lc w R RL hl hll
end Go.Proofs.YtidfhkdonhjgaaaGreatDoor
