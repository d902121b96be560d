/-
  A note pushed into a queue: the program's function.
-/
import Derived.Test.YtgobkfnmagcgcaaWspecPush
import Derived.Test.YtgobkfnmagcgcaaWDelNote
import Derived.Deep.RegionLaw
namespace Go.Proofs.Ytgobkfnmagcgcaa
open Go.RowKit
set_option linter.unusedVariables false
set_option linter.unusedSimpArgs false

set_option maxRecDepth 100000 in
set_option maxHeartbeats 4000000 in
theorem without_true (l : List DNote) (a : Option Addr) (c B0 : Nat) (w : World) (R : Rd w a c 4 l.length (l.flatMap DNote.cells)) (hl : l.length ≤ 1048576) (q0 : w.cell? ⟨B0, 0, none⟩ = some (.slice a l.length c)) (f0 : w.frozen? ⟨B0, 0, none⟩ = false) (hB : B0 < w.heap.size) (r : List DNote) (Hr : Hid (l.filter (onlyIs true) = r)) :
    Calls Try.prog 98 #[.pointer (some ⟨B0, 0, none⟩), .func (.func 62) #[] #[]] w fun e w' => ∃ g q w2, e = .returned (.tuple #[]) ∧ w' = w2.setCell ⟨B0, 0, none⟩ (.slice g r.length q) ∧ Own w2 w.heap.size 36 4 (.slice g r.length q) r.length (r.flatMap DNote.cells) ∧ Ext w w2 := by
  have HR := Lib.hid R
  clear R
  go_enter Try.func98, Try.ntmps98
  go_wp2_with (first | (go_at_call 96; refine (cloneNoteS_any l _ _ _ (HR.out.ext bxt) (by omega)).mono ?_; rintro e w1 ⟨g, q, rfl, hown, hb1⟩; have HO := Lib.hid hown; have HX := Lib.hid hb1; have hsz := hb1.size; (try simp at hsz); clear hown) | go_loud (go_at_call 118; refine (del_true l g q w.heap.size _ HO.out (by omega) r Hr).mono ?_; rintro e w2 ⟨rfl, hown2, hg2⟩; have hbel := below_foot (B := w.heap.size) HX.out HO.out (Nat.le_refl _) (by omega) hg2; have p0 := (hbel.cell (p := ⟨B0, 0, none⟩) hB).trans q0; have p1 := (hbel.frozen (p := ⟨B0, 0, none⟩) hB).trans f0; have H2 := Lib.hid hown2; clear hown2 hg2))
  refine bodyPost_end (results_none rfl _ _ _) rfl ⟨g, q, w2, rfl, rfl, H2.out, hbel⟩

set_option maxRecDepth 100000 in
set_option maxHeartbeats 4000000 in
theorem without_false (l : List DNote) (a : Option Addr) (c B0 : Nat) (w : World) (R : Rd w a c 4 l.length (l.flatMap DNote.cells)) (hl : l.length ≤ 1048576) (q0 : w.cell? ⟨B0, 0, none⟩ = some (.slice a l.length c)) (f0 : w.frozen? ⟨B0, 0, none⟩ = false) (hB : B0 < w.heap.size) (r : List DNote) (Hr : Hid (l.filter (onlyIs false) = r)) :
    Calls Try.prog 98 #[.pointer (some ⟨B0, 0, none⟩), .func (.func 60) #[] #[]] w fun e w' => ∃ g q w2, e = .returned (.tuple #[]) ∧ w' = w2.setCell ⟨B0, 0, none⟩ (.slice g r.length q) ∧ Own w2 w.heap.size 36 4 (.slice g r.length q) r.length (r.flatMap DNote.cells) ∧ Ext w w2 := by
  have HR := Lib.hid R
  clear R
  go_enter Try.func98, Try.ntmps98
  go_wp2_with (first | (go_at_call 96; refine (cloneNoteS_any l _ _ _ (HR.out.ext bxt) (by omega)).mono ?_; rintro e w1 ⟨g, q, rfl, hown, hb1⟩; have HO := Lib.hid hown; have HX := Lib.hid hb1; have hsz := hb1.size; (try simp at hsz); clear hown) | go_loud (go_at_call 118; refine (del_false l g q w.heap.size _ HO.out (by omega) r Hr).mono ?_; rintro e w2 ⟨rfl, hown2, hg2⟩; have hbel := below_foot (B := w.heap.size) HX.out HO.out (Nat.le_refl _) (by omega) hg2; have p0 := (hbel.cell (p := ⟨B0, 0, none⟩) hB).trans q0; have p1 := (hbel.frozen (p := ⟨B0, 0, none⟩) hB).trans f0; have H2 := Lib.hid hown2; clear hown2 hg2))
  refine bodyPost_end (results_none rfl _ _ _) rfl ⟨g, q, w2, rfl, rfl, H2.out, hbel⟩

/-- a queue's box behind a note -/
def PushI (E Bs B0 : Nat) (d : DQueue) (w : World) (e : Ending) (w' : World) : Prop :=
  ∃ g q, e = .returned (.tuple #[]) ∧ w'.cell? ⟨B0, 0, none⟩ = some (.slice g d.notes.length q) ∧ w'.cell? ⟨B0, 1, none⟩ = some (.bool d.resync) ∧ w'.cell? ⟨B0, 2, none⟩ = some (.bool d.lost) ∧ Own w' Bs E 4 (.slice g d.notes.length q) d.notes.length (d.notes.flatMap DNote.cells) ∧ Below B0 w w' ∧ B0 < w'.heap.size

set_option maxRecDepth 100000 in
set_option maxHeartbeats 4000000 in
theorem implPush_lo (l : List DNote) (a : Option Addr) (c : Nat) (rb rc : Bool) (n : DNote) (Bs B0 : Nat) (w : World) (h : Own w Bs 36 4 (.slice a l.length c) l.length (l.flatMap DNote.cells)) (hl : l.length ≤ 1048576) (hB : B0 < w.heap.size) (hBs : Bs ≤ B0) (hoff : foot (.slice a l.length c) ≠ some B0) (q0 : w.cell? ⟨B0, 0, none⟩ = some (.slice a l.length c)) (q1 : w.cell? ⟨B0, 1, none⟩ = some (.bool rb)) (q2 : w.cell? ⟨B0, 2, none⟩ = some (.bool rc)) (f0 : w.frozen? ⟨B0, 0, none⟩ = false) (f1 : w.frozen? ⟨B0, 1, none⟩ = false) (f2 : w.frozen? ⟨B0, 2, none⟩ = false) (hk : n.kind ≠ 1) (hb : rc = true) :
    Calls Try.prog 55 #[.pointer (some ⟨B0, 0, none⟩), .agg #[.int .i64 n.kind, .int .i64 n.n, .int .i64 n.uid, .string n.name]] w (PushI 36 Bs B0 ⟨l, rb, rc⟩ w) := by
  have HO := Lib.hid h
  have HF := Lib.hid hoff
  clear h hoff
  subst hb
  have HT : Hid ((n.kind != 1) = true) := by simp [Hid, hk]
  have k1 : (n.kind == 1) = false := by simp [hk]
  clear hk
  go_enter Try.func55, Try.ntmps55
  go_upto_region 4 with (go_at_call 62; refine (isOtherNote_any n _ _ HT).mono ?_; rintro e w1 ⟨rfl, hb1⟩; obtain ⟨hc1, hf1⟩ := bcell hb1; have hz1 := hb1.size; (try simp at hz1); have s10 : B0 < w1.heap.size := (by omega); have s11 : w.heap.size < w1.heap.size := (by omega))
  refine wp_world (fun V hV => ?_)
  have hwV : Ext w V := by (rw [hV]; exact bxt)
  have Vq0 : V.cell? ⟨B0, 0, none⟩ = some (.slice a l.length c) := (hwV.cell (p := ⟨B0, 0, none⟩) hB).trans q0
  have Vf0 : V.frozen? ⟨B0, 0, none⟩ = false := (hwV.frozen (p := ⟨B0, 0, none⟩) hB).trans f0
  have Vq1 : V.cell? ⟨B0, 1, none⟩ = some (.bool rb) := (hwV.cell (p := ⟨B0, 1, none⟩) hB).trans q1
  have Vf1 : V.frozen? ⟨B0, 1, none⟩ = false := (hwV.frozen (p := ⟨B0, 1, none⟩) hB).trans f1
  have Vq2 : V.cell? ⟨B0, 2, none⟩ = some (.bool true) := (hwV.cell (p := ⟨B0, 2, none⟩) hB).trans q2
  have Vf2 : V.frozen? ⟨B0, 2, none⟩ = false := (hwV.frozen (p := ⟨B0, 2, none⟩) hB).trans f2
  have Vn0 : V.cell? ⟨w.heap.size, 0, none⟩ = some (.int .i64 n.kind) := by (rw [hV]; simp [go_sem, *])
  have Vn1 : V.cell? ⟨w.heap.size, 1, none⟩ = some (.int .i64 n.n) := by (rw [hV]; simp [go_sem, *])
  have Vn2 : V.cell? ⟨w.heap.size, 2, none⟩ = some (.int .i64 n.uid) := by (rw [hV]; simp [go_sem, *])
  have Vn3 : V.cell? ⟨w.heap.size, 3, none⟩ = some (.string n.name) := by (rw [hV]; simp [go_sem, *])
  have Vs1 : w.heap.size < V.heap.size := by (rw [hV]; first | omega | (simp; omega))
  have Vs0 : B0 < V.heap.size := by omega
  clear hV
  have xVq0 := fun y : ExtW V => (y.h.cell (p := ⟨B0, 0, none⟩) Vs0).trans Vq0
  have xVq1 := fun y : ExtW V => (y.h.cell (p := ⟨B0, 1, none⟩) Vs0).trans Vq1
  have xVq2 := fun y : ExtW V => (y.h.cell (p := ⟨B0, 2, none⟩) Vs0).trans Vq2
  have xVn0 := fun y : ExtW V => (y.h.cell (p := ⟨w.heap.size, 0, none⟩) Vs1).trans Vn0
  have xVn1 := fun y : ExtW V => (y.h.cell (p := ⟨w.heap.size, 1, none⟩) Vs1).trans Vn1
  have xVn2 := fun y : ExtW V => (y.h.cell (p := ⟨w.heap.size, 2, none⟩) Vs1).trans Vn2
  have xVn3 := fun y : ExtW V => (y.h.cell (p := ⟨w.heap.size, 3, none⟩) Vs1).trans Vn3
  refine wp_region_ext (by kernel_rfl) (by kernel_rfl) ?_
  repeat (go_big_quiet_step (fail))
  refine wpQuiet_nil ?_
  rintro w3 ⟨⟨w3x, hw3⟩, hx3⟩
  have hx4 : w3 = w3x := hx3
  subst hx4
  clear hx3  xVq0 xVq1 xVq2 xVn0 xVn1 xVn2 xVn3
  have hw30 : Ext w w3 := Below.ext hwV hw3
  have HE := Lib.hid hw30
  go_wp2_with fail
  first
    | refine bodyPost_ret (results_none rfl _ _ _) rfl ⟨a, c, rfl, (HE.out.cell (p := ⟨B0, 0, none⟩) hB).trans q0, (HE.out.cell (p := ⟨B0, 1, none⟩) hB).trans q1, (HE.out.cell (p := ⟨B0, 2, none⟩) hB).trans q2, HO.out.ext HE.out, Below.mono HE.out (by omega), by have := HE.out.size; omega⟩
    | refine bodyPost_end (results_none rfl _ _ _) rfl ⟨a, c, rfl, (HE.out.cell (p := ⟨B0, 0, none⟩) hB).trans q0, (HE.out.cell (p := ⟨B0, 1, none⟩) hB).trans q1, (HE.out.cell (p := ⟨B0, 2, none⟩) hB).trans q2, HO.out.ext HE.out, Below.mono HE.out (by omega), by have := HE.out.size; omega⟩

set_option maxRecDepth 100000 in
set_option maxHeartbeats 4000000 in
theorem implPush_st (l : List DNote) (a : Option Addr) (c : Nat) (rb rc : Bool) (n : DNote) (Bs B0 : Nat) (w : World) (h : Own w Bs 36 4 (.slice a l.length c) l.length (l.flatMap DNote.cells)) (hl : l.length ≤ 1048576) (hB : B0 < w.heap.size) (hBs : Bs ≤ B0) (hoff : foot (.slice a l.length c) ≠ some B0) (q0 : w.cell? ⟨B0, 0, none⟩ = some (.slice a l.length c)) (q1 : w.cell? ⟨B0, 1, none⟩ = some (.bool rb)) (q2 : w.cell? ⟨B0, 2, none⟩ = some (.bool rc)) (f0 : w.frozen? ⟨B0, 0, none⟩ = false) (f1 : w.frozen? ⟨B0, 1, none⟩ = false) (f2 : w.frozen? ⟨B0, 2, none⟩ = false) (hk : n.kind ≠ 1) (hb : rc = false) (h2 : n.kind = 2) (hs : l.any (fun x => decide (n = x)) = true) :
    Calls Try.prog 55 #[.pointer (some ⟨B0, 0, none⟩), .agg #[.int .i64 n.kind, .int .i64 n.n, .int .i64 n.uid, .string n.name]] w (PushI 36 Bs B0 ⟨l, rb, rc⟩ w) := by
  have HO := Lib.hid h
  have HF := Lib.hid hoff
  clear h hoff
  subst hb
  have HT : Hid ((n.kind != 1) = true) := by simp [Hid, hk]
  have k1 : (n.kind == 1) = false := by simp [hk]
  have k2 : (n.kind == 2) = true := by simp [h2]
  have HS := Lib.hid hs
  clear hk h2 hs
  go_enter Try.func55, Try.ntmps55
  go_upto_region 4 with (go_at_call 62; refine (isOtherNote_any n _ _ HT).mono ?_; rintro e w1 ⟨rfl, hb1⟩; obtain ⟨hc1, hf1⟩ := bcell hb1; have hz1 := hb1.size; (try simp at hz1); have s10 : B0 < w1.heap.size := (by omega); have s11 : w.heap.size < w1.heap.size := (by omega))
  refine wp_world (fun V hV => ?_)
  have hwV : Ext w V := by (rw [hV]; exact bxt)
  have Vq0 : V.cell? ⟨B0, 0, none⟩ = some (.slice a l.length c) := (hwV.cell (p := ⟨B0, 0, none⟩) hB).trans q0
  have Vf0 : V.frozen? ⟨B0, 0, none⟩ = false := (hwV.frozen (p := ⟨B0, 0, none⟩) hB).trans f0
  have Vq1 : V.cell? ⟨B0, 1, none⟩ = some (.bool rb) := (hwV.cell (p := ⟨B0, 1, none⟩) hB).trans q1
  have Vf1 : V.frozen? ⟨B0, 1, none⟩ = false := (hwV.frozen (p := ⟨B0, 1, none⟩) hB).trans f1
  have Vq2 : V.cell? ⟨B0, 2, none⟩ = some (.bool false) := (hwV.cell (p := ⟨B0, 2, none⟩) hB).trans q2
  have Vf2 : V.frozen? ⟨B0, 2, none⟩ = false := (hwV.frozen (p := ⟨B0, 2, none⟩) hB).trans f2
  have Vn0 : V.cell? ⟨w.heap.size, 0, none⟩ = some (.int .i64 n.kind) := by (rw [hV]; simp [go_sem, *])
  have Vn1 : V.cell? ⟨w.heap.size, 1, none⟩ = some (.int .i64 n.n) := by (rw [hV]; simp [go_sem, *])
  have Vn2 : V.cell? ⟨w.heap.size, 2, none⟩ = some (.int .i64 n.uid) := by (rw [hV]; simp [go_sem, *])
  have Vn3 : V.cell? ⟨w.heap.size, 3, none⟩ = some (.string n.name) := by (rw [hV]; simp [go_sem, *])
  have Vs1 : w.heap.size < V.heap.size := by (rw [hV]; first | omega | (simp; omega))
  have Vs0 : B0 < V.heap.size := by omega
  clear hV
  have xVq0 := fun y : ExtW V => (y.h.cell (p := ⟨B0, 0, none⟩) Vs0).trans Vq0
  have xVq1 := fun y : ExtW V => (y.h.cell (p := ⟨B0, 1, none⟩) Vs0).trans Vq1
  have xVq2 := fun y : ExtW V => (y.h.cell (p := ⟨B0, 2, none⟩) Vs0).trans Vq2
  have xVn0 := fun y : ExtW V => (y.h.cell (p := ⟨w.heap.size, 0, none⟩) Vs1).trans Vn0
  have xVn1 := fun y : ExtW V => (y.h.cell (p := ⟨w.heap.size, 1, none⟩) Vs1).trans Vn1
  have xVn2 := fun y : ExtW V => (y.h.cell (p := ⟨w.heap.size, 2, none⟩) Vs1).trans Vn2
  have xVn3 := fun y : ExtW V => (y.h.cell (p := ⟨w.heap.size, 3, none⟩) Vs1).trans Vn3
  refine wp_region_ext (by kernel_rfl) (by kernel_rfl) ?_
  repeat (go_big_quiet_step ((go_at_call 63; refine (noteContains_of l a c n l.length rfl _ ((Rd.of_Own HO.out).ext (ExtW.of hwV _)) true HS).mono ?_; rintro e w4 ⟨rfl, hb4⟩; exact ⟨rfl, ExtW.on _ hb4⟩)))
  refine wpQuiet_nil ?_
  rintro w3 ⟨⟨w3x, hw3⟩, hx3⟩
  have hx4 : w3 = w3x := hx3
  subst hx4
  clear hx3  xVq0 xVq1 xVq2 xVn0 xVn1 xVn2 xVn3
  have hw30 : Ext w w3 := Below.ext hwV hw3
  have HE := Lib.hid hw30
  go_wp2_with fail
  first
    | refine bodyPost_ret (results_none rfl _ _ _) rfl ⟨a, c, rfl, (HE.out.cell (p := ⟨B0, 0, none⟩) hB).trans q0, (HE.out.cell (p := ⟨B0, 1, none⟩) hB).trans q1, (HE.out.cell (p := ⟨B0, 2, none⟩) hB).trans q2, HO.out.ext HE.out, Below.mono HE.out (by omega), by have := HE.out.size; omega⟩
    | refine bodyPost_end (results_none rfl _ _ _) rfl ⟨a, c, rfl, (HE.out.cell (p := ⟨B0, 0, none⟩) hB).trans q0, (HE.out.cell (p := ⟨B0, 1, none⟩) hB).trans q1, (HE.out.cell (p := ⟨B0, 2, none⟩) hB).trans q2, HO.out.ext HE.out, Below.mono HE.out (by omega), by have := HE.out.size; omega⟩

set_option maxRecDepth 100000 in
set_option maxHeartbeats 4000000 in
theorem implPush_rs (l : List DNote) (a : Option Addr) (c : Nat) (rb rc : Bool) (n : DNote) (Bs B0 : Nat) (w : World) (h : Own w Bs 36 4 (.slice a l.length c) l.length (l.flatMap DNote.cells)) (hl : l.length ≤ 1048576) (hB : B0 < w.heap.size) (hBs : Bs ≤ B0) (hoff : foot (.slice a l.length c) ≠ some B0) (q0 : w.cell? ⟨B0, 0, none⟩ = some (.slice a l.length c)) (q1 : w.cell? ⟨B0, 1, none⟩ = some (.bool rb)) (q2 : w.cell? ⟨B0, 2, none⟩ = some (.bool rc)) (f0 : w.frozen? ⟨B0, 0, none⟩ = false) (f1 : w.frozen? ⟨B0, 1, none⟩ = false) (f2 : w.frozen? ⟨B0, 2, none⟩ = false) (hk : n.kind = 1) (hb : rb = true) :
    Calls Try.prog 55 #[.pointer (some ⟨B0, 0, none⟩), .agg #[.int .i64 n.kind, .int .i64 n.n, .int .i64 n.uid, .string n.name]] w (PushI 36 Bs B0 ⟨l, rb, rc⟩ w) := by
  have HO := Lib.hid h
  have HF := Lib.hid hoff
  clear h hoff
  subst hb
  have HT : Hid ((n.kind != 1) = false) := by simp [Hid, hk]
  have k1 : (n.kind == 1) = true := by simp [hk]
  clear hk
  go_enter Try.func55, Try.ntmps55
  go_upto_region 10 with (go_at_call 62; refine (isOtherNote_any n _ _ HT).mono ?_; rintro e w1 ⟨rfl, hb1⟩; obtain ⟨hc1, hf1⟩ := bcell hb1; have hz1 := hb1.size; (try simp at hz1); have s10 : B0 < w1.heap.size := (by omega); have s11 : w.heap.size < w1.heap.size := (by omega))
  refine wp_world (fun V hV => ?_)
  have hwV : Ext w V := by (rw [hV]; exact bxt)
  have Vq0 : V.cell? ⟨B0, 0, none⟩ = some (.slice a l.length c) := (hwV.cell (p := ⟨B0, 0, none⟩) hB).trans q0
  have Vf0 : V.frozen? ⟨B0, 0, none⟩ = false := (hwV.frozen (p := ⟨B0, 0, none⟩) hB).trans f0
  have Vq1 : V.cell? ⟨B0, 1, none⟩ = some (.bool true) := (hwV.cell (p := ⟨B0, 1, none⟩) hB).trans q1
  have Vf1 : V.frozen? ⟨B0, 1, none⟩ = false := (hwV.frozen (p := ⟨B0, 1, none⟩) hB).trans f1
  have Vq2 : V.cell? ⟨B0, 2, none⟩ = some (.bool rc) := (hwV.cell (p := ⟨B0, 2, none⟩) hB).trans q2
  have Vf2 : V.frozen? ⟨B0, 2, none⟩ = false := (hwV.frozen (p := ⟨B0, 2, none⟩) hB).trans f2
  have Vn0 : V.cell? ⟨w.heap.size, 0, none⟩ = some (.int .i64 n.kind) := by (rw [hV]; simp [go_sem, *])
  have Vn1 : V.cell? ⟨w.heap.size, 1, none⟩ = some (.int .i64 n.n) := by (rw [hV]; simp [go_sem, *])
  have Vn2 : V.cell? ⟨w.heap.size, 2, none⟩ = some (.int .i64 n.uid) := by (rw [hV]; simp [go_sem, *])
  have Vn3 : V.cell? ⟨w.heap.size, 3, none⟩ = some (.string n.name) := by (rw [hV]; simp [go_sem, *])
  have Vs1 : w.heap.size < V.heap.size := by (rw [hV]; first | omega | (simp; omega))
  have Vs0 : B0 < V.heap.size := by omega
  clear hV
  have xVq0 := fun y : ExtW V => (y.h.cell (p := ⟨B0, 0, none⟩) Vs0).trans Vq0
  have xVq1 := fun y : ExtW V => (y.h.cell (p := ⟨B0, 1, none⟩) Vs0).trans Vq1
  have xVq2 := fun y : ExtW V => (y.h.cell (p := ⟨B0, 2, none⟩) Vs0).trans Vq2
  have xVn0 := fun y : ExtW V => (y.h.cell (p := ⟨w.heap.size, 0, none⟩) Vs1).trans Vn0
  have xVn1 := fun y : ExtW V => (y.h.cell (p := ⟨w.heap.size, 1, none⟩) Vs1).trans Vn1
  have xVn2 := fun y : ExtW V => (y.h.cell (p := ⟨w.heap.size, 2, none⟩) Vs1).trans Vn2
  have xVn3 := fun y : ExtW V => (y.h.cell (p := ⟨w.heap.size, 3, none⟩) Vs1).trans Vn3
  refine wp_region_ext (by kernel_rfl) (by kernel_rfl) ?_
  repeat (go_big_quiet_step (fail))
  refine wpQuiet_nil ?_
  rintro w3 ⟨⟨w3x, hw3⟩, hx3⟩
  have hx4 : w3 = w3x := hx3
  subst hx4
  clear hx3  xVq0 xVq1 xVq2 xVn0 xVn1 xVn2 xVn3
  have hw30 : Ext w w3 := Below.ext hwV hw3
  have HE := Lib.hid hw30
  go_wp2_with fail
  first
    | refine bodyPost_ret (results_none rfl _ _ _) rfl ⟨a, c, rfl, (HE.out.cell (p := ⟨B0, 0, none⟩) hB).trans q0, (HE.out.cell (p := ⟨B0, 1, none⟩) hB).trans q1, (HE.out.cell (p := ⟨B0, 2, none⟩) hB).trans q2, HO.out.ext HE.out, Below.mono HE.out (by omega), by have := HE.out.size; omega⟩
    | refine bodyPost_end (results_none rfl _ _ _) rfl ⟨a, c, rfl, (HE.out.cell (p := ⟨B0, 0, none⟩) hB).trans q0, (HE.out.cell (p := ⟨B0, 1, none⟩) hB).trans q1, (HE.out.cell (p := ⟨B0, 2, none⟩) hB).trans q2, HO.out.ext HE.out, Below.mono HE.out (by omega), by have := HE.out.size; omega⟩

set_option maxRecDepth 100000 in
set_option maxHeartbeats 4000000 in
theorem implPush_ab (l : List DNote) (a : Option Addr) (c : Nat) (rb rc : Bool) (n : DNote) (Bs B0 : Nat) (w : World) (h : Own w Bs 36 4 (.slice a l.length c) l.length (l.flatMap DNote.cells)) (hl : l.length ≤ 1048576) (hB : B0 < w.heap.size) (hBs : Bs ≤ B0) (hoff : foot (.slice a l.length c) ≠ some B0) (q0 : w.cell? ⟨B0, 0, none⟩ = some (.slice a l.length c)) (q1 : w.cell? ⟨B0, 1, none⟩ = some (.bool rb)) (q2 : w.cell? ⟨B0, 2, none⟩ = some (.bool rc)) (f0 : w.frozen? ⟨B0, 0, none⟩ = false) (f1 : w.frozen? ⟨B0, 1, none⟩ = false) (f2 : w.frozen? ⟨B0, 2, none⟩ = false) (hk : n.kind = 1) (hb : rb = false) (hz : 0 ≤ n.n) (ha : l.any (boxIn n.n) = true) :
    Calls Try.prog 55 #[.pointer (some ⟨B0, 0, none⟩), .agg #[.int .i64 n.kind, .int .i64 n.n, .int .i64 n.uid, .string n.name]] w (PushI 36 Bs B0 ⟨l, rb, rc⟩ w) := by
  have HO := Lib.hid h
  have HF := Lib.hid hoff
  clear h hoff
  subst hb
  have HT : Hid ((n.kind != 1) = false) := by simp [Hid, hk]
  have k1 : (n.kind == 1) = true := by simp [hk]
  clear hk
  have hle := lastBox_le l n.n hz
  rw [ha] at hle
  obtain ⟨z, hzz⟩ : ∃ z, lastBox l = z := ⟨_, rfl⟩
  rw [hzz] at hle
  have HZ := Lib.hid hzz
  clear hzz hz ha
  go_enter Try.func55, Try.ntmps55
  go_upto_region 10 with (go_at_call 62; refine (isOtherNote_any n _ _ HT).mono ?_; rintro e w1 ⟨rfl, hb1⟩; obtain ⟨hc1, hf1⟩ := bcell hb1; have hz1 := hb1.size; (try simp at hz1); have s10 : B0 < w1.heap.size := (by omega); have s11 : w.heap.size < w1.heap.size := (by omega))
  refine wp_world (fun V hV => ?_)
  have hwV : Ext w V := by (rw [hV]; exact bxt)
  have Vq0 : V.cell? ⟨B0, 0, none⟩ = some (.slice a l.length c) := (hwV.cell (p := ⟨B0, 0, none⟩) hB).trans q0
  have Vf0 : V.frozen? ⟨B0, 0, none⟩ = false := (hwV.frozen (p := ⟨B0, 0, none⟩) hB).trans f0
  have Vq1 : V.cell? ⟨B0, 1, none⟩ = some (.bool false) := (hwV.cell (p := ⟨B0, 1, none⟩) hB).trans q1
  have Vf1 : V.frozen? ⟨B0, 1, none⟩ = false := (hwV.frozen (p := ⟨B0, 1, none⟩) hB).trans f1
  have Vq2 : V.cell? ⟨B0, 2, none⟩ = some (.bool rc) := (hwV.cell (p := ⟨B0, 2, none⟩) hB).trans q2
  have Vf2 : V.frozen? ⟨B0, 2, none⟩ = false := (hwV.frozen (p := ⟨B0, 2, none⟩) hB).trans f2
  have Vn0 : V.cell? ⟨w.heap.size, 0, none⟩ = some (.int .i64 n.kind) := by (rw [hV]; simp [go_sem, *])
  have Vn1 : V.cell? ⟨w.heap.size, 1, none⟩ = some (.int .i64 n.n) := by (rw [hV]; simp [go_sem, *])
  have Vn2 : V.cell? ⟨w.heap.size, 2, none⟩ = some (.int .i64 n.uid) := by (rw [hV]; simp [go_sem, *])
  have Vn3 : V.cell? ⟨w.heap.size, 3, none⟩ = some (.string n.name) := by (rw [hV]; simp [go_sem, *])
  have Vs1 : w.heap.size < V.heap.size := by (rw [hV]; first | omega | (simp; omega))
  have Vs0 : B0 < V.heap.size := by omega
  clear hV
  have xVq0 := fun y : ExtW V => (y.h.cell (p := ⟨B0, 0, none⟩) Vs0).trans Vq0
  have xVq1 := fun y : ExtW V => (y.h.cell (p := ⟨B0, 1, none⟩) Vs0).trans Vq1
  have xVq2 := fun y : ExtW V => (y.h.cell (p := ⟨B0, 2, none⟩) Vs0).trans Vq2
  have xVn0 := fun y : ExtW V => (y.h.cell (p := ⟨w.heap.size, 0, none⟩) Vs1).trans Vn0
  have xVn1 := fun y : ExtW V => (y.h.cell (p := ⟨w.heap.size, 1, none⟩) Vs1).trans Vn1
  have xVn2 := fun y : ExtW V => (y.h.cell (p := ⟨w.heap.size, 2, none⟩) Vs1).trans Vn2
  have xVn3 := fun y : ExtW V => (y.h.cell (p := ⟨w.heap.size, 3, none⟩) Vs1).trans Vn3
  refine wp_region_ext (by kernel_rfl) (by kernel_rfl) ?_
  repeat (go_big_quiet_step ((go_at_call 61; refine (lastBox_of l a c false rc l.length rfl _ ((Rd.of_Own HO.out).ext (ExtW.of hwV _)) z HZ).mono ?_; rintro e w4 ⟨rfl, hb4⟩; exact ⟨rfl, ExtW.on _ hb4⟩)))
  refine wpQuiet_nil ?_
  rintro w3 ⟨⟨w3x, hw3⟩, hx3⟩
  have hx4 : w3 = w3x := hx3
  subst hx4
  clear hx3  xVq0 xVq1 xVq2 xVn0 xVn1 xVn2 xVn3
  have hw30 : Ext w w3 := Below.ext hwV hw3
  have HE := Lib.hid hw30
  go_wp2_with fail
  first
    | refine bodyPost_ret (results_none rfl _ _ _) rfl ⟨a, c, rfl, (HE.out.cell (p := ⟨B0, 0, none⟩) hB).trans q0, (HE.out.cell (p := ⟨B0, 1, none⟩) hB).trans q1, (HE.out.cell (p := ⟨B0, 2, none⟩) hB).trans q2, HO.out.ext HE.out, Below.mono HE.out (by omega), by have := HE.out.size; omega⟩
    | refine bodyPost_end (results_none rfl _ _ _) rfl ⟨a, c, rfl, (HE.out.cell (p := ⟨B0, 0, none⟩) hB).trans q0, (HE.out.cell (p := ⟨B0, 1, none⟩) hB).trans q1, (HE.out.cell (p := ⟨B0, 2, none⟩) hB).trans q2, HO.out.ext HE.out, Below.mono HE.out (by omega), by have := HE.out.size; omega⟩

set_option maxRecDepth 100000 in
set_option maxHeartbeats 4000000 in
theorem implPush_ks (l : List DNote) (a : Option Addr) (c : Nat) (rb rc : Bool) (n : DNote) (Bs B0 : Nat) (w : World) (h : Own w Bs 36 4 (.slice a l.length c) l.length (l.flatMap DNote.cells)) (hl : l.length ≤ 1048576) (hB : B0 < w.heap.size) (hBs : Bs ≤ B0) (hoff : foot (.slice a l.length c) ≠ some B0) (q0 : w.cell? ⟨B0, 0, none⟩ = some (.slice a l.length c)) (q1 : w.cell? ⟨B0, 1, none⟩ = some (.bool rb)) (q2 : w.cell? ⟨B0, 2, none⟩ = some (.bool rc)) (f0 : w.frozen? ⟨B0, 0, none⟩ = false) (f1 : w.frozen? ⟨B0, 1, none⟩ = false) (f2 : w.frozen? ⟨B0, 2, none⟩ = false) (r : List DNote) (HR5 : Hid (l.filter (onlyIs true) = r)) (hk : n.kind ≠ 1) (hb : rc = false) (h2 : ¬ (n.kind = 2 ∧ l.any (fun x => decide (n = x)) = true)) (h6 : l.length = 6) :
    Calls Try.prog 55 #[.pointer (some ⟨B0, 0, none⟩), .agg #[.int .i64 n.kind, .int .i64 n.n, .int .i64 n.uid, .string n.name]] w (PushI 36 Bs B0 ⟨r, rb, true⟩ w) := by
  have HO := Lib.hid h
  have HF := Lib.hid hoff
  clear h hoff
  subst hb
  have HT : Hid ((n.kind != 1) = true) := by simp [Hid, hk]
  have k1 : (n.kind == 1) = false := by simp [hk]
  have m6 : ((l.length : Int) == 6) = true := by (simp; omega)
  by_cases hk2 : n.kind = 2
  · skip
    have k2 : (n.kind == 2) = true := by simp [hk2]
    have HS : Hid (l.any (fun x => decide (n = x)) = false) := by (unfold Hid; cases hh : l.any (fun x => decide (n = x)); rfl; exact (h2 ⟨hk2, hh⟩).elim)
    clear hk2 h2 h6 hk
    go_enter Try.func55, Try.ntmps55
    go_upto_region 4 with (go_at_call 62; refine (isOtherNote_any n _ _ HT).mono ?_; rintro e w1 ⟨rfl, hb1⟩; obtain ⟨hc1, hf1⟩ := bcell hb1; have hz1 := hb1.size; (try simp at hz1); have s10 : B0 < w1.heap.size := (by omega); have s11 : w.heap.size < w1.heap.size := (by omega))
    refine wp_world (fun V hV => ?_)
    have hwV : Ext w V := by (rw [hV]; exact bxt)
    have Vq0 : V.cell? ⟨B0, 0, none⟩ = some (.slice a l.length c) := (hwV.cell (p := ⟨B0, 0, none⟩) hB).trans q0
    have Vf0 : V.frozen? ⟨B0, 0, none⟩ = false := (hwV.frozen (p := ⟨B0, 0, none⟩) hB).trans f0
    have Vq1 : V.cell? ⟨B0, 1, none⟩ = some (.bool rb) := (hwV.cell (p := ⟨B0, 1, none⟩) hB).trans q1
    have Vf1 : V.frozen? ⟨B0, 1, none⟩ = false := (hwV.frozen (p := ⟨B0, 1, none⟩) hB).trans f1
    have Vq2 : V.cell? ⟨B0, 2, none⟩ = some (.bool false) := (hwV.cell (p := ⟨B0, 2, none⟩) hB).trans q2
    have Vf2 : V.frozen? ⟨B0, 2, none⟩ = false := (hwV.frozen (p := ⟨B0, 2, none⟩) hB).trans f2
    have Vn0 : V.cell? ⟨w.heap.size, 0, none⟩ = some (.int .i64 n.kind) := by (rw [hV]; simp [go_sem, *])
    have Vn1 : V.cell? ⟨w.heap.size, 1, none⟩ = some (.int .i64 n.n) := by (rw [hV]; simp [go_sem, *])
    have Vn2 : V.cell? ⟨w.heap.size, 2, none⟩ = some (.int .i64 n.uid) := by (rw [hV]; simp [go_sem, *])
    have Vn3 : V.cell? ⟨w.heap.size, 3, none⟩ = some (.string n.name) := by (rw [hV]; simp [go_sem, *])
    have Vs1 : w.heap.size < V.heap.size := by (rw [hV]; first | omega | (simp; omega))
    have Vs0 : B0 < V.heap.size := by omega
    clear hV
    have xVq0 := fun y : ExtW V => (y.h.cell (p := ⟨B0, 0, none⟩) Vs0).trans Vq0
    have xVq1 := fun y : ExtW V => (y.h.cell (p := ⟨B0, 1, none⟩) Vs0).trans Vq1
    have xVq2 := fun y : ExtW V => (y.h.cell (p := ⟨B0, 2, none⟩) Vs0).trans Vq2
    have xVn0 := fun y : ExtW V => (y.h.cell (p := ⟨w.heap.size, 0, none⟩) Vs1).trans Vn0
    have xVn1 := fun y : ExtW V => (y.h.cell (p := ⟨w.heap.size, 1, none⟩) Vs1).trans Vn1
    have xVn2 := fun y : ExtW V => (y.h.cell (p := ⟨w.heap.size, 2, none⟩) Vs1).trans Vn2
    have xVn3 := fun y : ExtW V => (y.h.cell (p := ⟨w.heap.size, 3, none⟩) Vs1).trans Vn3
    refine wp_region_ext (by kernel_rfl) (by kernel_rfl) ?_
    repeat (go_big_quiet_step ((go_at_call 63; refine (noteContains_of l a c n l.length rfl _ ((Rd.of_Own HO.out).ext (ExtW.of hwV _)) false HS).mono ?_; rintro e w4 ⟨rfl, hb4⟩; exact ⟨rfl, ExtW.on _ hb4⟩)))
    refine wpQuiet_nil ?_
    rintro w3 ⟨⟨w3x, hw3⟩, hx3⟩
    have hx4 : w3 = w3x := hx3
    subst hx4
    clear hx3  xVq0 xVq1 xVq2 xVn0 xVn1 xVn2 xVn3
    have hw30 : Ext w w3 := Below.ext hwV hw3
    have y0 := (hw30.cell (p := ⟨B0, 0, none⟩) hB).trans q0
    have g0 := (hw30.frozen (p := ⟨B0, 0, none⟩) hB).trans f0
    have y1 := (hw30.cell (p := ⟨B0, 1, none⟩) hB).trans q1
    have g1 := (hw30.frozen (p := ⟨B0, 1, none⟩) hB).trans f1
    have y2 := (hw30.cell (p := ⟨B0, 2, none⟩) hB).trans q2
    have g2 := (hw30.frozen (p := ⟨B0, 2, none⟩) hB).trans f2
    have s30 : B0 < w3.heap.size := by (have := hw30.size; omega)
    go_wp2_with (go_at_call 98; refine (without_true l a c B0 _ ((Rd.of_Own HO.out).ext hw30) hl y0 g0 s30 r HR5).mono ?_; rintro e w5 ⟨g5, q5, w2, rfl, rfl, hown5, hb5⟩; have z0 := (hb5.cell (p := ⟨B0, 0, none⟩) s30).trans y0; have x0 := (hb5.frozen (p := ⟨B0, 0, none⟩) s30).trans g0; have z1 := (hb5.cell (p := ⟨B0, 1, none⟩) s30).trans y1; have x1 := (hb5.frozen (p := ⟨B0, 1, none⟩) s30).trans g1; have z2 := (hb5.cell (p := ⟨B0, 2, none⟩) s30).trans y2; have x2 := (hb5.frozen (p := ⟨B0, 2, none⟩) s30).trans g2; have s50 : B0 < w2.heap.size := (by have := hb5.size; omega); have H5 := Lib.hid hown5; clear hown5)
    have hw20 : Ext w w2 := Below.ext hw30 hb5
    refine bodyPost_ret (results_none rfl _ _ _) rfl ⟨g5, q5, rfl, (by simp [go_sem, *]), (by simp [go_sem, *]), (by simp [go_sem, *]), ?_, ?_, ?_⟩
    · (repeat' (first | with_reducible refine Own.set_lt ?_ H5.out (by (first | omega | (simp <;> omega))) _)); exact Own.le H5.out (by have := hw30.size; omega)
    · refine Below.setCell (Below.setCell (Below.mono hw20 (by omega)) ?_ _) ?_ _ <;> exact Nat.le_refl _
    · simp; omega
  · skip
    have k2 : (n.kind == 2) = false := by simp [hk2]
    clear hk2 h2 h6 hk
    go_enter Try.func55, Try.ntmps55
    go_upto_region 4 with (go_at_call 62; refine (isOtherNote_any n _ _ HT).mono ?_; rintro e w1 ⟨rfl, hb1⟩; obtain ⟨hc1, hf1⟩ := bcell hb1; have hz1 := hb1.size; (try simp at hz1); have s10 : B0 < w1.heap.size := (by omega); have s11 : w.heap.size < w1.heap.size := (by omega))
    refine wp_world (fun V hV => ?_)
    have hwV : Ext w V := by (rw [hV]; exact bxt)
    have Vq0 : V.cell? ⟨B0, 0, none⟩ = some (.slice a l.length c) := (hwV.cell (p := ⟨B0, 0, none⟩) hB).trans q0
    have Vf0 : V.frozen? ⟨B0, 0, none⟩ = false := (hwV.frozen (p := ⟨B0, 0, none⟩) hB).trans f0
    have Vq1 : V.cell? ⟨B0, 1, none⟩ = some (.bool rb) := (hwV.cell (p := ⟨B0, 1, none⟩) hB).trans q1
    have Vf1 : V.frozen? ⟨B0, 1, none⟩ = false := (hwV.frozen (p := ⟨B0, 1, none⟩) hB).trans f1
    have Vq2 : V.cell? ⟨B0, 2, none⟩ = some (.bool false) := (hwV.cell (p := ⟨B0, 2, none⟩) hB).trans q2
    have Vf2 : V.frozen? ⟨B0, 2, none⟩ = false := (hwV.frozen (p := ⟨B0, 2, none⟩) hB).trans f2
    have Vn0 : V.cell? ⟨w.heap.size, 0, none⟩ = some (.int .i64 n.kind) := by (rw [hV]; simp [go_sem, *])
    have Vn1 : V.cell? ⟨w.heap.size, 1, none⟩ = some (.int .i64 n.n) := by (rw [hV]; simp [go_sem, *])
    have Vn2 : V.cell? ⟨w.heap.size, 2, none⟩ = some (.int .i64 n.uid) := by (rw [hV]; simp [go_sem, *])
    have Vn3 : V.cell? ⟨w.heap.size, 3, none⟩ = some (.string n.name) := by (rw [hV]; simp [go_sem, *])
    have Vs1 : w.heap.size < V.heap.size := by (rw [hV]; first | omega | (simp; omega))
    have Vs0 : B0 < V.heap.size := by omega
    clear hV
    have xVq0 := fun y : ExtW V => (y.h.cell (p := ⟨B0, 0, none⟩) Vs0).trans Vq0
    have xVq1 := fun y : ExtW V => (y.h.cell (p := ⟨B0, 1, none⟩) Vs0).trans Vq1
    have xVq2 := fun y : ExtW V => (y.h.cell (p := ⟨B0, 2, none⟩) Vs0).trans Vq2
    have xVn0 := fun y : ExtW V => (y.h.cell (p := ⟨w.heap.size, 0, none⟩) Vs1).trans Vn0
    have xVn1 := fun y : ExtW V => (y.h.cell (p := ⟨w.heap.size, 1, none⟩) Vs1).trans Vn1
    have xVn2 := fun y : ExtW V => (y.h.cell (p := ⟨w.heap.size, 2, none⟩) Vs1).trans Vn2
    have xVn3 := fun y : ExtW V => (y.h.cell (p := ⟨w.heap.size, 3, none⟩) Vs1).trans Vn3
    refine wp_region_ext (by kernel_rfl) (by kernel_rfl) ?_
    repeat (go_big_quiet_step (fail))
    refine wpQuiet_nil ?_
    rintro w3 ⟨⟨w3x, hw3⟩, hx3⟩
    have hx4 : w3 = w3x := hx3
    subst hx4
    clear hx3  xVq0 xVq1 xVq2 xVn0 xVn1 xVn2 xVn3
    have hw30 : Ext w w3 := Below.ext hwV hw3
    have y0 := (hw30.cell (p := ⟨B0, 0, none⟩) hB).trans q0
    have g0 := (hw30.frozen (p := ⟨B0, 0, none⟩) hB).trans f0
    have y1 := (hw30.cell (p := ⟨B0, 1, none⟩) hB).trans q1
    have g1 := (hw30.frozen (p := ⟨B0, 1, none⟩) hB).trans f1
    have y2 := (hw30.cell (p := ⟨B0, 2, none⟩) hB).trans q2
    have g2 := (hw30.frozen (p := ⟨B0, 2, none⟩) hB).trans f2
    have s30 : B0 < w3.heap.size := by (have := hw30.size; omega)
    go_wp2_with (go_at_call 98; refine (without_true l a c B0 _ ((Rd.of_Own HO.out).ext hw30) hl y0 g0 s30 r HR5).mono ?_; rintro e w5 ⟨g5, q5, w2, rfl, rfl, hown5, hb5⟩; have z0 := (hb5.cell (p := ⟨B0, 0, none⟩) s30).trans y0; have x0 := (hb5.frozen (p := ⟨B0, 0, none⟩) s30).trans g0; have z1 := (hb5.cell (p := ⟨B0, 1, none⟩) s30).trans y1; have x1 := (hb5.frozen (p := ⟨B0, 1, none⟩) s30).trans g1; have z2 := (hb5.cell (p := ⟨B0, 2, none⟩) s30).trans y2; have x2 := (hb5.frozen (p := ⟨B0, 2, none⟩) s30).trans g2; have s50 : B0 < w2.heap.size := (by have := hb5.size; omega); have H5 := Lib.hid hown5; clear hown5)
    have hw20 : Ext w w2 := Below.ext hw30 hb5
    refine bodyPost_ret (results_none rfl _ _ _) rfl ⟨g5, q5, rfl, (by simp [go_sem, *]), (by simp [go_sem, *]), (by simp [go_sem, *]), ?_, ?_, ?_⟩
    · (repeat' (first | with_reducible refine Own.set_lt ?_ H5.out (by (first | omega | (simp <;> omega))) _)); exact Own.le H5.out (by have := hw30.size; omega)
    · refine Below.setCell (Below.setCell (Below.mono hw20 (by omega)) ?_ _) ?_ _ <;> exact Nat.le_refl _
    · simp; omega

set_option maxRecDepth 100000 in
set_option maxHeartbeats 4000000 in
theorem implPush_ko (l : List DNote) (a : Option Addr) (c : Nat) (rb rc : Bool) (n : DNote) (Bs B0 : Nat) (w : World) (h : Own w Bs 36 4 (.slice a l.length c) l.length (l.flatMap DNote.cells)) (hl : l.length ≤ 1048576) (hB : B0 < w.heap.size) (hBs : Bs ≤ B0) (hoff : foot (.slice a l.length c) ≠ some B0) (q0 : w.cell? ⟨B0, 0, none⟩ = some (.slice a l.length c)) (q1 : w.cell? ⟨B0, 1, none⟩ = some (.bool rb)) (q2 : w.cell? ⟨B0, 2, none⟩ = some (.bool rc)) (f0 : w.frozen? ⟨B0, 0, none⟩ = false) (f1 : w.frozen? ⟨B0, 1, none⟩ = false) (f2 : w.frozen? ⟨B0, 2, none⟩ = false) (hk : n.kind ≠ 1) (hb : rc = false) (h2 : ¬ (n.kind = 2 ∧ l.any (fun x => decide (n = x)) = true)) (h6 : ¬ l.length = 6) :
    Calls Try.prog 55 #[.pointer (some ⟨B0, 0, none⟩), .agg #[.int .i64 n.kind, .int .i64 n.n, .int .i64 n.uid, .string n.name]] w (PushI 36 Bs B0 ⟨l ++ [n], rb, rc⟩ w) := by
  have HO := Lib.hid h
  have HF := Lib.hid hoff
  clear h hoff
  subst hb
  have HT : Hid ((n.kind != 1) = true) := by simp [Hid, hk]
  have k1 : (n.kind == 1) = false := by simp [hk]
  have m6 : ((l.length : Int) == 6) = false := by (simp; omega)
  by_cases hk2 : n.kind = 2
  · skip
    have k2 : (n.kind == 2) = true := by simp [hk2]
    have HS : Hid (l.any (fun x => decide (n = x)) = false) := by (unfold Hid; cases hh : l.any (fun x => decide (n = x)); rfl; exact (h2 ⟨hk2, hh⟩).elim)
    clear hk2 h2 h6 hk
    go_enter Try.func55, Try.ntmps55
    go_upto_region 4 with (go_at_call 62; refine (isOtherNote_any n _ _ HT).mono ?_; rintro e w1 ⟨rfl, hb1⟩; obtain ⟨hc1, hf1⟩ := bcell hb1; have hz1 := hb1.size; (try simp at hz1); have s10 : B0 < w1.heap.size := (by omega); have s11 : w.heap.size < w1.heap.size := (by omega))
    refine wp_world (fun V hV => ?_)
    have hwV : Ext w V := by (rw [hV]; exact bxt)
    have Vq0 : V.cell? ⟨B0, 0, none⟩ = some (.slice a l.length c) := (hwV.cell (p := ⟨B0, 0, none⟩) hB).trans q0
    have Vf0 : V.frozen? ⟨B0, 0, none⟩ = false := (hwV.frozen (p := ⟨B0, 0, none⟩) hB).trans f0
    have Vq1 : V.cell? ⟨B0, 1, none⟩ = some (.bool rb) := (hwV.cell (p := ⟨B0, 1, none⟩) hB).trans q1
    have Vf1 : V.frozen? ⟨B0, 1, none⟩ = false := (hwV.frozen (p := ⟨B0, 1, none⟩) hB).trans f1
    have Vq2 : V.cell? ⟨B0, 2, none⟩ = some (.bool false) := (hwV.cell (p := ⟨B0, 2, none⟩) hB).trans q2
    have Vf2 : V.frozen? ⟨B0, 2, none⟩ = false := (hwV.frozen (p := ⟨B0, 2, none⟩) hB).trans f2
    have Vn0 : V.cell? ⟨w.heap.size, 0, none⟩ = some (.int .i64 n.kind) := by (rw [hV]; simp [go_sem, *])
    have Vn1 : V.cell? ⟨w.heap.size, 1, none⟩ = some (.int .i64 n.n) := by (rw [hV]; simp [go_sem, *])
    have Vn2 : V.cell? ⟨w.heap.size, 2, none⟩ = some (.int .i64 n.uid) := by (rw [hV]; simp [go_sem, *])
    have Vn3 : V.cell? ⟨w.heap.size, 3, none⟩ = some (.string n.name) := by (rw [hV]; simp [go_sem, *])
    have Vs1 : w.heap.size < V.heap.size := by (rw [hV]; first | omega | (simp; omega))
    have Vs0 : B0 < V.heap.size := by omega
    clear hV
    have xVq0 := fun y : ExtW V => (y.h.cell (p := ⟨B0, 0, none⟩) Vs0).trans Vq0
    have xVq1 := fun y : ExtW V => (y.h.cell (p := ⟨B0, 1, none⟩) Vs0).trans Vq1
    have xVq2 := fun y : ExtW V => (y.h.cell (p := ⟨B0, 2, none⟩) Vs0).trans Vq2
    have xVn0 := fun y : ExtW V => (y.h.cell (p := ⟨w.heap.size, 0, none⟩) Vs1).trans Vn0
    have xVn1 := fun y : ExtW V => (y.h.cell (p := ⟨w.heap.size, 1, none⟩) Vs1).trans Vn1
    have xVn2 := fun y : ExtW V => (y.h.cell (p := ⟨w.heap.size, 2, none⟩) Vs1).trans Vn2
    have xVn3 := fun y : ExtW V => (y.h.cell (p := ⟨w.heap.size, 3, none⟩) Vs1).trans Vn3
    refine wp_region_ext (by kernel_rfl) (by kernel_rfl) ?_
    repeat (go_big_quiet_step ((go_at_call 63; refine (noteContains_of l a c n l.length rfl _ ((Rd.of_Own HO.out).ext (ExtW.of hwV _)) false HS).mono ?_; rintro e w4 ⟨rfl, hb4⟩; exact ⟨rfl, ExtW.on _ hb4⟩)))
    refine wpQuiet_nil ?_
    rintro w3 ⟨⟨w3x, hw3⟩, hx3⟩
    have hx4 : w3 = w3x := hx3
    subst hx4
    clear hx3  xVq0 xVq1 xVq2 xVn0 xVn1 xVn2 xVn3
    have hw30 : Ext w w3 := Below.ext hwV hw3
    have y0 := (hw30.cell (p := ⟨B0, 0, none⟩) hB).trans q0
    have g0 := (hw30.frozen (p := ⟨B0, 0, none⟩) hB).trans f0
    have y1 := (hw30.cell (p := ⟨B0, 1, none⟩) hB).trans q1
    have g1 := (hw30.frozen (p := ⟨B0, 1, none⟩) hB).trans f1
    have y2 := (hw30.cell (p := ⟨B0, 2, none⟩) hB).trans q2
    have g2 := (hw30.frozen (p := ⟨B0, 2, none⟩) hB).trans f2
    have s30 : B0 < w3.heap.size := by (have := hw30.size; omega)
    have m0 := (hw3.cell (p := ⟨w.heap.size, 0, none⟩) Vs1).trans Vn0
    have m1 := (hw3.cell (p := ⟨w.heap.size, 1, none⟩) Vs1).trans Vn1
    have m2 := (hw3.cell (p := ⟨w.heap.size, 2, none⟩) Vs1).trans Vn2
    have m3 := (hw3.cell (p := ⟨w.heap.size, 3, none⟩) Vs1).trans Vn3
    have s31 : w.heap.size < w3.heap.size := Nat.lt_of_lt_of_le Vs1 hw3.size
    obtain ⟨i0, hi0, hz0, hz1, hz2⟩ := info_parts info_Note
    go_upto_region 3 with fail
    first
      | go_region_law (first | (go_simp; go_at_call 96; refine (cloneNoteS_any l _ _ _ (((Rd.of_Own HO.out).ext hw30).ext bxt) (by omega)).mono ?_; rintro e w6 ⟨g6, q6, rfl, hown6, hb6⟩; have p0 := (hb6.cell (p := ⟨B0, 0, none⟩) (by first | exact s30 | (simp; omega))).trans (by first | exact y0 | exact keep_alloc (w := w3.drew) y0 | exact keep_alloc (w := w3) y0); have o0 := (hb6.frozen (p := ⟨B0, 0, none⟩) (by first | exact s30 | (simp; omega))).trans (by first | exact g0 | exact keepf_alloc (w := w3.drew) g0 s30 | exact keepf_alloc (w := w3) g0 s30); have p1 := (hb6.cell (p := ⟨B0, 1, none⟩) (by first | exact s30 | (simp; omega))).trans (by first | exact y1 | exact keep_alloc (w := w3.drew) y1 | exact keep_alloc (w := w3) y1); have o1 := (hb6.frozen (p := ⟨B0, 1, none⟩) (by first | exact s30 | (simp; omega))).trans (by first | exact g1 | exact keepf_alloc (w := w3.drew) g1 s30 | exact keepf_alloc (w := w3) g1 s30); have p2 := (hb6.cell (p := ⟨B0, 2, none⟩) (by first | exact s30 | (simp; omega))).trans (by first | exact y2 | exact keep_alloc (w := w3.drew) y2 | exact keep_alloc (w := w3) y2); have o2 := (hb6.frozen (p := ⟨B0, 2, none⟩) (by first | exact s30 | (simp; omega))).trans (by first | exact g2 | exact keepf_alloc (w := w3.drew) g2 s30 | exact keepf_alloc (w := w3) g2 s30); have r0 := (hb6.cell (p := ⟨w.heap.size, 0, none⟩) (by first | exact s31 | (simp; omega))).trans (by first | exact m0 | exact keep_alloc (w := w3.drew) m0 | exact keep_alloc (w := w3) m0); have r1 := (hb6.cell (p := ⟨w.heap.size, 1, none⟩) (by first | exact s31 | (simp; omega))).trans (by first | exact m1 | exact keep_alloc (w := w3.drew) m1 | exact keep_alloc (w := w3) m1); have r2 := (hb6.cell (p := ⟨w.heap.size, 2, none⟩) (by first | exact s31 | (simp; omega))).trans (by first | exact m2 | exact keep_alloc (w := w3.drew) m2 | exact keep_alloc (w := w3) m2); have r3 := (hb6.cell (p := ⟨w.heap.size, 3, none⟩) (by first | exact s31 | (simp; omega))).trans (by first | exact m3 | exact keep_alloc (w := w3.drew) m3 | exact keep_alloc (w := w3) m3); have hz6 := hb6.size; (try simp at hz6); have hbw6 : Ext w w6 := (by first | exact Below.ext (hw30.drew) hb6 | exact Below.ext (hw30.drew.alloc (by omega) _) hb6 | exact Below.ext ((hw30.alloc (by omega) _).drew) hb6); have H6 := Lib.hid (Own.le (B' := w.heap.size) hown6 smx); have s60 : B0 < w6.heap.size := (by omega); have s61 : w.heap.size < w6.heap.size := (by omega); have fo6 := FOff.lt H6.out hB; clear hown6) | (refine step_app (B := w.heap.size) (v := .slice g6 l.length q6) rfl (.tmp 19) (.tmp 21) 32 rfl 36 i0 _ _ Try.underlying32 hi0 hz0 hz1 hz2 rfl (by decide) (by simp [Act.eval, Act.put]) (H6.out.ext bxt) (some ⟨w3.heap.size, 0, none⟩) 1 1 n.cells (by simp [Act.eval, Act.put]) ((Rd.lit w3.drew #[.int .i64 n.kind, .int .i64 n.n, .int .i64 n.uid, .string n.name] 36 1 4 w3.heap.size rfl rfl (by omega)).ext hb6) (DNote.one _) (by omega) (by omega) (by first | omega | (simp; omega)) ?_; intro g7 q7 w7 hown7 hg7; obtain ⟨hc7, hf7⟩ := grown_foff hg7; have z0 := (hc7 _ 0 (by first | exact s60 | (simp; omega)) fo6).trans (by first | exact p0 | exact keep_alloc p0); have x0 := (hf7 _ 0 (by first | exact s60 | (simp; omega)) fo6).trans (by first | exact o0 | exact keepf_alloc o0 s60); have z1 := (hc7 _ 1 (by first | exact s60 | (simp; omega)) fo6).trans (by first | exact p1 | exact keep_alloc p1); have x1 := (hf7 _ 1 (by first | exact s60 | (simp; omega)) fo6).trans (by first | exact o1 | exact keepf_alloc o1 s60); have z2 := (hc7 _ 2 (by first | exact s60 | (simp; omega)) fo6).trans (by first | exact p2 | exact keep_alloc p2); have x2 := (hf7 _ 2 (by first | exact s60 | (simp; omega)) fo6).trans (by first | exact o2 | exact keepf_alloc o2 s60); have hz7 := hg7.size; (try simp at hz7); have s70 : B0 < w7.heap.size := (by omega); have hbw7 : Ext w w7 := below_foot (B := w.heap.size) (show Ext w _ from (by first | exact hbw6 | exact hbw6.alloc (by omega) _)) (show Own _ w.heap.size 36 4 (.slice g6 l.length q6) l.length (l.flatMap DNote.cells) from H6.out.ext bxt) (Nat.le_refl _) (by first | omega | (simp; omega)) hg7; have H7 := Lib.hid hown7; clear hown7 hg7 hc7 hf7) | (refine step_app (B := w.heap.size) (v := .slice g6 l.length q6) rfl (.tmp 19) (.tmp 21) 32 rfl 36 i0 _ _ Try.underlying32 hi0 hz0 hz1 hz2 rfl (by decide) (by simp [Act.eval, Act.put]) (H6.out.ext bxt) (some ⟨w3.heap.size, 0, none⟩) 1 1 n.cells (by simp [Act.eval, Act.put]) ((Rd.lit w3 #[.int .i64 n.kind, .int .i64 n.n, .int .i64 n.uid, .string n.name] 36 1 4 w3.heap.size rfl rfl (by omega)).ext (Below.ext ((Below.refl _ _).drew) hb6)) (DNote.one _) (by omega) (by omega) (by first | omega | (simp; omega)) ?_; intro g7 q7 w7 hown7 hg7; obtain ⟨hc7, hf7⟩ := grown_foff hg7; have z0 := (hc7 _ 0 (by first | exact s60 | (simp; omega)) fo6).trans (by first | exact p0 | exact keep_alloc p0); have x0 := (hf7 _ 0 (by first | exact s60 | (simp; omega)) fo6).trans (by first | exact o0 | exact keepf_alloc o0 s60); have z1 := (hc7 _ 1 (by first | exact s60 | (simp; omega)) fo6).trans (by first | exact p1 | exact keep_alloc p1); have x1 := (hf7 _ 1 (by first | exact s60 | (simp; omega)) fo6).trans (by first | exact o1 | exact keepf_alloc o1 s60); have z2 := (hc7 _ 2 (by first | exact s60 | (simp; omega)) fo6).trans (by first | exact p2 | exact keep_alloc p2); have x2 := (hf7 _ 2 (by first | exact s60 | (simp; omega)) fo6).trans (by first | exact o2 | exact keepf_alloc o2 s60); have hz7 := hg7.size; (try simp at hz7); have s70 : B0 < w7.heap.size := (by omega); have hbw7 : Ext w w7 := below_foot (B := w.heap.size) (show Ext w _ from (by first | exact hbw6 | exact hbw6.alloc (by omega) _)) (show Own _ w.heap.size 36 4 (.slice g6 l.length q6) l.length (l.flatMap DNote.cells) from H6.out.ext bxt) (Nat.le_refl _) (by first | omega | (simp; omega)) hg7; have H7 := Lib.hid hown7; clear hown7 hg7 hc7 hf7) | (refine step_app (B := w.heap.size) (v := .slice g6 l.length q6) rfl (.tmp 19) (.tmp 21) 32 rfl 36 i0 _ _ Try.underlying32 hi0 hz0 hz1 hz2 rfl (by decide) (by simp [Act.eval, Act.put]) (H6.out.ext bxt) (some ⟨w6.heap.size, 0, none⟩) 1 1 n.cells (by simp [Act.eval, Act.put]) (Rd.lit _ _ _ 1 4 _ (by first | rfl | simp) rfl (by omega)) (DNote.one _) (by omega) (by omega) (by first | omega | (simp; omega)) ?_; intro g7 q7 w7 hown7 hg7; obtain ⟨hc7, hf7⟩ := grown_foff hg7; have z0 := (hc7 _ 0 (by first | exact s60 | (simp; omega)) fo6).trans (by first | exact p0 | exact keep_alloc p0); have x0 := (hf7 _ 0 (by first | exact s60 | (simp; omega)) fo6).trans (by first | exact o0 | exact keepf_alloc o0 s60); have z1 := (hc7 _ 1 (by first | exact s60 | (simp; omega)) fo6).trans (by first | exact p1 | exact keep_alloc p1); have x1 := (hf7 _ 1 (by first | exact s60 | (simp; omega)) fo6).trans (by first | exact o1 | exact keepf_alloc o1 s60); have z2 := (hc7 _ 2 (by first | exact s60 | (simp; omega)) fo6).trans (by first | exact p2 | exact keep_alloc p2); have x2 := (hf7 _ 2 (by first | exact s60 | (simp; omega)) fo6).trans (by first | exact o2 | exact keepf_alloc o2 s60); have hz7 := hg7.size; (try simp at hz7); have s70 : B0 < w7.heap.size := (by omega); have hbw7 : Ext w w7 := below_foot (B := w.heap.size) (show Ext w _ from (by first | exact hbw6 | exact hbw6.alloc (by omega) _)) (show Own _ w.heap.size 36 4 (.slice g6 l.length q6) l.length (l.flatMap DNote.cells) from H6.out.ext bxt) (Nat.le_refl _) (by first | omega | (simp; omega)) hg7; have H7 := Lib.hid hown7; clear hown7 hg7 hc7 hf7))
      | fail
    all_goals go_wp2_with fail
    all_goals have H3 : Hid (Own w7 w.heap.size 36 4 (.slice g7 (l ++ [n]).length q7) (l ++ [n]).length ((l ++ [n]).flatMap DNote.cells)) := by simpa [DNote.cells, Hid] using H7.out
    all_goals refine bodyPost_ret (results_none rfl _ _ _) rfl ⟨g7, q7, rfl, (by simp [go_sem, *]), (by simp [go_sem, *]), (by simp [go_sem, *]), ?_, ?_, ?_⟩
    all_goals first
      | (with_reducible refine Own.set_lt ?_ H3.out (by (first | omega | (simp <;> omega))) _; exact Own.le H3.out (by omega))
      | (refine Below.setCell (Below.mono hbw7 (by omega)) ?_ _ <;> exact Nat.le_refl _)
      | (simp; omega)
  · skip
    have k2 : (n.kind == 2) = false := by simp [hk2]
    clear hk2 h2 h6 hk
    go_enter Try.func55, Try.ntmps55
    go_upto_region 4 with (go_at_call 62; refine (isOtherNote_any n _ _ HT).mono ?_; rintro e w1 ⟨rfl, hb1⟩; obtain ⟨hc1, hf1⟩ := bcell hb1; have hz1 := hb1.size; (try simp at hz1); have s10 : B0 < w1.heap.size := (by omega); have s11 : w.heap.size < w1.heap.size := (by omega))
    refine wp_world (fun V hV => ?_)
    have hwV : Ext w V := by (rw [hV]; exact bxt)
    have Vq0 : V.cell? ⟨B0, 0, none⟩ = some (.slice a l.length c) := (hwV.cell (p := ⟨B0, 0, none⟩) hB).trans q0
    have Vf0 : V.frozen? ⟨B0, 0, none⟩ = false := (hwV.frozen (p := ⟨B0, 0, none⟩) hB).trans f0
    have Vq1 : V.cell? ⟨B0, 1, none⟩ = some (.bool rb) := (hwV.cell (p := ⟨B0, 1, none⟩) hB).trans q1
    have Vf1 : V.frozen? ⟨B0, 1, none⟩ = false := (hwV.frozen (p := ⟨B0, 1, none⟩) hB).trans f1
    have Vq2 : V.cell? ⟨B0, 2, none⟩ = some (.bool false) := (hwV.cell (p := ⟨B0, 2, none⟩) hB).trans q2
    have Vf2 : V.frozen? ⟨B0, 2, none⟩ = false := (hwV.frozen (p := ⟨B0, 2, none⟩) hB).trans f2
    have Vn0 : V.cell? ⟨w.heap.size, 0, none⟩ = some (.int .i64 n.kind) := by (rw [hV]; simp [go_sem, *])
    have Vn1 : V.cell? ⟨w.heap.size, 1, none⟩ = some (.int .i64 n.n) := by (rw [hV]; simp [go_sem, *])
    have Vn2 : V.cell? ⟨w.heap.size, 2, none⟩ = some (.int .i64 n.uid) := by (rw [hV]; simp [go_sem, *])
    have Vn3 : V.cell? ⟨w.heap.size, 3, none⟩ = some (.string n.name) := by (rw [hV]; simp [go_sem, *])
    have Vs1 : w.heap.size < V.heap.size := by (rw [hV]; first | omega | (simp; omega))
    have Vs0 : B0 < V.heap.size := by omega
    clear hV
    have xVq0 := fun y : ExtW V => (y.h.cell (p := ⟨B0, 0, none⟩) Vs0).trans Vq0
    have xVq1 := fun y : ExtW V => (y.h.cell (p := ⟨B0, 1, none⟩) Vs0).trans Vq1
    have xVq2 := fun y : ExtW V => (y.h.cell (p := ⟨B0, 2, none⟩) Vs0).trans Vq2
    have xVn0 := fun y : ExtW V => (y.h.cell (p := ⟨w.heap.size, 0, none⟩) Vs1).trans Vn0
    have xVn1 := fun y : ExtW V => (y.h.cell (p := ⟨w.heap.size, 1, none⟩) Vs1).trans Vn1
    have xVn2 := fun y : ExtW V => (y.h.cell (p := ⟨w.heap.size, 2, none⟩) Vs1).trans Vn2
    have xVn3 := fun y : ExtW V => (y.h.cell (p := ⟨w.heap.size, 3, none⟩) Vs1).trans Vn3
    refine wp_region_ext (by kernel_rfl) (by kernel_rfl) ?_
    repeat (go_big_quiet_step (fail))
    refine wpQuiet_nil ?_
    rintro w3 ⟨⟨w3x, hw3⟩, hx3⟩
    have hx4 : w3 = w3x := hx3
    subst hx4
    clear hx3  xVq0 xVq1 xVq2 xVn0 xVn1 xVn2 xVn3
    have hw30 : Ext w w3 := Below.ext hwV hw3
    have y0 := (hw30.cell (p := ⟨B0, 0, none⟩) hB).trans q0
    have g0 := (hw30.frozen (p := ⟨B0, 0, none⟩) hB).trans f0
    have y1 := (hw30.cell (p := ⟨B0, 1, none⟩) hB).trans q1
    have g1 := (hw30.frozen (p := ⟨B0, 1, none⟩) hB).trans f1
    have y2 := (hw30.cell (p := ⟨B0, 2, none⟩) hB).trans q2
    have g2 := (hw30.frozen (p := ⟨B0, 2, none⟩) hB).trans f2
    have s30 : B0 < w3.heap.size := by (have := hw30.size; omega)
    have m0 := (hw3.cell (p := ⟨w.heap.size, 0, none⟩) Vs1).trans Vn0
    have m1 := (hw3.cell (p := ⟨w.heap.size, 1, none⟩) Vs1).trans Vn1
    have m2 := (hw3.cell (p := ⟨w.heap.size, 2, none⟩) Vs1).trans Vn2
    have m3 := (hw3.cell (p := ⟨w.heap.size, 3, none⟩) Vs1).trans Vn3
    have s31 : w.heap.size < w3.heap.size := Nat.lt_of_lt_of_le Vs1 hw3.size
    obtain ⟨i0, hi0, hz0, hz1, hz2⟩ := info_parts info_Note
    go_upto_region 3 with fail
    first
      | go_region_law (first | (go_simp; go_at_call 96; refine (cloneNoteS_any l _ _ _ (((Rd.of_Own HO.out).ext hw30).ext bxt) (by omega)).mono ?_; rintro e w6 ⟨g6, q6, rfl, hown6, hb6⟩; have p0 := (hb6.cell (p := ⟨B0, 0, none⟩) (by first | exact s30 | (simp; omega))).trans (by first | exact y0 | exact keep_alloc (w := w3.drew) y0 | exact keep_alloc (w := w3) y0); have o0 := (hb6.frozen (p := ⟨B0, 0, none⟩) (by first | exact s30 | (simp; omega))).trans (by first | exact g0 | exact keepf_alloc (w := w3.drew) g0 s30 | exact keepf_alloc (w := w3) g0 s30); have p1 := (hb6.cell (p := ⟨B0, 1, none⟩) (by first | exact s30 | (simp; omega))).trans (by first | exact y1 | exact keep_alloc (w := w3.drew) y1 | exact keep_alloc (w := w3) y1); have o1 := (hb6.frozen (p := ⟨B0, 1, none⟩) (by first | exact s30 | (simp; omega))).trans (by first | exact g1 | exact keepf_alloc (w := w3.drew) g1 s30 | exact keepf_alloc (w := w3) g1 s30); have p2 := (hb6.cell (p := ⟨B0, 2, none⟩) (by first | exact s30 | (simp; omega))).trans (by first | exact y2 | exact keep_alloc (w := w3.drew) y2 | exact keep_alloc (w := w3) y2); have o2 := (hb6.frozen (p := ⟨B0, 2, none⟩) (by first | exact s30 | (simp; omega))).trans (by first | exact g2 | exact keepf_alloc (w := w3.drew) g2 s30 | exact keepf_alloc (w := w3) g2 s30); have r0 := (hb6.cell (p := ⟨w.heap.size, 0, none⟩) (by first | exact s31 | (simp; omega))).trans (by first | exact m0 | exact keep_alloc (w := w3.drew) m0 | exact keep_alloc (w := w3) m0); have r1 := (hb6.cell (p := ⟨w.heap.size, 1, none⟩) (by first | exact s31 | (simp; omega))).trans (by first | exact m1 | exact keep_alloc (w := w3.drew) m1 | exact keep_alloc (w := w3) m1); have r2 := (hb6.cell (p := ⟨w.heap.size, 2, none⟩) (by first | exact s31 | (simp; omega))).trans (by first | exact m2 | exact keep_alloc (w := w3.drew) m2 | exact keep_alloc (w := w3) m2); have r3 := (hb6.cell (p := ⟨w.heap.size, 3, none⟩) (by first | exact s31 | (simp; omega))).trans (by first | exact m3 | exact keep_alloc (w := w3.drew) m3 | exact keep_alloc (w := w3) m3); have hz6 := hb6.size; (try simp at hz6); have hbw6 : Ext w w6 := (by first | exact Below.ext (hw30.drew) hb6 | exact Below.ext (hw30.drew.alloc (by omega) _) hb6 | exact Below.ext ((hw30.alloc (by omega) _).drew) hb6); have H6 := Lib.hid (Own.le (B' := w.heap.size) hown6 smx); have s60 : B0 < w6.heap.size := (by omega); have s61 : w.heap.size < w6.heap.size := (by omega); have fo6 := FOff.lt H6.out hB; clear hown6) | (refine step_app (B := w.heap.size) (v := .slice g6 l.length q6) rfl (.tmp 19) (.tmp 21) 32 rfl 36 i0 _ _ Try.underlying32 hi0 hz0 hz1 hz2 rfl (by decide) (by simp [Act.eval, Act.put]) (H6.out.ext bxt) (some ⟨w3.heap.size, 0, none⟩) 1 1 n.cells (by simp [Act.eval, Act.put]) ((Rd.lit w3.drew #[.int .i64 n.kind, .int .i64 n.n, .int .i64 n.uid, .string n.name] 36 1 4 w3.heap.size rfl rfl (by omega)).ext hb6) (DNote.one _) (by omega) (by omega) (by first | omega | (simp; omega)) ?_; intro g7 q7 w7 hown7 hg7; obtain ⟨hc7, hf7⟩ := grown_foff hg7; have z0 := (hc7 _ 0 (by first | exact s60 | (simp; omega)) fo6).trans (by first | exact p0 | exact keep_alloc p0); have x0 := (hf7 _ 0 (by first | exact s60 | (simp; omega)) fo6).trans (by first | exact o0 | exact keepf_alloc o0 s60); have z1 := (hc7 _ 1 (by first | exact s60 | (simp; omega)) fo6).trans (by first | exact p1 | exact keep_alloc p1); have x1 := (hf7 _ 1 (by first | exact s60 | (simp; omega)) fo6).trans (by first | exact o1 | exact keepf_alloc o1 s60); have z2 := (hc7 _ 2 (by first | exact s60 | (simp; omega)) fo6).trans (by first | exact p2 | exact keep_alloc p2); have x2 := (hf7 _ 2 (by first | exact s60 | (simp; omega)) fo6).trans (by first | exact o2 | exact keepf_alloc o2 s60); have hz7 := hg7.size; (try simp at hz7); have s70 : B0 < w7.heap.size := (by omega); have hbw7 : Ext w w7 := below_foot (B := w.heap.size) (show Ext w _ from (by first | exact hbw6 | exact hbw6.alloc (by omega) _)) (show Own _ w.heap.size 36 4 (.slice g6 l.length q6) l.length (l.flatMap DNote.cells) from H6.out.ext bxt) (Nat.le_refl _) (by first | omega | (simp; omega)) hg7; have H7 := Lib.hid hown7; clear hown7 hg7 hc7 hf7) | (refine step_app (B := w.heap.size) (v := .slice g6 l.length q6) rfl (.tmp 19) (.tmp 21) 32 rfl 36 i0 _ _ Try.underlying32 hi0 hz0 hz1 hz2 rfl (by decide) (by simp [Act.eval, Act.put]) (H6.out.ext bxt) (some ⟨w3.heap.size, 0, none⟩) 1 1 n.cells (by simp [Act.eval, Act.put]) ((Rd.lit w3 #[.int .i64 n.kind, .int .i64 n.n, .int .i64 n.uid, .string n.name] 36 1 4 w3.heap.size rfl rfl (by omega)).ext (Below.ext ((Below.refl _ _).drew) hb6)) (DNote.one _) (by omega) (by omega) (by first | omega | (simp; omega)) ?_; intro g7 q7 w7 hown7 hg7; obtain ⟨hc7, hf7⟩ := grown_foff hg7; have z0 := (hc7 _ 0 (by first | exact s60 | (simp; omega)) fo6).trans (by first | exact p0 | exact keep_alloc p0); have x0 := (hf7 _ 0 (by first | exact s60 | (simp; omega)) fo6).trans (by first | exact o0 | exact keepf_alloc o0 s60); have z1 := (hc7 _ 1 (by first | exact s60 | (simp; omega)) fo6).trans (by first | exact p1 | exact keep_alloc p1); have x1 := (hf7 _ 1 (by first | exact s60 | (simp; omega)) fo6).trans (by first | exact o1 | exact keepf_alloc o1 s60); have z2 := (hc7 _ 2 (by first | exact s60 | (simp; omega)) fo6).trans (by first | exact p2 | exact keep_alloc p2); have x2 := (hf7 _ 2 (by first | exact s60 | (simp; omega)) fo6).trans (by first | exact o2 | exact keepf_alloc o2 s60); have hz7 := hg7.size; (try simp at hz7); have s70 : B0 < w7.heap.size := (by omega); have hbw7 : Ext w w7 := below_foot (B := w.heap.size) (show Ext w _ from (by first | exact hbw6 | exact hbw6.alloc (by omega) _)) (show Own _ w.heap.size 36 4 (.slice g6 l.length q6) l.length (l.flatMap DNote.cells) from H6.out.ext bxt) (Nat.le_refl _) (by first | omega | (simp; omega)) hg7; have H7 := Lib.hid hown7; clear hown7 hg7 hc7 hf7) | (refine step_app (B := w.heap.size) (v := .slice g6 l.length q6) rfl (.tmp 19) (.tmp 21) 32 rfl 36 i0 _ _ Try.underlying32 hi0 hz0 hz1 hz2 rfl (by decide) (by simp [Act.eval, Act.put]) (H6.out.ext bxt) (some ⟨w6.heap.size, 0, none⟩) 1 1 n.cells (by simp [Act.eval, Act.put]) (Rd.lit _ _ _ 1 4 _ (by first | rfl | simp) rfl (by omega)) (DNote.one _) (by omega) (by omega) (by first | omega | (simp; omega)) ?_; intro g7 q7 w7 hown7 hg7; obtain ⟨hc7, hf7⟩ := grown_foff hg7; have z0 := (hc7 _ 0 (by first | exact s60 | (simp; omega)) fo6).trans (by first | exact p0 | exact keep_alloc p0); have x0 := (hf7 _ 0 (by first | exact s60 | (simp; omega)) fo6).trans (by first | exact o0 | exact keepf_alloc o0 s60); have z1 := (hc7 _ 1 (by first | exact s60 | (simp; omega)) fo6).trans (by first | exact p1 | exact keep_alloc p1); have x1 := (hf7 _ 1 (by first | exact s60 | (simp; omega)) fo6).trans (by first | exact o1 | exact keepf_alloc o1 s60); have z2 := (hc7 _ 2 (by first | exact s60 | (simp; omega)) fo6).trans (by first | exact p2 | exact keep_alloc p2); have x2 := (hf7 _ 2 (by first | exact s60 | (simp; omega)) fo6).trans (by first | exact o2 | exact keepf_alloc o2 s60); have hz7 := hg7.size; (try simp at hz7); have s70 : B0 < w7.heap.size := (by omega); have hbw7 : Ext w w7 := below_foot (B := w.heap.size) (show Ext w _ from (by first | exact hbw6 | exact hbw6.alloc (by omega) _)) (show Own _ w.heap.size 36 4 (.slice g6 l.length q6) l.length (l.flatMap DNote.cells) from H6.out.ext bxt) (Nat.le_refl _) (by first | omega | (simp; omega)) hg7; have H7 := Lib.hid hown7; clear hown7 hg7 hc7 hf7))
      | fail
    all_goals go_wp2_with fail
    all_goals have H3 : Hid (Own w7 w.heap.size 36 4 (.slice g7 (l ++ [n]).length q7) (l ++ [n]).length ((l ++ [n]).flatMap DNote.cells)) := by simpa [DNote.cells, Hid] using H7.out
    all_goals refine bodyPost_ret (results_none rfl _ _ _) rfl ⟨g7, q7, rfl, (by simp [go_sem, *]), (by simp [go_sem, *]), (by simp [go_sem, *]), ?_, ?_, ?_⟩
    all_goals first
      | (with_reducible refine Own.set_lt ?_ H3.out (by (first | omega | (simp <;> omega))) _; exact Own.le H3.out (by omega))
      | (refine Below.setCell (Below.mono hbw7 (by omega)) ?_ _ <;> exact Nat.le_refl _)
      | (simp; omega)

set_option maxRecDepth 100000 in
set_option maxHeartbeats 4000000 in
theorem implPush_g0 (l : List DNote) (a : Option Addr) (c : Nat) (rb rc : Bool) (n : DNote) (Bs B0 : Nat) (w : World) (h : Own w Bs 36 4 (.slice a l.length c) l.length (l.flatMap DNote.cells)) (hl : l.length ≤ 1048576) (hB : B0 < w.heap.size) (hBs : Bs ≤ B0) (hoff : foot (.slice a l.length c) ≠ some B0) (q0 : w.cell? ⟨B0, 0, none⟩ = some (.slice a l.length c)) (q1 : w.cell? ⟨B0, 1, none⟩ = some (.bool rb)) (q2 : w.cell? ⟨B0, 2, none⟩ = some (.bool rc)) (f0 : w.frozen? ⟨B0, 0, none⟩ = false) (f1 : w.frozen? ⟨B0, 1, none⟩ = false) (f2 : w.frozen? ⟨B0, 2, none⟩ = false) (t0 : l.length = 0) (hk : n.kind = 1) (hb : rb = false) (hz : 0 ≤ n.n) (ha : l.any (boxIn n.n) = false) (h6 : ¬ l.length = 6) :
    Calls Try.prog 55 #[.pointer (some ⟨B0, 0, none⟩), .agg #[.int .i64 n.kind, .int .i64 n.n, .int .i64 n.uid, .string n.name]] w (PushI 36 Bs B0 ⟨l ++ [n], rb, rc⟩ w) := by
  have HO := Lib.hid h
  have HF := Lib.hid hoff
  clear h hoff
  subst hb
  have HT : Hid ((n.kind != 1) = false) := by simp [Hid, hk]
  have k1 : (n.kind == 1) = true := by simp [hk]
  clear hk
  have hle := lastBox_le l n.n hz
  rw [ha] at hle
  obtain ⟨z, hzz⟩ : ∃ z, lastBox l = z := ⟨_, rfl⟩
  rw [hzz] at hle
  have HZ := Lib.hid hzz
  clear hzz hz ha
  have m6 : ((l.length : Int) == 6) = false := by (simp; omega)
  clear h6
  have u4 : IntKind.i64.wrap ((l.length : Int) - 1) = -1 := by rw [IntWalk.i64_in _ (by omega)]; omega
  clear t0
  go_enter Try.func55, Try.ntmps55
  go_upto_region 10 with (go_at_call 62; refine (isOtherNote_any n _ _ HT).mono ?_; rintro e w1 ⟨rfl, hb1⟩; obtain ⟨hc1, hf1⟩ := bcell hb1; have hz1 := hb1.size; (try simp at hz1); have s10 : B0 < w1.heap.size := (by omega); have s11 : w.heap.size < w1.heap.size := (by omega))
  refine wp_world (fun V hV => ?_)
  have hwV : Ext w V := by (rw [hV]; exact bxt)
  have Vq0 : V.cell? ⟨B0, 0, none⟩ = some (.slice a l.length c) := (hwV.cell (p := ⟨B0, 0, none⟩) hB).trans q0
  have Vf0 : V.frozen? ⟨B0, 0, none⟩ = false := (hwV.frozen (p := ⟨B0, 0, none⟩) hB).trans f0
  have Vq1 : V.cell? ⟨B0, 1, none⟩ = some (.bool false) := (hwV.cell (p := ⟨B0, 1, none⟩) hB).trans q1
  have Vf1 : V.frozen? ⟨B0, 1, none⟩ = false := (hwV.frozen (p := ⟨B0, 1, none⟩) hB).trans f1
  have Vq2 : V.cell? ⟨B0, 2, none⟩ = some (.bool rc) := (hwV.cell (p := ⟨B0, 2, none⟩) hB).trans q2
  have Vf2 : V.frozen? ⟨B0, 2, none⟩ = false := (hwV.frozen (p := ⟨B0, 2, none⟩) hB).trans f2
  have Vn0 : V.cell? ⟨w.heap.size, 0, none⟩ = some (.int .i64 n.kind) := by (rw [hV]; simp [go_sem, *])
  have Vn1 : V.cell? ⟨w.heap.size, 1, none⟩ = some (.int .i64 n.n) := by (rw [hV]; simp [go_sem, *])
  have Vn2 : V.cell? ⟨w.heap.size, 2, none⟩ = some (.int .i64 n.uid) := by (rw [hV]; simp [go_sem, *])
  have Vn3 : V.cell? ⟨w.heap.size, 3, none⟩ = some (.string n.name) := by (rw [hV]; simp [go_sem, *])
  have Vs1 : w.heap.size < V.heap.size := by (rw [hV]; first | omega | (simp; omega))
  have Vs0 : B0 < V.heap.size := by omega
  clear hV
  have xVq0 := fun y : ExtW V => (y.h.cell (p := ⟨B0, 0, none⟩) Vs0).trans Vq0
  have xVq1 := fun y : ExtW V => (y.h.cell (p := ⟨B0, 1, none⟩) Vs0).trans Vq1
  have xVq2 := fun y : ExtW V => (y.h.cell (p := ⟨B0, 2, none⟩) Vs0).trans Vq2
  have xVn0 := fun y : ExtW V => (y.h.cell (p := ⟨w.heap.size, 0, none⟩) Vs1).trans Vn0
  have xVn1 := fun y : ExtW V => (y.h.cell (p := ⟨w.heap.size, 1, none⟩) Vs1).trans Vn1
  have xVn2 := fun y : ExtW V => (y.h.cell (p := ⟨w.heap.size, 2, none⟩) Vs1).trans Vn2
  have xVn3 := fun y : ExtW V => (y.h.cell (p := ⟨w.heap.size, 3, none⟩) Vs1).trans Vn3
  refine wp_region_ext (by kernel_rfl) (by kernel_rfl) ?_
  repeat (go_big_quiet_step ((go_at_call 61; refine (lastBox_of l a c false rc l.length rfl _ ((Rd.of_Own HO.out).ext (ExtW.of hwV _)) z HZ).mono ?_; rintro e w4 ⟨rfl, hb4⟩; exact ⟨rfl, ExtW.on _ hb4⟩)))
  refine wpQuiet_nil ?_
  rintro w8 ⟨⟨w8x, hw8⟩, hxw8⟩
  have hyw8 : w8 = w8x := hxw8
  subst hyw8
  clear hxw8  xVq0 xVq1 xVq2 xVn0 xVn1 xVn2 xVn3
  have hw80 : Ext w w8 := Below.ext hwV hw8
  have m0 := (hw8.cell (p := ⟨w.heap.size, 0, none⟩) Vs1).trans Vn0
  have m1 := (hw8.cell (p := ⟨w.heap.size, 1, none⟩) Vs1).trans Vn1
  have m2 := (hw8.cell (p := ⟨w.heap.size, 2, none⟩) Vs1).trans Vn2
  have m3 := (hw8.cell (p := ⟨w.heap.size, 3, none⟩) Vs1).trans Vn3
  have s81 : w.heap.size < w8.heap.size := Nat.lt_of_lt_of_le Vs1 hw8.size
  go_upto_region 11 with fail
  refine wp_world (fun U hU => ?_)
  have hwU : Ext w U := by (rw [hU]; exact bxt)
  have Uq0 : U.cell? ⟨B0, 0, none⟩ = some (.slice a l.length c) := (hwU.cell (p := ⟨B0, 0, none⟩) hB).trans q0
  have Uf0 : U.frozen? ⟨B0, 0, none⟩ = false := (hwU.frozen (p := ⟨B0, 0, none⟩) hB).trans f0
  have Uq1 : U.cell? ⟨B0, 1, none⟩ = some (.bool false) := (hwU.cell (p := ⟨B0, 1, none⟩) hB).trans q1
  have Uf1 : U.frozen? ⟨B0, 1, none⟩ = false := (hwU.frozen (p := ⟨B0, 1, none⟩) hB).trans f1
  have Uq2 : U.cell? ⟨B0, 2, none⟩ = some (.bool rc) := (hwU.cell (p := ⟨B0, 2, none⟩) hB).trans q2
  have Uf2 : U.frozen? ⟨B0, 2, none⟩ = false := (hwU.frozen (p := ⟨B0, 2, none⟩) hB).trans f2
  have Un0 : U.cell? ⟨w.heap.size, 0, none⟩ = some (.int .i64 n.kind) := by (rw [hU]; simp [go_sem, *])
  have Un1 : U.cell? ⟨w.heap.size, 1, none⟩ = some (.int .i64 n.n) := by (rw [hU]; simp [go_sem, *])
  have Un2 : U.cell? ⟨w.heap.size, 2, none⟩ = some (.int .i64 n.uid) := by (rw [hU]; simp [go_sem, *])
  have Un3 : U.cell? ⟨w.heap.size, 3, none⟩ = some (.string n.name) := by (rw [hU]; simp [go_sem, *])
  have Us1 : w.heap.size < U.heap.size := by (rw [hU]; first | omega | (simp; omega))
  have Us0 : B0 < U.heap.size := by omega
  clear hU
  have xUq0 := fun y : ExtW U => (y.h.cell (p := ⟨B0, 0, none⟩) Us0).trans Uq0
  have xUq1 := fun y : ExtW U => (y.h.cell (p := ⟨B0, 1, none⟩) Us0).trans Uq1
  have xUq2 := fun y : ExtW U => (y.h.cell (p := ⟨B0, 2, none⟩) Us0).trans Uq2
  have xUn0 := fun y : ExtW U => (y.h.cell (p := ⟨w.heap.size, 0, none⟩) Us1).trans Un0
  have xUn1 := fun y : ExtW U => (y.h.cell (p := ⟨w.heap.size, 1, none⟩) Us1).trans Un1
  have xUn2 := fun y : ExtW U => (y.h.cell (p := ⟨w.heap.size, 2, none⟩) Us1).trans Un2
  have xUn3 := fun y : ExtW U => (y.h.cell (p := ⟨w.heap.size, 3, none⟩) Us1).trans Un3
  refine wp_region_ext (by kernel_rfl) (by kernel_rfl) ?_
  repeat (go_big_quiet_step (fail))
  refine wpQuiet_nil ?_
  rintro w3 ⟨⟨w3x, hw3⟩, hx3⟩
  have hx4 : w3 = w3x := hx3
  subst hx4
  clear hx3  xUq0 xUq1 xUq2 xUn0 xUn1 xUn2 xUn3
  have hw30 : Ext w w3 := Below.ext hwU hw3
  clear m0 m1 m2 m3
  have y0 := (hw30.cell (p := ⟨B0, 0, none⟩) hB).trans q0
  have g0 := (hw30.frozen (p := ⟨B0, 0, none⟩) hB).trans f0
  have y1 := (hw30.cell (p := ⟨B0, 1, none⟩) hB).trans q1
  have g1 := (hw30.frozen (p := ⟨B0, 1, none⟩) hB).trans f1
  have y2 := (hw30.cell (p := ⟨B0, 2, none⟩) hB).trans q2
  have g2 := (hw30.frozen (p := ⟨B0, 2, none⟩) hB).trans f2
  have s30 : B0 < w3.heap.size := by (have := hw30.size; omega)
  have m0 := (hw3.cell (p := ⟨w.heap.size, 0, none⟩) Us1).trans Un0
  have m1 := (hw3.cell (p := ⟨w.heap.size, 1, none⟩) Us1).trans Un1
  have m2 := (hw3.cell (p := ⟨w.heap.size, 2, none⟩) Us1).trans Un2
  have m3 := (hw3.cell (p := ⟨w.heap.size, 3, none⟩) Us1).trans Un3
  have s31 : w.heap.size < w3.heap.size := Nat.lt_of_lt_of_le Us1 hw3.size
  obtain ⟨i0, hi0, hz0, hz1, hz2⟩ := info_parts info_Note
  go_upto_region 9 with fail
  first
    | go_region_law (first | (go_simp; go_at_call 96; refine (cloneNoteS_any l _ _ _ (((Rd.of_Own HO.out).ext hw30).ext bxt) (by omega)).mono ?_; rintro e w6 ⟨g6, q6, rfl, hown6, hb6⟩; have p0 := (hb6.cell (p := ⟨B0, 0, none⟩) (by first | exact s30 | (simp; omega))).trans (by first | exact y0 | exact keep_alloc (w := w3.drew) y0 | exact keep_alloc (w := w3) y0); have o0 := (hb6.frozen (p := ⟨B0, 0, none⟩) (by first | exact s30 | (simp; omega))).trans (by first | exact g0 | exact keepf_alloc (w := w3.drew) g0 s30 | exact keepf_alloc (w := w3) g0 s30); have p1 := (hb6.cell (p := ⟨B0, 1, none⟩) (by first | exact s30 | (simp; omega))).trans (by first | exact y1 | exact keep_alloc (w := w3.drew) y1 | exact keep_alloc (w := w3) y1); have o1 := (hb6.frozen (p := ⟨B0, 1, none⟩) (by first | exact s30 | (simp; omega))).trans (by first | exact g1 | exact keepf_alloc (w := w3.drew) g1 s30 | exact keepf_alloc (w := w3) g1 s30); have p2 := (hb6.cell (p := ⟨B0, 2, none⟩) (by first | exact s30 | (simp; omega))).trans (by first | exact y2 | exact keep_alloc (w := w3.drew) y2 | exact keep_alloc (w := w3) y2); have o2 := (hb6.frozen (p := ⟨B0, 2, none⟩) (by first | exact s30 | (simp; omega))).trans (by first | exact g2 | exact keepf_alloc (w := w3.drew) g2 s30 | exact keepf_alloc (w := w3) g2 s30); have r0 := (hb6.cell (p := ⟨w.heap.size, 0, none⟩) (by first | exact s31 | (simp; omega))).trans (by first | exact m0 | exact keep_alloc (w := w3.drew) m0 | exact keep_alloc (w := w3) m0); have r1 := (hb6.cell (p := ⟨w.heap.size, 1, none⟩) (by first | exact s31 | (simp; omega))).trans (by first | exact m1 | exact keep_alloc (w := w3.drew) m1 | exact keep_alloc (w := w3) m1); have r2 := (hb6.cell (p := ⟨w.heap.size, 2, none⟩) (by first | exact s31 | (simp; omega))).trans (by first | exact m2 | exact keep_alloc (w := w3.drew) m2 | exact keep_alloc (w := w3) m2); have r3 := (hb6.cell (p := ⟨w.heap.size, 3, none⟩) (by first | exact s31 | (simp; omega))).trans (by first | exact m3 | exact keep_alloc (w := w3.drew) m3 | exact keep_alloc (w := w3) m3); have hz6 := hb6.size; (try simp at hz6); have hbw6 : Ext w w6 := (by first | exact Below.ext (hw30.drew) hb6 | exact Below.ext (hw30.drew.alloc (by omega) _) hb6 | exact Below.ext ((hw30.alloc (by omega) _).drew) hb6); have H6 := Lib.hid (Own.le (B' := w.heap.size) hown6 smx); have s60 : B0 < w6.heap.size := (by omega); have s61 : w.heap.size < w6.heap.size := (by omega); have fo6 := FOff.lt H6.out hB; clear hown6) | (refine step_app (B := w.heap.size) (v := .slice g6 l.length q6) rfl (.tmp 61) (.tmp 63) 32 rfl 36 i0 _ _ Try.underlying32 hi0 hz0 hz1 hz2 rfl (by decide) (by simp [Act.eval, Act.put]) (H6.out.ext bxt) (some ⟨w3.heap.size, 0, none⟩) 1 1 n.cells (by simp [Act.eval, Act.put]) ((Rd.lit w3.drew #[.int .i64 n.kind, .int .i64 n.n, .int .i64 n.uid, .string n.name] 36 1 4 w3.heap.size rfl rfl (by omega)).ext hb6) (DNote.one _) (by omega) (by omega) (by first | omega | (simp; omega)) ?_; intro g7 q7 w7 hown7 hg7; obtain ⟨hc7, hf7⟩ := grown_foff hg7; have z0 := (hc7 _ 0 (by first | exact s60 | (simp; omega)) fo6).trans (by first | exact p0 | exact keep_alloc p0); have x0 := (hf7 _ 0 (by first | exact s60 | (simp; omega)) fo6).trans (by first | exact o0 | exact keepf_alloc o0 s60); have z1 := (hc7 _ 1 (by first | exact s60 | (simp; omega)) fo6).trans (by first | exact p1 | exact keep_alloc p1); have x1 := (hf7 _ 1 (by first | exact s60 | (simp; omega)) fo6).trans (by first | exact o1 | exact keepf_alloc o1 s60); have z2 := (hc7 _ 2 (by first | exact s60 | (simp; omega)) fo6).trans (by first | exact p2 | exact keep_alloc p2); have x2 := (hf7 _ 2 (by first | exact s60 | (simp; omega)) fo6).trans (by first | exact o2 | exact keepf_alloc o2 s60); have hz7 := hg7.size; (try simp at hz7); have s70 : B0 < w7.heap.size := (by omega); have hbw7 : Ext w w7 := below_foot (B := w.heap.size) (show Ext w _ from (by first | exact hbw6 | exact hbw6.alloc (by omega) _)) (show Own _ w.heap.size 36 4 (.slice g6 l.length q6) l.length (l.flatMap DNote.cells) from H6.out.ext bxt) (Nat.le_refl _) (by first | omega | (simp; omega)) hg7; have H7 := Lib.hid hown7; clear hown7 hg7 hc7 hf7) | (refine step_app (B := w.heap.size) (v := .slice g6 l.length q6) rfl (.tmp 61) (.tmp 63) 32 rfl 36 i0 _ _ Try.underlying32 hi0 hz0 hz1 hz2 rfl (by decide) (by simp [Act.eval, Act.put]) (H6.out.ext bxt) (some ⟨w3.heap.size, 0, none⟩) 1 1 n.cells (by simp [Act.eval, Act.put]) ((Rd.lit w3 #[.int .i64 n.kind, .int .i64 n.n, .int .i64 n.uid, .string n.name] 36 1 4 w3.heap.size rfl rfl (by omega)).ext (Below.ext ((Below.refl _ _).drew) hb6)) (DNote.one _) (by omega) (by omega) (by first | omega | (simp; omega)) ?_; intro g7 q7 w7 hown7 hg7; obtain ⟨hc7, hf7⟩ := grown_foff hg7; have z0 := (hc7 _ 0 (by first | exact s60 | (simp; omega)) fo6).trans (by first | exact p0 | exact keep_alloc p0); have x0 := (hf7 _ 0 (by first | exact s60 | (simp; omega)) fo6).trans (by first | exact o0 | exact keepf_alloc o0 s60); have z1 := (hc7 _ 1 (by first | exact s60 | (simp; omega)) fo6).trans (by first | exact p1 | exact keep_alloc p1); have x1 := (hf7 _ 1 (by first | exact s60 | (simp; omega)) fo6).trans (by first | exact o1 | exact keepf_alloc o1 s60); have z2 := (hc7 _ 2 (by first | exact s60 | (simp; omega)) fo6).trans (by first | exact p2 | exact keep_alloc p2); have x2 := (hf7 _ 2 (by first | exact s60 | (simp; omega)) fo6).trans (by first | exact o2 | exact keepf_alloc o2 s60); have hz7 := hg7.size; (try simp at hz7); have s70 : B0 < w7.heap.size := (by omega); have hbw7 : Ext w w7 := below_foot (B := w.heap.size) (show Ext w _ from (by first | exact hbw6 | exact hbw6.alloc (by omega) _)) (show Own _ w.heap.size 36 4 (.slice g6 l.length q6) l.length (l.flatMap DNote.cells) from H6.out.ext bxt) (Nat.le_refl _) (by first | omega | (simp; omega)) hg7; have H7 := Lib.hid hown7; clear hown7 hg7 hc7 hf7) | (refine step_app (B := w.heap.size) (v := .slice g6 l.length q6) rfl (.tmp 61) (.tmp 63) 32 rfl 36 i0 _ _ Try.underlying32 hi0 hz0 hz1 hz2 rfl (by decide) (by simp [Act.eval, Act.put]) (H6.out.ext bxt) (some ⟨w6.heap.size, 0, none⟩) 1 1 n.cells (by simp [Act.eval, Act.put]) (Rd.lit _ _ _ 1 4 _ (by first | rfl | simp) rfl (by omega)) (DNote.one _) (by omega) (by omega) (by first | omega | (simp; omega)) ?_; intro g7 q7 w7 hown7 hg7; obtain ⟨hc7, hf7⟩ := grown_foff hg7; have z0 := (hc7 _ 0 (by first | exact s60 | (simp; omega)) fo6).trans (by first | exact p0 | exact keep_alloc p0); have x0 := (hf7 _ 0 (by first | exact s60 | (simp; omega)) fo6).trans (by first | exact o0 | exact keepf_alloc o0 s60); have z1 := (hc7 _ 1 (by first | exact s60 | (simp; omega)) fo6).trans (by first | exact p1 | exact keep_alloc p1); have x1 := (hf7 _ 1 (by first | exact s60 | (simp; omega)) fo6).trans (by first | exact o1 | exact keepf_alloc o1 s60); have z2 := (hc7 _ 2 (by first | exact s60 | (simp; omega)) fo6).trans (by first | exact p2 | exact keep_alloc p2); have x2 := (hf7 _ 2 (by first | exact s60 | (simp; omega)) fo6).trans (by first | exact o2 | exact keepf_alloc o2 s60); have hz7 := hg7.size; (try simp at hz7); have s70 : B0 < w7.heap.size := (by omega); have hbw7 : Ext w w7 := below_foot (B := w.heap.size) (show Ext w _ from (by first | exact hbw6 | exact hbw6.alloc (by omega) _)) (show Own _ w.heap.size 36 4 (.slice g6 l.length q6) l.length (l.flatMap DNote.cells) from H6.out.ext bxt) (Nat.le_refl _) (by first | omega | (simp; omega)) hg7; have H7 := Lib.hid hown7; clear hown7 hg7 hc7 hf7))
    | fail
  all_goals go_wp2_with fail
  all_goals have H3 : Hid (Own w7 w.heap.size 36 4 (.slice g7 (l ++ [n]).length q7) (l ++ [n]).length ((l ++ [n]).flatMap DNote.cells)) := by simpa [DNote.cells, Hid] using H7.out
  all_goals refine bodyPost_end (results_none rfl _ _ _) rfl ⟨g7, q7, rfl, (by simp [go_sem, *]), (by simp [go_sem, *]), (by simp [go_sem, *]), ?_, ?_, ?_⟩
  all_goals first
    | (with_reducible refine Own.set_lt ?_ H3.out (by (first | omega | (simp <;> omega))) _; exact Own.le H3.out (by omega))
    | (refine Below.setCell (Below.mono hbw7 (by omega)) ?_ _ <;> exact Nat.le_refl _)
    | (simp; omega)

set_option maxRecDepth 100000 in
set_option maxHeartbeats 4000000 in
theorem implPush_g1 (l : List DNote) (a : Option Addr) (c : Nat) (rb rc : Bool) (n : DNote) (Bs B0 : Nat) (w : World) (h : Own w Bs 36 4 (.slice a l.length c) l.length (l.flatMap DNote.cells)) (hl : l.length ≤ 1048576) (hB : B0 < w.heap.size) (hBs : Bs ≤ B0) (hoff : foot (.slice a l.length c) ≠ some B0) (q0 : w.cell? ⟨B0, 0, none⟩ = some (.slice a l.length c)) (q1 : w.cell? ⟨B0, 1, none⟩ = some (.bool rb)) (q2 : w.cell? ⟨B0, 2, none⟩ = some (.bool rc)) (f0 : w.frozen? ⟨B0, 0, none⟩ = false) (f1 : w.frozen? ⟨B0, 1, none⟩ = false) (f2 : w.frozen? ⟨B0, 2, none⟩ = false) (K : Nat) (hKl : K < l.length) (hK : l.length = K + 1) (t1 : l[K].kind ≠ 1) (hk : n.kind = 1) (hb : rb = false) (hz : 0 ≤ n.n) (ha : l.any (boxIn n.n) = false) (h6 : ¬ l.length = 6) :
    Calls Try.prog 55 #[.pointer (some ⟨B0, 0, none⟩), .agg #[.int .i64 n.kind, .int .i64 n.n, .int .i64 n.uid, .string n.name]] w (PushI 36 Bs B0 ⟨l ++ [n], rb, rc⟩ w) := by
  have HO := Lib.hid h
  have HF := Lib.hid hoff
  clear h hoff
  subst hb
  have HT : Hid ((n.kind != 1) = false) := by simp [Hid, hk]
  have k1 : (n.kind == 1) = true := by simp [hk]
  clear hk
  have hle := lastBox_le l n.n hz
  rw [ha] at hle
  obtain ⟨z, hzz⟩ : ∃ z, lastBox l = z := ⟨_, rfl⟩
  rw [hzz] at hle
  have HZ := Lib.hid hzz
  clear hzz hz ha
  have m6 : ((l.length : Int) == 6) = false := by (simp; omega)
  clear h6
  have u4 : IntKind.i64.wrap ((l.length : Int) - 1) = (K : Int) := by rw [IntWalk.i64_in _ (by omega)]; omega
  have u5 : (0 : Int) ≤ (K : Int) := by omega
  have u6 : (K : Int) < (l.length : Int) := by omega
  have HD1 : Hid ((l[K].kind == 1) = false) := by simpa [Hid] using t1
  have HK := Lib.hid hK
  have hcap := HO.out.cap
  obtain ⟨gb0, rfl, -⟩ := HO.out.row (by omega)
  have hgl := HO.out.lt gb0 ((foot_slice _ _ _ _).2 ⟨by omega, _, rfl, rfl⟩)
  have hg0 : gb0 < w.heap.size := hgl.2
  have HAT : Hid (At w gb0 0 (l.flatMap DNote.cells)) := by
    obtain ⟨b, of, he, hbb, hat⟩ := (Rd.of_Own HO.out).ptr (by omega)
    obtain ⟨rfl, rfl⟩ : b = gb0 ∧ of = 0 := by cases he; exact ⟨rfl, rfl⟩
    exact hat
  clear hK hgl t1
  go_enter Try.func55, Try.ntmps55
  go_upto_region 10 with (go_at_call 62; refine (isOtherNote_any n _ _ HT).mono ?_; rintro e w1 ⟨rfl, hb1⟩; obtain ⟨hc1, hf1⟩ := bcell hb1; have hz1 := hb1.size; (try simp at hz1); have s10 : B0 < w1.heap.size := (by omega); have s11 : w.heap.size < w1.heap.size := (by omega))
  refine wp_world (fun V hV => ?_)
  have hwV : Ext w V := by (rw [hV]; exact bxt)
  have Vq0 : V.cell? ⟨B0, 0, none⟩ = some (.slice (some ⟨gb0, 0, none⟩) l.length c) := (hwV.cell (p := ⟨B0, 0, none⟩) hB).trans q0
  have Vf0 : V.frozen? ⟨B0, 0, none⟩ = false := (hwV.frozen (p := ⟨B0, 0, none⟩) hB).trans f0
  have Vq1 : V.cell? ⟨B0, 1, none⟩ = some (.bool false) := (hwV.cell (p := ⟨B0, 1, none⟩) hB).trans q1
  have Vf1 : V.frozen? ⟨B0, 1, none⟩ = false := (hwV.frozen (p := ⟨B0, 1, none⟩) hB).trans f1
  have Vq2 : V.cell? ⟨B0, 2, none⟩ = some (.bool rc) := (hwV.cell (p := ⟨B0, 2, none⟩) hB).trans q2
  have Vf2 : V.frozen? ⟨B0, 2, none⟩ = false := (hwV.frozen (p := ⟨B0, 2, none⟩) hB).trans f2
  have Vn0 : V.cell? ⟨w.heap.size, 0, none⟩ = some (.int .i64 n.kind) := by (rw [hV]; simp [go_sem, *])
  have Vn1 : V.cell? ⟨w.heap.size, 1, none⟩ = some (.int .i64 n.n) := by (rw [hV]; simp [go_sem, *])
  have Vn2 : V.cell? ⟨w.heap.size, 2, none⟩ = some (.int .i64 n.uid) := by (rw [hV]; simp [go_sem, *])
  have Vn3 : V.cell? ⟨w.heap.size, 3, none⟩ = some (.string n.name) := by (rw [hV]; simp [go_sem, *])
  have Vs1 : w.heap.size < V.heap.size := by (rw [hV]; first | omega | (simp; omega))
  have Vs0 : B0 < V.heap.size := by omega
  clear hV
  have xVq0 := fun y : ExtW V => (y.h.cell (p := ⟨B0, 0, none⟩) Vs0).trans Vq0
  have xVq1 := fun y : ExtW V => (y.h.cell (p := ⟨B0, 1, none⟩) Vs0).trans Vq1
  have xVq2 := fun y : ExtW V => (y.h.cell (p := ⟨B0, 2, none⟩) Vs0).trans Vq2
  have xVn0 := fun y : ExtW V => (y.h.cell (p := ⟨w.heap.size, 0, none⟩) Vs1).trans Vn0
  have xVn1 := fun y : ExtW V => (y.h.cell (p := ⟨w.heap.size, 1, none⟩) Vs1).trans Vn1
  have xVn2 := fun y : ExtW V => (y.h.cell (p := ⟨w.heap.size, 2, none⟩) Vs1).trans Vn2
  have xVn3 := fun y : ExtW V => (y.h.cell (p := ⟨w.heap.size, 3, none⟩) Vs1).trans Vn3
  refine wp_region_ext (by kernel_rfl) (by kernel_rfl) ?_
  repeat (go_big_quiet_step ((go_at_call 61; refine (lastBox_of l (some ⟨gb0, 0, none⟩) c false rc l.length rfl _ ((Rd.of_Own HO.out).ext (ExtW.of hwV _)) z HZ).mono ?_; rintro e w4 ⟨rfl, hb4⟩; exact ⟨rfl, ExtW.on _ hb4⟩)))
  refine wpQuiet_nil ?_
  rintro w8 ⟨⟨w8x, hw8⟩, hxw8⟩
  have hyw8 : w8 = w8x := hxw8
  subst hyw8
  clear hxw8  xVq0 xVq1 xVq2 xVn0 xVn1 xVn2 xVn3
  have hw80 : Ext w w8 := Below.ext hwV hw8
  have m0 := (hw8.cell (p := ⟨w.heap.size, 0, none⟩) Vs1).trans Vn0
  have m1 := (hw8.cell (p := ⟨w.heap.size, 1, none⟩) Vs1).trans Vn1
  have m2 := (hw8.cell (p := ⟨w.heap.size, 2, none⟩) Vs1).trans Vn2
  have m3 := (hw8.cell (p := ⟨w.heap.size, 3, none⟩) Vs1).trans Vn3
  have s81 : w.heap.size < w8.heap.size := Nat.lt_of_lt_of_le Vs1 hw8.size
  go_upto_region 11 with fail
  refine wp_world (fun U hU => ?_)
  have hwU : Ext w U := by (rw [hU]; exact bxt)
  have Uq0 : U.cell? ⟨B0, 0, none⟩ = some (.slice (some ⟨gb0, 0, none⟩) l.length c) := (hwU.cell (p := ⟨B0, 0, none⟩) hB).trans q0
  have Uf0 : U.frozen? ⟨B0, 0, none⟩ = false := (hwU.frozen (p := ⟨B0, 0, none⟩) hB).trans f0
  have Uq1 : U.cell? ⟨B0, 1, none⟩ = some (.bool false) := (hwU.cell (p := ⟨B0, 1, none⟩) hB).trans q1
  have Uf1 : U.frozen? ⟨B0, 1, none⟩ = false := (hwU.frozen (p := ⟨B0, 1, none⟩) hB).trans f1
  have Uq2 : U.cell? ⟨B0, 2, none⟩ = some (.bool rc) := (hwU.cell (p := ⟨B0, 2, none⟩) hB).trans q2
  have Uf2 : U.frozen? ⟨B0, 2, none⟩ = false := (hwU.frozen (p := ⟨B0, 2, none⟩) hB).trans f2
  have Un0 : U.cell? ⟨w.heap.size, 0, none⟩ = some (.int .i64 n.kind) := by (rw [hU]; simp [go_sem, *])
  have Un1 : U.cell? ⟨w.heap.size, 1, none⟩ = some (.int .i64 n.n) := by (rw [hU]; simp [go_sem, *])
  have Un2 : U.cell? ⟨w.heap.size, 2, none⟩ = some (.int .i64 n.uid) := by (rw [hU]; simp [go_sem, *])
  have Un3 : U.cell? ⟨w.heap.size, 3, none⟩ = some (.string n.name) := by (rw [hU]; simp [go_sem, *])
  have Us1 : w.heap.size < U.heap.size := by (rw [hU]; first | omega | (simp; omega))
  have Us0 : B0 < U.heap.size := by omega
  clear hU
  obtain ⟨y0, y1, y2, y3⟩ := DNote.at0 (HAT.out.ext hg0 hwU) K hKl
  have hgU : gb0 < U.heap.size := Nat.lt_of_lt_of_le hg0 hwU.size
  have xe0 := fun y : ExtW U => (y.h.cell (p := ⟨gb0, K * 4, none⟩) hgU).trans y0
  have xe1 := fun y : ExtW U => (y.h.cell (p := ⟨gb0, K * 4 + 1, none⟩) hgU).trans y1
  have xe2 := fun y : ExtW U => (y.h.cell (p := ⟨gb0, K * 4 + 2, none⟩) hgU).trans y2
  have xe3 := fun y : ExtW U => (y.h.cell (p := ⟨gb0, K * 4 + 3, none⟩) hgU).trans y3
  have xUq0 := fun y : ExtW U => (y.h.cell (p := ⟨B0, 0, none⟩) Us0).trans Uq0
  have xUq1 := fun y : ExtW U => (y.h.cell (p := ⟨B0, 1, none⟩) Us0).trans Uq1
  have xUq2 := fun y : ExtW U => (y.h.cell (p := ⟨B0, 2, none⟩) Us0).trans Uq2
  have xUn0 := fun y : ExtW U => (y.h.cell (p := ⟨w.heap.size, 0, none⟩) Us1).trans Un0
  have xUn1 := fun y : ExtW U => (y.h.cell (p := ⟨w.heap.size, 1, none⟩) Us1).trans Un1
  have xUn2 := fun y : ExtW U => (y.h.cell (p := ⟨w.heap.size, 2, none⟩) Us1).trans Un2
  have xUn3 := fun y : ExtW U => (y.h.cell (p := ⟨w.heap.size, 3, none⟩) Us1).trans Un3
  refine wp_region_ext (by kernel_rfl) (by kernel_rfl) ?_
  repeat (go_big_quiet_step ((go_at_call 60; refine (isBoxNote_any l[K] _ _ HD1).mono ?_; rintro e w9 ⟨rfl, hb9⟩; exact ⟨rfl, ExtW.on _ hb9⟩)))
  refine wpQuiet_nil ?_
  rintro w3 ⟨⟨w3x, hw3⟩, hx3⟩
  have hx4 : w3 = w3x := hx3
  subst hx4
  clear hx3  xUq0 xUq1 xUq2 xUn0 xUn1 xUn2 xUn3
  have hw30 : Ext w w3 := Below.ext hwU hw3
  clear xe0 xe1 xe2 xe3 y0 y1 y2 y3
  clear m0 m1 m2 m3
  have y0 := (hw30.cell (p := ⟨B0, 0, none⟩) hB).trans q0
  have g0 := (hw30.frozen (p := ⟨B0, 0, none⟩) hB).trans f0
  have y1 := (hw30.cell (p := ⟨B0, 1, none⟩) hB).trans q1
  have g1 := (hw30.frozen (p := ⟨B0, 1, none⟩) hB).trans f1
  have y2 := (hw30.cell (p := ⟨B0, 2, none⟩) hB).trans q2
  have g2 := (hw30.frozen (p := ⟨B0, 2, none⟩) hB).trans f2
  have s30 : B0 < w3.heap.size := by (have := hw30.size; omega)
  have m0 := (hw3.cell (p := ⟨w.heap.size, 0, none⟩) Us1).trans Un0
  have m1 := (hw3.cell (p := ⟨w.heap.size, 1, none⟩) Us1).trans Un1
  have m2 := (hw3.cell (p := ⟨w.heap.size, 2, none⟩) Us1).trans Un2
  have m3 := (hw3.cell (p := ⟨w.heap.size, 3, none⟩) Us1).trans Un3
  have s31 : w.heap.size < w3.heap.size := Nat.lt_of_lt_of_le Us1 hw3.size
  obtain ⟨i0, hi0, hz0, hz1, hz2⟩ := info_parts info_Note
  go_upto_region 9 with fail
  first
    | go_region_law (first | (go_simp; go_at_call 96; refine (cloneNoteS_any l _ _ _ (((Rd.of_Own HO.out).ext hw30).ext bxt) (by omega)).mono ?_; rintro e w6 ⟨g6, q6, rfl, hown6, hb6⟩; have p0 := (hb6.cell (p := ⟨B0, 0, none⟩) (by first | exact s30 | (simp; omega))).trans (by first | exact y0 | exact keep_alloc (w := w3.drew) y0 | exact keep_alloc (w := w3) y0); have o0 := (hb6.frozen (p := ⟨B0, 0, none⟩) (by first | exact s30 | (simp; omega))).trans (by first | exact g0 | exact keepf_alloc (w := w3.drew) g0 s30 | exact keepf_alloc (w := w3) g0 s30); have p1 := (hb6.cell (p := ⟨B0, 1, none⟩) (by first | exact s30 | (simp; omega))).trans (by first | exact y1 | exact keep_alloc (w := w3.drew) y1 | exact keep_alloc (w := w3) y1); have o1 := (hb6.frozen (p := ⟨B0, 1, none⟩) (by first | exact s30 | (simp; omega))).trans (by first | exact g1 | exact keepf_alloc (w := w3.drew) g1 s30 | exact keepf_alloc (w := w3) g1 s30); have p2 := (hb6.cell (p := ⟨B0, 2, none⟩) (by first | exact s30 | (simp; omega))).trans (by first | exact y2 | exact keep_alloc (w := w3.drew) y2 | exact keep_alloc (w := w3) y2); have o2 := (hb6.frozen (p := ⟨B0, 2, none⟩) (by first | exact s30 | (simp; omega))).trans (by first | exact g2 | exact keepf_alloc (w := w3.drew) g2 s30 | exact keepf_alloc (w := w3) g2 s30); have r0 := (hb6.cell (p := ⟨w.heap.size, 0, none⟩) (by first | exact s31 | (simp; omega))).trans (by first | exact m0 | exact keep_alloc (w := w3.drew) m0 | exact keep_alloc (w := w3) m0); have r1 := (hb6.cell (p := ⟨w.heap.size, 1, none⟩) (by first | exact s31 | (simp; omega))).trans (by first | exact m1 | exact keep_alloc (w := w3.drew) m1 | exact keep_alloc (w := w3) m1); have r2 := (hb6.cell (p := ⟨w.heap.size, 2, none⟩) (by first | exact s31 | (simp; omega))).trans (by first | exact m2 | exact keep_alloc (w := w3.drew) m2 | exact keep_alloc (w := w3) m2); have r3 := (hb6.cell (p := ⟨w.heap.size, 3, none⟩) (by first | exact s31 | (simp; omega))).trans (by first | exact m3 | exact keep_alloc (w := w3.drew) m3 | exact keep_alloc (w := w3) m3); have hz6 := hb6.size; (try simp at hz6); have hbw6 : Ext w w6 := (by first | exact Below.ext (hw30.drew) hb6 | exact Below.ext (hw30.drew.alloc (by omega) _) hb6 | exact Below.ext ((hw30.alloc (by omega) _).drew) hb6); have H6 := Lib.hid (Own.le (B' := w.heap.size) hown6 smx); have s60 : B0 < w6.heap.size := (by omega); have s61 : w.heap.size < w6.heap.size := (by omega); have fo6 := FOff.lt H6.out hB; clear hown6) | (refine step_app (B := w.heap.size) (v := .slice g6 l.length q6) rfl (.tmp 61) (.tmp 63) 32 rfl 36 i0 _ _ Try.underlying32 hi0 hz0 hz1 hz2 rfl (by decide) (by simp [Act.eval, Act.put]) (H6.out.ext bxt) (some ⟨w3.heap.size, 0, none⟩) 1 1 n.cells (by simp [Act.eval, Act.put]) ((Rd.lit w3.drew #[.int .i64 n.kind, .int .i64 n.n, .int .i64 n.uid, .string n.name] 36 1 4 w3.heap.size rfl rfl (by omega)).ext hb6) (DNote.one _) (by omega) (by omega) (by first | omega | (simp; omega)) ?_; intro g7 q7 w7 hown7 hg7; obtain ⟨hc7, hf7⟩ := grown_foff hg7; have z0 := (hc7 _ 0 (by first | exact s60 | (simp; omega)) fo6).trans (by first | exact p0 | exact keep_alloc p0); have x0 := (hf7 _ 0 (by first | exact s60 | (simp; omega)) fo6).trans (by first | exact o0 | exact keepf_alloc o0 s60); have z1 := (hc7 _ 1 (by first | exact s60 | (simp; omega)) fo6).trans (by first | exact p1 | exact keep_alloc p1); have x1 := (hf7 _ 1 (by first | exact s60 | (simp; omega)) fo6).trans (by first | exact o1 | exact keepf_alloc o1 s60); have z2 := (hc7 _ 2 (by first | exact s60 | (simp; omega)) fo6).trans (by first | exact p2 | exact keep_alloc p2); have x2 := (hf7 _ 2 (by first | exact s60 | (simp; omega)) fo6).trans (by first | exact o2 | exact keepf_alloc o2 s60); have hz7 := hg7.size; (try simp at hz7); have s70 : B0 < w7.heap.size := (by omega); have hbw7 : Ext w w7 := below_foot (B := w.heap.size) (show Ext w _ from (by first | exact hbw6 | exact hbw6.alloc (by omega) _)) (show Own _ w.heap.size 36 4 (.slice g6 l.length q6) l.length (l.flatMap DNote.cells) from H6.out.ext bxt) (Nat.le_refl _) (by first | omega | (simp; omega)) hg7; have H7 := Lib.hid hown7; clear hown7 hg7 hc7 hf7) | (refine step_app (B := w.heap.size) (v := .slice g6 l.length q6) rfl (.tmp 61) (.tmp 63) 32 rfl 36 i0 _ _ Try.underlying32 hi0 hz0 hz1 hz2 rfl (by decide) (by simp [Act.eval, Act.put]) (H6.out.ext bxt) (some ⟨w3.heap.size, 0, none⟩) 1 1 n.cells (by simp [Act.eval, Act.put]) ((Rd.lit w3 #[.int .i64 n.kind, .int .i64 n.n, .int .i64 n.uid, .string n.name] 36 1 4 w3.heap.size rfl rfl (by omega)).ext (Below.ext ((Below.refl _ _).drew) hb6)) (DNote.one _) (by omega) (by omega) (by first | omega | (simp; omega)) ?_; intro g7 q7 w7 hown7 hg7; obtain ⟨hc7, hf7⟩ := grown_foff hg7; have z0 := (hc7 _ 0 (by first | exact s60 | (simp; omega)) fo6).trans (by first | exact p0 | exact keep_alloc p0); have x0 := (hf7 _ 0 (by first | exact s60 | (simp; omega)) fo6).trans (by first | exact o0 | exact keepf_alloc o0 s60); have z1 := (hc7 _ 1 (by first | exact s60 | (simp; omega)) fo6).trans (by first | exact p1 | exact keep_alloc p1); have x1 := (hf7 _ 1 (by first | exact s60 | (simp; omega)) fo6).trans (by first | exact o1 | exact keepf_alloc o1 s60); have z2 := (hc7 _ 2 (by first | exact s60 | (simp; omega)) fo6).trans (by first | exact p2 | exact keep_alloc p2); have x2 := (hf7 _ 2 (by first | exact s60 | (simp; omega)) fo6).trans (by first | exact o2 | exact keepf_alloc o2 s60); have hz7 := hg7.size; (try simp at hz7); have s70 : B0 < w7.heap.size := (by omega); have hbw7 : Ext w w7 := below_foot (B := w.heap.size) (show Ext w _ from (by first | exact hbw6 | exact hbw6.alloc (by omega) _)) (show Own _ w.heap.size 36 4 (.slice g6 l.length q6) l.length (l.flatMap DNote.cells) from H6.out.ext bxt) (Nat.le_refl _) (by first | omega | (simp; omega)) hg7; have H7 := Lib.hid hown7; clear hown7 hg7 hc7 hf7) | (refine step_app (B := w.heap.size) (v := .slice g6 l.length q6) rfl (.tmp 61) (.tmp 63) 32 rfl 36 i0 _ _ Try.underlying32 hi0 hz0 hz1 hz2 rfl (by decide) (by simp [Act.eval, Act.put]) (H6.out.ext bxt) (some ⟨w6.heap.size, 0, none⟩) 1 1 n.cells (by simp [Act.eval, Act.put]) (Rd.lit _ _ _ 1 4 _ (by first | rfl | simp) rfl (by omega)) (DNote.one _) (by omega) (by omega) (by first | omega | (simp; omega)) ?_; intro g7 q7 w7 hown7 hg7; obtain ⟨hc7, hf7⟩ := grown_foff hg7; have z0 := (hc7 _ 0 (by first | exact s60 | (simp; omega)) fo6).trans (by first | exact p0 | exact keep_alloc p0); have x0 := (hf7 _ 0 (by first | exact s60 | (simp; omega)) fo6).trans (by first | exact o0 | exact keepf_alloc o0 s60); have z1 := (hc7 _ 1 (by first | exact s60 | (simp; omega)) fo6).trans (by first | exact p1 | exact keep_alloc p1); have x1 := (hf7 _ 1 (by first | exact s60 | (simp; omega)) fo6).trans (by first | exact o1 | exact keepf_alloc o1 s60); have z2 := (hc7 _ 2 (by first | exact s60 | (simp; omega)) fo6).trans (by first | exact p2 | exact keep_alloc p2); have x2 := (hf7 _ 2 (by first | exact s60 | (simp; omega)) fo6).trans (by first | exact o2 | exact keepf_alloc o2 s60); have hz7 := hg7.size; (try simp at hz7); have s70 : B0 < w7.heap.size := (by omega); have hbw7 : Ext w w7 := below_foot (B := w.heap.size) (show Ext w _ from (by first | exact hbw6 | exact hbw6.alloc (by omega) _)) (show Own _ w.heap.size 36 4 (.slice g6 l.length q6) l.length (l.flatMap DNote.cells) from H6.out.ext bxt) (Nat.le_refl _) (by first | omega | (simp; omega)) hg7; have H7 := Lib.hid hown7; clear hown7 hg7 hc7 hf7))
    | fail
  all_goals go_wp2_with fail
  all_goals have H3 : Hid (Own w7 w.heap.size 36 4 (.slice g7 (l ++ [n]).length q7) (l ++ [n]).length ((l ++ [n]).flatMap DNote.cells)) := by simpa [DNote.cells, Hid] using H7.out
  all_goals refine bodyPost_end (results_none rfl _ _ _) rfl ⟨g7, q7, rfl, (by simp [go_sem, *]), (by simp [go_sem, *]), (by simp [go_sem, *]), ?_, ?_, ?_⟩
  all_goals first
    | (with_reducible refine Own.set_lt ?_ H3.out (by (first | omega | (simp <;> omega))) _; exact Own.le H3.out (by omega))
    | (refine Below.setCell (Below.mono hbw7 (by omega)) ?_ _ <;> exact Nat.le_refl _)
    | (simp; omega)

set_option maxRecDepth 100000 in
set_option maxHeartbeats 4000000 in
theorem implPush_f1 (l : List DNote) (a : Option Addr) (c : Nat) (rb rc : Bool) (n : DNote) (Bs B0 : Nat) (w : World) (h : Own w Bs 36 4 (.slice a l.length c) l.length (l.flatMap DNote.cells)) (hl : l.length ≤ 1048576) (hB : B0 < w.heap.size) (hBs : Bs ≤ B0) (hoff : foot (.slice a l.length c) ≠ some B0) (q0 : w.cell? ⟨B0, 0, none⟩ = some (.slice a l.length c)) (q1 : w.cell? ⟨B0, 1, none⟩ = some (.bool rb)) (q2 : w.cell? ⟨B0, 2, none⟩ = some (.bool rc)) (f0 : w.frozen? ⟨B0, 0, none⟩ = false) (f1 : w.frozen? ⟨B0, 1, none⟩ = false) (f2 : w.frozen? ⟨B0, 2, none⟩ = false) (r : List DNote) (HR5 : Hid (l.filter (onlyIs false) = r)) (K : Nat) (hKl : K < l.length) (hK : l.length = K + 1) (t1 : l[K].kind ≠ 1) (hk : n.kind = 1) (hb : rb = false) (hz : 0 ≤ n.n) (ha : l.any (boxIn n.n) = false) (h6 : l.length = 6) :
    Calls Try.prog 55 #[.pointer (some ⟨B0, 0, none⟩), .agg #[.int .i64 n.kind, .int .i64 n.n, .int .i64 n.uid, .string n.name]] w (PushI 36 Bs B0 ⟨r, true, rc⟩ w) := by
  have HO := Lib.hid h
  have HF := Lib.hid hoff
  clear h hoff
  subst hb
  have HT : Hid ((n.kind != 1) = false) := by simp [Hid, hk]
  have k1 : (n.kind == 1) = true := by simp [hk]
  clear hk
  have hle := lastBox_le l n.n hz
  rw [ha] at hle
  obtain ⟨z, hzz⟩ : ∃ z, lastBox l = z := ⟨_, rfl⟩
  rw [hzz] at hle
  have HZ := Lib.hid hzz
  clear hzz hz ha
  have m6 : ((l.length : Int) == 6) = true := by (simp; omega)
  clear h6
  have u4 : IntKind.i64.wrap ((l.length : Int) - 1) = (K : Int) := by rw [IntWalk.i64_in _ (by omega)]; omega
  have u5 : (0 : Int) ≤ (K : Int) := by omega
  have u6 : (K : Int) < (l.length : Int) := by omega
  have HD1 : Hid ((l[K].kind == 1) = false) := by simpa [Hid] using t1
  have HK := Lib.hid hK
  have hcap := HO.out.cap
  obtain ⟨gb0, rfl, -⟩ := HO.out.row (by omega)
  have hgl := HO.out.lt gb0 ((foot_slice _ _ _ _).2 ⟨by omega, _, rfl, rfl⟩)
  have hg0 : gb0 < w.heap.size := hgl.2
  have HAT : Hid (At w gb0 0 (l.flatMap DNote.cells)) := by
    obtain ⟨b, of, he, hbb, hat⟩ := (Rd.of_Own HO.out).ptr (by omega)
    obtain ⟨rfl, rfl⟩ : b = gb0 ∧ of = 0 := by cases he; exact ⟨rfl, rfl⟩
    exact hat
  clear hK hgl t1
  go_enter Try.func55, Try.ntmps55
  go_upto_region 10 with (go_at_call 62; refine (isOtherNote_any n _ _ HT).mono ?_; rintro e w1 ⟨rfl, hb1⟩; obtain ⟨hc1, hf1⟩ := bcell hb1; have hz1 := hb1.size; (try simp at hz1); have s10 : B0 < w1.heap.size := (by omega); have s11 : w.heap.size < w1.heap.size := (by omega))
  refine wp_world (fun V hV => ?_)
  have hwV : Ext w V := by (rw [hV]; exact bxt)
  have Vq0 : V.cell? ⟨B0, 0, none⟩ = some (.slice (some ⟨gb0, 0, none⟩) l.length c) := (hwV.cell (p := ⟨B0, 0, none⟩) hB).trans q0
  have Vf0 : V.frozen? ⟨B0, 0, none⟩ = false := (hwV.frozen (p := ⟨B0, 0, none⟩) hB).trans f0
  have Vq1 : V.cell? ⟨B0, 1, none⟩ = some (.bool false) := (hwV.cell (p := ⟨B0, 1, none⟩) hB).trans q1
  have Vf1 : V.frozen? ⟨B0, 1, none⟩ = false := (hwV.frozen (p := ⟨B0, 1, none⟩) hB).trans f1
  have Vq2 : V.cell? ⟨B0, 2, none⟩ = some (.bool rc) := (hwV.cell (p := ⟨B0, 2, none⟩) hB).trans q2
  have Vf2 : V.frozen? ⟨B0, 2, none⟩ = false := (hwV.frozen (p := ⟨B0, 2, none⟩) hB).trans f2
  have Vn0 : V.cell? ⟨w.heap.size, 0, none⟩ = some (.int .i64 n.kind) := by (rw [hV]; simp [go_sem, *])
  have Vn1 : V.cell? ⟨w.heap.size, 1, none⟩ = some (.int .i64 n.n) := by (rw [hV]; simp [go_sem, *])
  have Vn2 : V.cell? ⟨w.heap.size, 2, none⟩ = some (.int .i64 n.uid) := by (rw [hV]; simp [go_sem, *])
  have Vn3 : V.cell? ⟨w.heap.size, 3, none⟩ = some (.string n.name) := by (rw [hV]; simp [go_sem, *])
  have Vs1 : w.heap.size < V.heap.size := by (rw [hV]; first | omega | (simp; omega))
  have Vs0 : B0 < V.heap.size := by omega
  clear hV
  have xVq0 := fun y : ExtW V => (y.h.cell (p := ⟨B0, 0, none⟩) Vs0).trans Vq0
  have xVq1 := fun y : ExtW V => (y.h.cell (p := ⟨B0, 1, none⟩) Vs0).trans Vq1
  have xVq2 := fun y : ExtW V => (y.h.cell (p := ⟨B0, 2, none⟩) Vs0).trans Vq2
  have xVn0 := fun y : ExtW V => (y.h.cell (p := ⟨w.heap.size, 0, none⟩) Vs1).trans Vn0
  have xVn1 := fun y : ExtW V => (y.h.cell (p := ⟨w.heap.size, 1, none⟩) Vs1).trans Vn1
  have xVn2 := fun y : ExtW V => (y.h.cell (p := ⟨w.heap.size, 2, none⟩) Vs1).trans Vn2
  have xVn3 := fun y : ExtW V => (y.h.cell (p := ⟨w.heap.size, 3, none⟩) Vs1).trans Vn3
  refine wp_region_ext (by kernel_rfl) (by kernel_rfl) ?_
  repeat (go_big_quiet_step ((go_at_call 61; refine (lastBox_of l (some ⟨gb0, 0, none⟩) c false rc l.length rfl _ ((Rd.of_Own HO.out).ext (ExtW.of hwV _)) z HZ).mono ?_; rintro e w4 ⟨rfl, hb4⟩; exact ⟨rfl, ExtW.on _ hb4⟩)))
  refine wpQuiet_nil ?_
  rintro w8 ⟨⟨w8x, hw8⟩, hxw8⟩
  have hyw8 : w8 = w8x := hxw8
  subst hyw8
  clear hxw8  xVq0 xVq1 xVq2 xVn0 xVn1 xVn2 xVn3
  have hw80 : Ext w w8 := Below.ext hwV hw8
  have m0 := (hw8.cell (p := ⟨w.heap.size, 0, none⟩) Vs1).trans Vn0
  have m1 := (hw8.cell (p := ⟨w.heap.size, 1, none⟩) Vs1).trans Vn1
  have m2 := (hw8.cell (p := ⟨w.heap.size, 2, none⟩) Vs1).trans Vn2
  have m3 := (hw8.cell (p := ⟨w.heap.size, 3, none⟩) Vs1).trans Vn3
  have s81 : w.heap.size < w8.heap.size := Nat.lt_of_lt_of_le Vs1 hw8.size
  go_upto_region 11 with fail
  refine wp_world (fun U hU => ?_)
  have hwU : Ext w U := by (rw [hU]; exact bxt)
  have Uq0 : U.cell? ⟨B0, 0, none⟩ = some (.slice (some ⟨gb0, 0, none⟩) l.length c) := (hwU.cell (p := ⟨B0, 0, none⟩) hB).trans q0
  have Uf0 : U.frozen? ⟨B0, 0, none⟩ = false := (hwU.frozen (p := ⟨B0, 0, none⟩) hB).trans f0
  have Uq1 : U.cell? ⟨B0, 1, none⟩ = some (.bool false) := (hwU.cell (p := ⟨B0, 1, none⟩) hB).trans q1
  have Uf1 : U.frozen? ⟨B0, 1, none⟩ = false := (hwU.frozen (p := ⟨B0, 1, none⟩) hB).trans f1
  have Uq2 : U.cell? ⟨B0, 2, none⟩ = some (.bool rc) := (hwU.cell (p := ⟨B0, 2, none⟩) hB).trans q2
  have Uf2 : U.frozen? ⟨B0, 2, none⟩ = false := (hwU.frozen (p := ⟨B0, 2, none⟩) hB).trans f2
  have Un0 : U.cell? ⟨w.heap.size, 0, none⟩ = some (.int .i64 n.kind) := by (rw [hU]; simp [go_sem, *])
  have Un1 : U.cell? ⟨w.heap.size, 1, none⟩ = some (.int .i64 n.n) := by (rw [hU]; simp [go_sem, *])
  have Un2 : U.cell? ⟨w.heap.size, 2, none⟩ = some (.int .i64 n.uid) := by (rw [hU]; simp [go_sem, *])
  have Un3 : U.cell? ⟨w.heap.size, 3, none⟩ = some (.string n.name) := by (rw [hU]; simp [go_sem, *])
  have Us1 : w.heap.size < U.heap.size := by (rw [hU]; first | omega | (simp; omega))
  have Us0 : B0 < U.heap.size := by omega
  clear hU
  obtain ⟨y0, y1, y2, y3⟩ := DNote.at0 (HAT.out.ext hg0 hwU) K hKl
  have hgU : gb0 < U.heap.size := Nat.lt_of_lt_of_le hg0 hwU.size
  have xe0 := fun y : ExtW U => (y.h.cell (p := ⟨gb0, K * 4, none⟩) hgU).trans y0
  have xe1 := fun y : ExtW U => (y.h.cell (p := ⟨gb0, K * 4 + 1, none⟩) hgU).trans y1
  have xe2 := fun y : ExtW U => (y.h.cell (p := ⟨gb0, K * 4 + 2, none⟩) hgU).trans y2
  have xe3 := fun y : ExtW U => (y.h.cell (p := ⟨gb0, K * 4 + 3, none⟩) hgU).trans y3
  have xUq0 := fun y : ExtW U => (y.h.cell (p := ⟨B0, 0, none⟩) Us0).trans Uq0
  have xUq1 := fun y : ExtW U => (y.h.cell (p := ⟨B0, 1, none⟩) Us0).trans Uq1
  have xUq2 := fun y : ExtW U => (y.h.cell (p := ⟨B0, 2, none⟩) Us0).trans Uq2
  have xUn0 := fun y : ExtW U => (y.h.cell (p := ⟨w.heap.size, 0, none⟩) Us1).trans Un0
  have xUn1 := fun y : ExtW U => (y.h.cell (p := ⟨w.heap.size, 1, none⟩) Us1).trans Un1
  have xUn2 := fun y : ExtW U => (y.h.cell (p := ⟨w.heap.size, 2, none⟩) Us1).trans Un2
  have xUn3 := fun y : ExtW U => (y.h.cell (p := ⟨w.heap.size, 3, none⟩) Us1).trans Un3
  refine wp_region_ext (by kernel_rfl) (by kernel_rfl) ?_
  repeat (go_big_quiet_step ((go_at_call 60; refine (isBoxNote_any l[K] _ _ HD1).mono ?_; rintro e w9 ⟨rfl, hb9⟩; exact ⟨rfl, ExtW.on _ hb9⟩)))
  refine wpQuiet_nil ?_
  rintro w3 ⟨⟨w3x, hw3⟩, hx3⟩
  have hx4 : w3 = w3x := hx3
  subst hx4
  clear hx3  xUq0 xUq1 xUq2 xUn0 xUn1 xUn2 xUn3
  have hw30 : Ext w w3 := Below.ext hwU hw3
  clear xe0 xe1 xe2 xe3 y0 y1 y2 y3
  clear m0 m1 m2 m3
  have y0 := (hw30.cell (p := ⟨B0, 0, none⟩) hB).trans q0
  have g0 := (hw30.frozen (p := ⟨B0, 0, none⟩) hB).trans f0
  have y1 := (hw30.cell (p := ⟨B0, 1, none⟩) hB).trans q1
  have g1 := (hw30.frozen (p := ⟨B0, 1, none⟩) hB).trans f1
  have y2 := (hw30.cell (p := ⟨B0, 2, none⟩) hB).trans q2
  have g2 := (hw30.frozen (p := ⟨B0, 2, none⟩) hB).trans f2
  have s30 : B0 < w3.heap.size := by (have := hw30.size; omega)
  have m0 := (hw3.cell (p := ⟨w.heap.size, 0, none⟩) Us1).trans Un0
  have m1 := (hw3.cell (p := ⟨w.heap.size, 1, none⟩) Us1).trans Un1
  have m2 := (hw3.cell (p := ⟨w.heap.size, 2, none⟩) Us1).trans Un2
  have m3 := (hw3.cell (p := ⟨w.heap.size, 3, none⟩) Us1).trans Un3
  have s31 : w.heap.size < w3.heap.size := Nat.lt_of_lt_of_le Us1 hw3.size
  go_wp2_with (go_at_call 98; refine (without_false l (some ⟨gb0, 0, none⟩) c B0 _ ((Rd.of_Own HO.out).ext hw30) hl y0 g0 s30 r HR5).mono ?_; rintro e w5 ⟨g5, q5, w2, rfl, rfl, hown5, hb5⟩; have z0 := (hb5.cell (p := ⟨B0, 0, none⟩) s30).trans y0; have x0 := (hb5.frozen (p := ⟨B0, 0, none⟩) s30).trans g0; have z1 := (hb5.cell (p := ⟨B0, 1, none⟩) s30).trans y1; have x1 := (hb5.frozen (p := ⟨B0, 1, none⟩) s30).trans g1; have z2 := (hb5.cell (p := ⟨B0, 2, none⟩) s30).trans y2; have x2 := (hb5.frozen (p := ⟨B0, 2, none⟩) s30).trans g2; have s50 : B0 < w2.heap.size := (by have := hb5.size; omega); have H5 := Lib.hid hown5; clear hown5)
  have hw20 : Ext w w2 := Below.ext hw30 hb5
  refine bodyPost_end (results_none rfl _ _ _) rfl ⟨g5, q5, rfl, (by simp [go_sem, *]), (by simp [go_sem, *]), (by simp [go_sem, *]), ?_, ?_, ?_⟩
  · (repeat' (first | with_reducible refine Own.set_lt ?_ H5.out (by (first | omega | (simp <;> omega))) _)); exact Own.le H5.out (by have := hw30.size; omega)
  · refine Below.setCell (Below.setCell (Below.mono hw20 (by omega)) ?_ _) ?_ _ <;> exact Nat.le_refl _
  · simp; omega

set_option maxRecDepth 100000 in
set_option maxHeartbeats 4000000 in
theorem implPush_g2 (l : List DNote) (a : Option Addr) (c : Nat) (rb rc : Bool) (n : DNote) (Bs B0 : Nat) (w : World) (h : Own w Bs 36 4 (.slice a l.length c) l.length (l.flatMap DNote.cells)) (hl : l.length ≤ 1048576) (hB : B0 < w.heap.size) (hBs : Bs ≤ B0) (hoff : foot (.slice a l.length c) ≠ some B0) (q0 : w.cell? ⟨B0, 0, none⟩ = some (.slice a l.length c)) (q1 : w.cell? ⟨B0, 1, none⟩ = some (.bool rb)) (q2 : w.cell? ⟨B0, 2, none⟩ = some (.bool rc)) (f0 : w.frozen? ⟨B0, 0, none⟩ = false) (f1 : w.frozen? ⟨B0, 1, none⟩ = false) (f2 : w.frozen? ⟨B0, 2, none⟩ = false) (K : Nat) (hKl : K < l.length) (hK : l.length = K + 1) (t1 : l[K].kind = 1) (t2 : l[K].uid ≠ n.uid) (hk : n.kind = 1) (hb : rb = false) (hz : 0 ≤ n.n) (ha : l.any (boxIn n.n) = false) (h6 : ¬ l.length = 6) :
    Calls Try.prog 55 #[.pointer (some ⟨B0, 0, none⟩), .agg #[.int .i64 n.kind, .int .i64 n.n, .int .i64 n.uid, .string n.name]] w (PushI 36 Bs B0 ⟨l ++ [n], rb, rc⟩ w) := by
  have HO := Lib.hid h
  have HF := Lib.hid hoff
  clear h hoff
  subst hb
  have HT : Hid ((n.kind != 1) = false) := by simp [Hid, hk]
  have k1 : (n.kind == 1) = true := by simp [hk]
  clear hk
  have hle := lastBox_le l n.n hz
  rw [ha] at hle
  obtain ⟨z, hzz⟩ : ∃ z, lastBox l = z := ⟨_, rfl⟩
  rw [hzz] at hle
  have HZ := Lib.hid hzz
  clear hzz hz ha
  have m6 : ((l.length : Int) == 6) = false := by (simp; omega)
  clear h6
  have u4 : IntKind.i64.wrap ((l.length : Int) - 1) = (K : Int) := by rw [IntWalk.i64_in _ (by omega)]; omega
  have u5 : (0 : Int) ≤ (K : Int) := by omega
  have u6 : (K : Int) < (l.length : Int) := by omega
  have HD1 : Hid ((l[K].kind == 1) = true) := by simpa [Hid] using t1
  have u2 : (l[K].uid == n.uid) = false := by simpa using t2
  have HK := Lib.hid hK
  have hcap := HO.out.cap
  obtain ⟨gb0, rfl, -⟩ := HO.out.row (by omega)
  have hgl := HO.out.lt gb0 ((foot_slice _ _ _ _).2 ⟨by omega, _, rfl, rfl⟩)
  have hg0 : gb0 < w.heap.size := hgl.2
  have HAT : Hid (At w gb0 0 (l.flatMap DNote.cells)) := by
    obtain ⟨b, of, he, hbb, hat⟩ := (Rd.of_Own HO.out).ptr (by omega)
    obtain ⟨rfl, rfl⟩ : b = gb0 ∧ of = 0 := by cases he; exact ⟨rfl, rfl⟩
    exact hat
  clear hK hgl t1 t2
  go_enter Try.func55, Try.ntmps55
  go_upto_region 10 with (go_at_call 62; refine (isOtherNote_any n _ _ HT).mono ?_; rintro e w1 ⟨rfl, hb1⟩; obtain ⟨hc1, hf1⟩ := bcell hb1; have hz1 := hb1.size; (try simp at hz1); have s10 : B0 < w1.heap.size := (by omega); have s11 : w.heap.size < w1.heap.size := (by omega))
  refine wp_world (fun V hV => ?_)
  have hwV : Ext w V := by (rw [hV]; exact bxt)
  have Vq0 : V.cell? ⟨B0, 0, none⟩ = some (.slice (some ⟨gb0, 0, none⟩) l.length c) := (hwV.cell (p := ⟨B0, 0, none⟩) hB).trans q0
  have Vf0 : V.frozen? ⟨B0, 0, none⟩ = false := (hwV.frozen (p := ⟨B0, 0, none⟩) hB).trans f0
  have Vq1 : V.cell? ⟨B0, 1, none⟩ = some (.bool false) := (hwV.cell (p := ⟨B0, 1, none⟩) hB).trans q1
  have Vf1 : V.frozen? ⟨B0, 1, none⟩ = false := (hwV.frozen (p := ⟨B0, 1, none⟩) hB).trans f1
  have Vq2 : V.cell? ⟨B0, 2, none⟩ = some (.bool rc) := (hwV.cell (p := ⟨B0, 2, none⟩) hB).trans q2
  have Vf2 : V.frozen? ⟨B0, 2, none⟩ = false := (hwV.frozen (p := ⟨B0, 2, none⟩) hB).trans f2
  have Vn0 : V.cell? ⟨w.heap.size, 0, none⟩ = some (.int .i64 n.kind) := by (rw [hV]; simp [go_sem, *])
  have Vn1 : V.cell? ⟨w.heap.size, 1, none⟩ = some (.int .i64 n.n) := by (rw [hV]; simp [go_sem, *])
  have Vn2 : V.cell? ⟨w.heap.size, 2, none⟩ = some (.int .i64 n.uid) := by (rw [hV]; simp [go_sem, *])
  have Vn3 : V.cell? ⟨w.heap.size, 3, none⟩ = some (.string n.name) := by (rw [hV]; simp [go_sem, *])
  have Vs1 : w.heap.size < V.heap.size := by (rw [hV]; first | omega | (simp; omega))
  have Vs0 : B0 < V.heap.size := by omega
  clear hV
  have xVq0 := fun y : ExtW V => (y.h.cell (p := ⟨B0, 0, none⟩) Vs0).trans Vq0
  have xVq1 := fun y : ExtW V => (y.h.cell (p := ⟨B0, 1, none⟩) Vs0).trans Vq1
  have xVq2 := fun y : ExtW V => (y.h.cell (p := ⟨B0, 2, none⟩) Vs0).trans Vq2
  have xVn0 := fun y : ExtW V => (y.h.cell (p := ⟨w.heap.size, 0, none⟩) Vs1).trans Vn0
  have xVn1 := fun y : ExtW V => (y.h.cell (p := ⟨w.heap.size, 1, none⟩) Vs1).trans Vn1
  have xVn2 := fun y : ExtW V => (y.h.cell (p := ⟨w.heap.size, 2, none⟩) Vs1).trans Vn2
  have xVn3 := fun y : ExtW V => (y.h.cell (p := ⟨w.heap.size, 3, none⟩) Vs1).trans Vn3
  refine wp_region_ext (by kernel_rfl) (by kernel_rfl) ?_
  repeat (go_big_quiet_step ((go_at_call 61; refine (lastBox_of l (some ⟨gb0, 0, none⟩) c false rc l.length rfl _ ((Rd.of_Own HO.out).ext (ExtW.of hwV _)) z HZ).mono ?_; rintro e w4 ⟨rfl, hb4⟩; exact ⟨rfl, ExtW.on _ hb4⟩)))
  refine wpQuiet_nil ?_
  rintro w8 ⟨⟨w8x, hw8⟩, hxw8⟩
  have hyw8 : w8 = w8x := hxw8
  subst hyw8
  clear hxw8  xVq0 xVq1 xVq2 xVn0 xVn1 xVn2 xVn3
  have hw80 : Ext w w8 := Below.ext hwV hw8
  have m0 := (hw8.cell (p := ⟨w.heap.size, 0, none⟩) Vs1).trans Vn0
  have m1 := (hw8.cell (p := ⟨w.heap.size, 1, none⟩) Vs1).trans Vn1
  have m2 := (hw8.cell (p := ⟨w.heap.size, 2, none⟩) Vs1).trans Vn2
  have m3 := (hw8.cell (p := ⟨w.heap.size, 3, none⟩) Vs1).trans Vn3
  have s81 : w.heap.size < w8.heap.size := Nat.lt_of_lt_of_le Vs1 hw8.size
  go_upto_region 11 with fail
  refine wp_world (fun U hU => ?_)
  have hwU : Ext w U := by (rw [hU]; exact bxt)
  have Uq0 : U.cell? ⟨B0, 0, none⟩ = some (.slice (some ⟨gb0, 0, none⟩) l.length c) := (hwU.cell (p := ⟨B0, 0, none⟩) hB).trans q0
  have Uf0 : U.frozen? ⟨B0, 0, none⟩ = false := (hwU.frozen (p := ⟨B0, 0, none⟩) hB).trans f0
  have Uq1 : U.cell? ⟨B0, 1, none⟩ = some (.bool false) := (hwU.cell (p := ⟨B0, 1, none⟩) hB).trans q1
  have Uf1 : U.frozen? ⟨B0, 1, none⟩ = false := (hwU.frozen (p := ⟨B0, 1, none⟩) hB).trans f1
  have Uq2 : U.cell? ⟨B0, 2, none⟩ = some (.bool rc) := (hwU.cell (p := ⟨B0, 2, none⟩) hB).trans q2
  have Uf2 : U.frozen? ⟨B0, 2, none⟩ = false := (hwU.frozen (p := ⟨B0, 2, none⟩) hB).trans f2
  have Un0 : U.cell? ⟨w.heap.size, 0, none⟩ = some (.int .i64 n.kind) := by (rw [hU]; simp [go_sem, *])
  have Un1 : U.cell? ⟨w.heap.size, 1, none⟩ = some (.int .i64 n.n) := by (rw [hU]; simp [go_sem, *])
  have Un2 : U.cell? ⟨w.heap.size, 2, none⟩ = some (.int .i64 n.uid) := by (rw [hU]; simp [go_sem, *])
  have Un3 : U.cell? ⟨w.heap.size, 3, none⟩ = some (.string n.name) := by (rw [hU]; simp [go_sem, *])
  have Us1 : w.heap.size < U.heap.size := by (rw [hU]; first | omega | (simp; omega))
  have Us0 : B0 < U.heap.size := by omega
  clear hU
  obtain ⟨y0, y1, y2, y3⟩ := DNote.at0 (HAT.out.ext hg0 hwU) K hKl
  have hgU : gb0 < U.heap.size := Nat.lt_of_lt_of_le hg0 hwU.size
  have xe0 := fun y : ExtW U => (y.h.cell (p := ⟨gb0, K * 4, none⟩) hgU).trans y0
  have xe1 := fun y : ExtW U => (y.h.cell (p := ⟨gb0, K * 4 + 1, none⟩) hgU).trans y1
  have xe2 := fun y : ExtW U => (y.h.cell (p := ⟨gb0, K * 4 + 2, none⟩) hgU).trans y2
  have xe3 := fun y : ExtW U => (y.h.cell (p := ⟨gb0, K * 4 + 3, none⟩) hgU).trans y3
  have xUq0 := fun y : ExtW U => (y.h.cell (p := ⟨B0, 0, none⟩) Us0).trans Uq0
  have xUq1 := fun y : ExtW U => (y.h.cell (p := ⟨B0, 1, none⟩) Us0).trans Uq1
  have xUq2 := fun y : ExtW U => (y.h.cell (p := ⟨B0, 2, none⟩) Us0).trans Uq2
  have xUn0 := fun y : ExtW U => (y.h.cell (p := ⟨w.heap.size, 0, none⟩) Us1).trans Un0
  have xUn1 := fun y : ExtW U => (y.h.cell (p := ⟨w.heap.size, 1, none⟩) Us1).trans Un1
  have xUn2 := fun y : ExtW U => (y.h.cell (p := ⟨w.heap.size, 2, none⟩) Us1).trans Un2
  have xUn3 := fun y : ExtW U => (y.h.cell (p := ⟨w.heap.size, 3, none⟩) Us1).trans Un3
  refine wp_region_ext (by kernel_rfl) (by kernel_rfl) ?_
  repeat (go_big_quiet_step ((go_at_call 60; refine (isBoxNote_any l[K] _ _ HD1).mono ?_; rintro e w9 ⟨rfl, hb9⟩; exact ⟨rfl, ExtW.on _ hb9⟩)))
  refine wpQuiet_nil ?_
  rintro w3 ⟨⟨w3x, hw3⟩, hx3⟩
  have hx4 : w3 = w3x := hx3
  subst hx4
  clear hx3  xUq0 xUq1 xUq2 xUn0 xUn1 xUn2 xUn3
  have hw30 : Ext w w3 := Below.ext hwU hw3
  clear xe0 xe1 xe2 xe3 y0 y1 y2 y3
  clear m0 m1 m2 m3
  have y0 := (hw30.cell (p := ⟨B0, 0, none⟩) hB).trans q0
  have g0 := (hw30.frozen (p := ⟨B0, 0, none⟩) hB).trans f0
  have y1 := (hw30.cell (p := ⟨B0, 1, none⟩) hB).trans q1
  have g1 := (hw30.frozen (p := ⟨B0, 1, none⟩) hB).trans f1
  have y2 := (hw30.cell (p := ⟨B0, 2, none⟩) hB).trans q2
  have g2 := (hw30.frozen (p := ⟨B0, 2, none⟩) hB).trans f2
  have s30 : B0 < w3.heap.size := by (have := hw30.size; omega)
  have m0 := (hw3.cell (p := ⟨w.heap.size, 0, none⟩) Us1).trans Un0
  have m1 := (hw3.cell (p := ⟨w.heap.size, 1, none⟩) Us1).trans Un1
  have m2 := (hw3.cell (p := ⟨w.heap.size, 2, none⟩) Us1).trans Un2
  have m3 := (hw3.cell (p := ⟨w.heap.size, 3, none⟩) Us1).trans Un3
  have s31 : w.heap.size < w3.heap.size := Nat.lt_of_lt_of_le Us1 hw3.size
  obtain ⟨i0, hi0, hz0, hz1, hz2⟩ := info_parts info_Note
  go_upto_region 9 with fail
  first
    | go_region_law (first | (go_simp; go_at_call 96; refine (cloneNoteS_any l _ _ _ (((Rd.of_Own HO.out).ext hw30).ext bxt) (by omega)).mono ?_; rintro e w6 ⟨g6, q6, rfl, hown6, hb6⟩; have p0 := (hb6.cell (p := ⟨B0, 0, none⟩) (by first | exact s30 | (simp; omega))).trans (by first | exact y0 | exact keep_alloc (w := w3.drew) y0 | exact keep_alloc (w := w3) y0); have o0 := (hb6.frozen (p := ⟨B0, 0, none⟩) (by first | exact s30 | (simp; omega))).trans (by first | exact g0 | exact keepf_alloc (w := w3.drew) g0 s30 | exact keepf_alloc (w := w3) g0 s30); have p1 := (hb6.cell (p := ⟨B0, 1, none⟩) (by first | exact s30 | (simp; omega))).trans (by first | exact y1 | exact keep_alloc (w := w3.drew) y1 | exact keep_alloc (w := w3) y1); have o1 := (hb6.frozen (p := ⟨B0, 1, none⟩) (by first | exact s30 | (simp; omega))).trans (by first | exact g1 | exact keepf_alloc (w := w3.drew) g1 s30 | exact keepf_alloc (w := w3) g1 s30); have p2 := (hb6.cell (p := ⟨B0, 2, none⟩) (by first | exact s30 | (simp; omega))).trans (by first | exact y2 | exact keep_alloc (w := w3.drew) y2 | exact keep_alloc (w := w3) y2); have o2 := (hb6.frozen (p := ⟨B0, 2, none⟩) (by first | exact s30 | (simp; omega))).trans (by first | exact g2 | exact keepf_alloc (w := w3.drew) g2 s30 | exact keepf_alloc (w := w3) g2 s30); have r0 := (hb6.cell (p := ⟨w.heap.size, 0, none⟩) (by first | exact s31 | (simp; omega))).trans (by first | exact m0 | exact keep_alloc (w := w3.drew) m0 | exact keep_alloc (w := w3) m0); have r1 := (hb6.cell (p := ⟨w.heap.size, 1, none⟩) (by first | exact s31 | (simp; omega))).trans (by first | exact m1 | exact keep_alloc (w := w3.drew) m1 | exact keep_alloc (w := w3) m1); have r2 := (hb6.cell (p := ⟨w.heap.size, 2, none⟩) (by first | exact s31 | (simp; omega))).trans (by first | exact m2 | exact keep_alloc (w := w3.drew) m2 | exact keep_alloc (w := w3) m2); have r3 := (hb6.cell (p := ⟨w.heap.size, 3, none⟩) (by first | exact s31 | (simp; omega))).trans (by first | exact m3 | exact keep_alloc (w := w3.drew) m3 | exact keep_alloc (w := w3) m3); have hz6 := hb6.size; (try simp at hz6); have hbw6 : Ext w w6 := (by first | exact Below.ext (hw30.drew) hb6 | exact Below.ext (hw30.drew.alloc (by omega) _) hb6 | exact Below.ext ((hw30.alloc (by omega) _).drew) hb6); have H6 := Lib.hid (Own.le (B' := w.heap.size) hown6 smx); have s60 : B0 < w6.heap.size := (by omega); have s61 : w.heap.size < w6.heap.size := (by omega); have fo6 := FOff.lt H6.out hB; clear hown6) | (refine step_app (B := w.heap.size) (v := .slice g6 l.length q6) rfl (.tmp 61) (.tmp 63) 32 rfl 36 i0 _ _ Try.underlying32 hi0 hz0 hz1 hz2 rfl (by decide) (by simp [Act.eval, Act.put]) (H6.out.ext bxt) (some ⟨w3.heap.size, 0, none⟩) 1 1 n.cells (by simp [Act.eval, Act.put]) ((Rd.lit w3.drew #[.int .i64 n.kind, .int .i64 n.n, .int .i64 n.uid, .string n.name] 36 1 4 w3.heap.size rfl rfl (by omega)).ext hb6) (DNote.one _) (by omega) (by omega) (by first | omega | (simp; omega)) ?_; intro g7 q7 w7 hown7 hg7; obtain ⟨hc7, hf7⟩ := grown_foff hg7; have z0 := (hc7 _ 0 (by first | exact s60 | (simp; omega)) fo6).trans (by first | exact p0 | exact keep_alloc p0); have x0 := (hf7 _ 0 (by first | exact s60 | (simp; omega)) fo6).trans (by first | exact o0 | exact keepf_alloc o0 s60); have z1 := (hc7 _ 1 (by first | exact s60 | (simp; omega)) fo6).trans (by first | exact p1 | exact keep_alloc p1); have x1 := (hf7 _ 1 (by first | exact s60 | (simp; omega)) fo6).trans (by first | exact o1 | exact keepf_alloc o1 s60); have z2 := (hc7 _ 2 (by first | exact s60 | (simp; omega)) fo6).trans (by first | exact p2 | exact keep_alloc p2); have x2 := (hf7 _ 2 (by first | exact s60 | (simp; omega)) fo6).trans (by first | exact o2 | exact keepf_alloc o2 s60); have hz7 := hg7.size; (try simp at hz7); have s70 : B0 < w7.heap.size := (by omega); have hbw7 : Ext w w7 := below_foot (B := w.heap.size) (show Ext w _ from (by first | exact hbw6 | exact hbw6.alloc (by omega) _)) (show Own _ w.heap.size 36 4 (.slice g6 l.length q6) l.length (l.flatMap DNote.cells) from H6.out.ext bxt) (Nat.le_refl _) (by first | omega | (simp; omega)) hg7; have H7 := Lib.hid hown7; clear hown7 hg7 hc7 hf7) | (refine step_app (B := w.heap.size) (v := .slice g6 l.length q6) rfl (.tmp 61) (.tmp 63) 32 rfl 36 i0 _ _ Try.underlying32 hi0 hz0 hz1 hz2 rfl (by decide) (by simp [Act.eval, Act.put]) (H6.out.ext bxt) (some ⟨w3.heap.size, 0, none⟩) 1 1 n.cells (by simp [Act.eval, Act.put]) ((Rd.lit w3 #[.int .i64 n.kind, .int .i64 n.n, .int .i64 n.uid, .string n.name] 36 1 4 w3.heap.size rfl rfl (by omega)).ext (Below.ext ((Below.refl _ _).drew) hb6)) (DNote.one _) (by omega) (by omega) (by first | omega | (simp; omega)) ?_; intro g7 q7 w7 hown7 hg7; obtain ⟨hc7, hf7⟩ := grown_foff hg7; have z0 := (hc7 _ 0 (by first | exact s60 | (simp; omega)) fo6).trans (by first | exact p0 | exact keep_alloc p0); have x0 := (hf7 _ 0 (by first | exact s60 | (simp; omega)) fo6).trans (by first | exact o0 | exact keepf_alloc o0 s60); have z1 := (hc7 _ 1 (by first | exact s60 | (simp; omega)) fo6).trans (by first | exact p1 | exact keep_alloc p1); have x1 := (hf7 _ 1 (by first | exact s60 | (simp; omega)) fo6).trans (by first | exact o1 | exact keepf_alloc o1 s60); have z2 := (hc7 _ 2 (by first | exact s60 | (simp; omega)) fo6).trans (by first | exact p2 | exact keep_alloc p2); have x2 := (hf7 _ 2 (by first | exact s60 | (simp; omega)) fo6).trans (by first | exact o2 | exact keepf_alloc o2 s60); have hz7 := hg7.size; (try simp at hz7); have s70 : B0 < w7.heap.size := (by omega); have hbw7 : Ext w w7 := below_foot (B := w.heap.size) (show Ext w _ from (by first | exact hbw6 | exact hbw6.alloc (by omega) _)) (show Own _ w.heap.size 36 4 (.slice g6 l.length q6) l.length (l.flatMap DNote.cells) from H6.out.ext bxt) (Nat.le_refl _) (by first | omega | (simp; omega)) hg7; have H7 := Lib.hid hown7; clear hown7 hg7 hc7 hf7) | (refine step_app (B := w.heap.size) (v := .slice g6 l.length q6) rfl (.tmp 61) (.tmp 63) 32 rfl 36 i0 _ _ Try.underlying32 hi0 hz0 hz1 hz2 rfl (by decide) (by simp [Act.eval, Act.put]) (H6.out.ext bxt) (some ⟨w6.heap.size, 0, none⟩) 1 1 n.cells (by simp [Act.eval, Act.put]) (Rd.lit _ _ _ 1 4 _ (by first | rfl | simp) rfl (by omega)) (DNote.one _) (by omega) (by omega) (by first | omega | (simp; omega)) ?_; intro g7 q7 w7 hown7 hg7; obtain ⟨hc7, hf7⟩ := grown_foff hg7; have z0 := (hc7 _ 0 (by first | exact s60 | (simp; omega)) fo6).trans (by first | exact p0 | exact keep_alloc p0); have x0 := (hf7 _ 0 (by first | exact s60 | (simp; omega)) fo6).trans (by first | exact o0 | exact keepf_alloc o0 s60); have z1 := (hc7 _ 1 (by first | exact s60 | (simp; omega)) fo6).trans (by first | exact p1 | exact keep_alloc p1); have x1 := (hf7 _ 1 (by first | exact s60 | (simp; omega)) fo6).trans (by first | exact o1 | exact keepf_alloc o1 s60); have z2 := (hc7 _ 2 (by first | exact s60 | (simp; omega)) fo6).trans (by first | exact p2 | exact keep_alloc p2); have x2 := (hf7 _ 2 (by first | exact s60 | (simp; omega)) fo6).trans (by first | exact o2 | exact keepf_alloc o2 s60); have hz7 := hg7.size; (try simp at hz7); have s70 : B0 < w7.heap.size := (by omega); have hbw7 : Ext w w7 := below_foot (B := w.heap.size) (show Ext w _ from (by first | exact hbw6 | exact hbw6.alloc (by omega) _)) (show Own _ w.heap.size 36 4 (.slice g6 l.length q6) l.length (l.flatMap DNote.cells) from H6.out.ext bxt) (Nat.le_refl _) (by first | omega | (simp; omega)) hg7; have H7 := Lib.hid hown7; clear hown7 hg7 hc7 hf7))
    | fail
  all_goals go_wp2_with fail
  all_goals have H3 : Hid (Own w7 w.heap.size 36 4 (.slice g7 (l ++ [n]).length q7) (l ++ [n]).length ((l ++ [n]).flatMap DNote.cells)) := by simpa [DNote.cells, Hid] using H7.out
  all_goals refine bodyPost_end (results_none rfl _ _ _) rfl ⟨g7, q7, rfl, (by simp [go_sem, *]), (by simp [go_sem, *]), (by simp [go_sem, *]), ?_, ?_, ?_⟩
  all_goals first
    | (with_reducible refine Own.set_lt ?_ H3.out (by (first | omega | (simp <;> omega))) _; exact Own.le H3.out (by omega))
    | (refine Below.setCell (Below.mono hbw7 (by omega)) ?_ _ <;> exact Nat.le_refl _)
    | (simp; omega)

set_option maxRecDepth 100000 in
set_option maxHeartbeats 4000000 in
theorem implPush_f2 (l : List DNote) (a : Option Addr) (c : Nat) (rb rc : Bool) (n : DNote) (Bs B0 : Nat) (w : World) (h : Own w Bs 36 4 (.slice a l.length c) l.length (l.flatMap DNote.cells)) (hl : l.length ≤ 1048576) (hB : B0 < w.heap.size) (hBs : Bs ≤ B0) (hoff : foot (.slice a l.length c) ≠ some B0) (q0 : w.cell? ⟨B0, 0, none⟩ = some (.slice a l.length c)) (q1 : w.cell? ⟨B0, 1, none⟩ = some (.bool rb)) (q2 : w.cell? ⟨B0, 2, none⟩ = some (.bool rc)) (f0 : w.frozen? ⟨B0, 0, none⟩ = false) (f1 : w.frozen? ⟨B0, 1, none⟩ = false) (f2 : w.frozen? ⟨B0, 2, none⟩ = false) (r : List DNote) (HR5 : Hid (l.filter (onlyIs false) = r)) (K : Nat) (hKl : K < l.length) (hK : l.length = K + 1) (t1 : l[K].kind = 1) (t2 : l[K].uid ≠ n.uid) (hk : n.kind = 1) (hb : rb = false) (hz : 0 ≤ n.n) (ha : l.any (boxIn n.n) = false) (h6 : l.length = 6) :
    Calls Try.prog 55 #[.pointer (some ⟨B0, 0, none⟩), .agg #[.int .i64 n.kind, .int .i64 n.n, .int .i64 n.uid, .string n.name]] w (PushI 36 Bs B0 ⟨r, true, rc⟩ w) := by
  have HO := Lib.hid h
  have HF := Lib.hid hoff
  clear h hoff
  subst hb
  have HT : Hid ((n.kind != 1) = false) := by simp [Hid, hk]
  have k1 : (n.kind == 1) = true := by simp [hk]
  clear hk
  have hle := lastBox_le l n.n hz
  rw [ha] at hle
  obtain ⟨z, hzz⟩ : ∃ z, lastBox l = z := ⟨_, rfl⟩
  rw [hzz] at hle
  have HZ := Lib.hid hzz
  clear hzz hz ha
  have m6 : ((l.length : Int) == 6) = true := by (simp; omega)
  clear h6
  have u4 : IntKind.i64.wrap ((l.length : Int) - 1) = (K : Int) := by rw [IntWalk.i64_in _ (by omega)]; omega
  have u5 : (0 : Int) ≤ (K : Int) := by omega
  have u6 : (K : Int) < (l.length : Int) := by omega
  have HD1 : Hid ((l[K].kind == 1) = true) := by simpa [Hid] using t1
  have u2 : (l[K].uid == n.uid) = false := by simpa using t2
  have HK := Lib.hid hK
  have hcap := HO.out.cap
  obtain ⟨gb0, rfl, -⟩ := HO.out.row (by omega)
  have hgl := HO.out.lt gb0 ((foot_slice _ _ _ _).2 ⟨by omega, _, rfl, rfl⟩)
  have hg0 : gb0 < w.heap.size := hgl.2
  have HAT : Hid (At w gb0 0 (l.flatMap DNote.cells)) := by
    obtain ⟨b, of, he, hbb, hat⟩ := (Rd.of_Own HO.out).ptr (by omega)
    obtain ⟨rfl, rfl⟩ : b = gb0 ∧ of = 0 := by cases he; exact ⟨rfl, rfl⟩
    exact hat
  clear hK hgl t1 t2
  go_enter Try.func55, Try.ntmps55
  go_upto_region 10 with (go_at_call 62; refine (isOtherNote_any n _ _ HT).mono ?_; rintro e w1 ⟨rfl, hb1⟩; obtain ⟨hc1, hf1⟩ := bcell hb1; have hz1 := hb1.size; (try simp at hz1); have s10 : B0 < w1.heap.size := (by omega); have s11 : w.heap.size < w1.heap.size := (by omega))
  refine wp_world (fun V hV => ?_)
  have hwV : Ext w V := by (rw [hV]; exact bxt)
  have Vq0 : V.cell? ⟨B0, 0, none⟩ = some (.slice (some ⟨gb0, 0, none⟩) l.length c) := (hwV.cell (p := ⟨B0, 0, none⟩) hB).trans q0
  have Vf0 : V.frozen? ⟨B0, 0, none⟩ = false := (hwV.frozen (p := ⟨B0, 0, none⟩) hB).trans f0
  have Vq1 : V.cell? ⟨B0, 1, none⟩ = some (.bool false) := (hwV.cell (p := ⟨B0, 1, none⟩) hB).trans q1
  have Vf1 : V.frozen? ⟨B0, 1, none⟩ = false := (hwV.frozen (p := ⟨B0, 1, none⟩) hB).trans f1
  have Vq2 : V.cell? ⟨B0, 2, none⟩ = some (.bool rc) := (hwV.cell (p := ⟨B0, 2, none⟩) hB).trans q2
  have Vf2 : V.frozen? ⟨B0, 2, none⟩ = false := (hwV.frozen (p := ⟨B0, 2, none⟩) hB).trans f2
  have Vn0 : V.cell? ⟨w.heap.size, 0, none⟩ = some (.int .i64 n.kind) := by (rw [hV]; simp [go_sem, *])
  have Vn1 : V.cell? ⟨w.heap.size, 1, none⟩ = some (.int .i64 n.n) := by (rw [hV]; simp [go_sem, *])
  have Vn2 : V.cell? ⟨w.heap.size, 2, none⟩ = some (.int .i64 n.uid) := by (rw [hV]; simp [go_sem, *])
  have Vn3 : V.cell? ⟨w.heap.size, 3, none⟩ = some (.string n.name) := by (rw [hV]; simp [go_sem, *])
  have Vs1 : w.heap.size < V.heap.size := by (rw [hV]; first | omega | (simp; omega))
  have Vs0 : B0 < V.heap.size := by omega
  clear hV
  have xVq0 := fun y : ExtW V => (y.h.cell (p := ⟨B0, 0, none⟩) Vs0).trans Vq0
  have xVq1 := fun y : ExtW V => (y.h.cell (p := ⟨B0, 1, none⟩) Vs0).trans Vq1
  have xVq2 := fun y : ExtW V => (y.h.cell (p := ⟨B0, 2, none⟩) Vs0).trans Vq2
  have xVn0 := fun y : ExtW V => (y.h.cell (p := ⟨w.heap.size, 0, none⟩) Vs1).trans Vn0
  have xVn1 := fun y : ExtW V => (y.h.cell (p := ⟨w.heap.size, 1, none⟩) Vs1).trans Vn1
  have xVn2 := fun y : ExtW V => (y.h.cell (p := ⟨w.heap.size, 2, none⟩) Vs1).trans Vn2
  have xVn3 := fun y : ExtW V => (y.h.cell (p := ⟨w.heap.size, 3, none⟩) Vs1).trans Vn3
  refine wp_region_ext (by kernel_rfl) (by kernel_rfl) ?_
  repeat (go_big_quiet_step ((go_at_call 61; refine (lastBox_of l (some ⟨gb0, 0, none⟩) c false rc l.length rfl _ ((Rd.of_Own HO.out).ext (ExtW.of hwV _)) z HZ).mono ?_; rintro e w4 ⟨rfl, hb4⟩; exact ⟨rfl, ExtW.on _ hb4⟩)))
  refine wpQuiet_nil ?_
  rintro w8 ⟨⟨w8x, hw8⟩, hxw8⟩
  have hyw8 : w8 = w8x := hxw8
  subst hyw8
  clear hxw8  xVq0 xVq1 xVq2 xVn0 xVn1 xVn2 xVn3
  have hw80 : Ext w w8 := Below.ext hwV hw8
  have m0 := (hw8.cell (p := ⟨w.heap.size, 0, none⟩) Vs1).trans Vn0
  have m1 := (hw8.cell (p := ⟨w.heap.size, 1, none⟩) Vs1).trans Vn1
  have m2 := (hw8.cell (p := ⟨w.heap.size, 2, none⟩) Vs1).trans Vn2
  have m3 := (hw8.cell (p := ⟨w.heap.size, 3, none⟩) Vs1).trans Vn3
  have s81 : w.heap.size < w8.heap.size := Nat.lt_of_lt_of_le Vs1 hw8.size
  go_upto_region 11 with fail
  refine wp_world (fun U hU => ?_)
  have hwU : Ext w U := by (rw [hU]; exact bxt)
  have Uq0 : U.cell? ⟨B0, 0, none⟩ = some (.slice (some ⟨gb0, 0, none⟩) l.length c) := (hwU.cell (p := ⟨B0, 0, none⟩) hB).trans q0
  have Uf0 : U.frozen? ⟨B0, 0, none⟩ = false := (hwU.frozen (p := ⟨B0, 0, none⟩) hB).trans f0
  have Uq1 : U.cell? ⟨B0, 1, none⟩ = some (.bool false) := (hwU.cell (p := ⟨B0, 1, none⟩) hB).trans q1
  have Uf1 : U.frozen? ⟨B0, 1, none⟩ = false := (hwU.frozen (p := ⟨B0, 1, none⟩) hB).trans f1
  have Uq2 : U.cell? ⟨B0, 2, none⟩ = some (.bool rc) := (hwU.cell (p := ⟨B0, 2, none⟩) hB).trans q2
  have Uf2 : U.frozen? ⟨B0, 2, none⟩ = false := (hwU.frozen (p := ⟨B0, 2, none⟩) hB).trans f2
  have Un0 : U.cell? ⟨w.heap.size, 0, none⟩ = some (.int .i64 n.kind) := by (rw [hU]; simp [go_sem, *])
  have Un1 : U.cell? ⟨w.heap.size, 1, none⟩ = some (.int .i64 n.n) := by (rw [hU]; simp [go_sem, *])
  have Un2 : U.cell? ⟨w.heap.size, 2, none⟩ = some (.int .i64 n.uid) := by (rw [hU]; simp [go_sem, *])
  have Un3 : U.cell? ⟨w.heap.size, 3, none⟩ = some (.string n.name) := by (rw [hU]; simp [go_sem, *])
  have Us1 : w.heap.size < U.heap.size := by (rw [hU]; first | omega | (simp; omega))
  have Us0 : B0 < U.heap.size := by omega
  clear hU
  obtain ⟨y0, y1, y2, y3⟩ := DNote.at0 (HAT.out.ext hg0 hwU) K hKl
  have hgU : gb0 < U.heap.size := Nat.lt_of_lt_of_le hg0 hwU.size
  have xe0 := fun y : ExtW U => (y.h.cell (p := ⟨gb0, K * 4, none⟩) hgU).trans y0
  have xe1 := fun y : ExtW U => (y.h.cell (p := ⟨gb0, K * 4 + 1, none⟩) hgU).trans y1
  have xe2 := fun y : ExtW U => (y.h.cell (p := ⟨gb0, K * 4 + 2, none⟩) hgU).trans y2
  have xe3 := fun y : ExtW U => (y.h.cell (p := ⟨gb0, K * 4 + 3, none⟩) hgU).trans y3
  have xUq0 := fun y : ExtW U => (y.h.cell (p := ⟨B0, 0, none⟩) Us0).trans Uq0
  have xUq1 := fun y : ExtW U => (y.h.cell (p := ⟨B0, 1, none⟩) Us0).trans Uq1
  have xUq2 := fun y : ExtW U => (y.h.cell (p := ⟨B0, 2, none⟩) Us0).trans Uq2
  have xUn0 := fun y : ExtW U => (y.h.cell (p := ⟨w.heap.size, 0, none⟩) Us1).trans Un0
  have xUn1 := fun y : ExtW U => (y.h.cell (p := ⟨w.heap.size, 1, none⟩) Us1).trans Un1
  have xUn2 := fun y : ExtW U => (y.h.cell (p := ⟨w.heap.size, 2, none⟩) Us1).trans Un2
  have xUn3 := fun y : ExtW U => (y.h.cell (p := ⟨w.heap.size, 3, none⟩) Us1).trans Un3
  refine wp_region_ext (by kernel_rfl) (by kernel_rfl) ?_
  repeat (go_big_quiet_step ((go_at_call 60; refine (isBoxNote_any l[K] _ _ HD1).mono ?_; rintro e w9 ⟨rfl, hb9⟩; exact ⟨rfl, ExtW.on _ hb9⟩)))
  refine wpQuiet_nil ?_
  rintro w3 ⟨⟨w3x, hw3⟩, hx3⟩
  have hx4 : w3 = w3x := hx3
  subst hx4
  clear hx3  xUq0 xUq1 xUq2 xUn0 xUn1 xUn2 xUn3
  have hw30 : Ext w w3 := Below.ext hwU hw3
  clear xe0 xe1 xe2 xe3 y0 y1 y2 y3
  clear m0 m1 m2 m3
  have y0 := (hw30.cell (p := ⟨B0, 0, none⟩) hB).trans q0
  have g0 := (hw30.frozen (p := ⟨B0, 0, none⟩) hB).trans f0
  have y1 := (hw30.cell (p := ⟨B0, 1, none⟩) hB).trans q1
  have g1 := (hw30.frozen (p := ⟨B0, 1, none⟩) hB).trans f1
  have y2 := (hw30.cell (p := ⟨B0, 2, none⟩) hB).trans q2
  have g2 := (hw30.frozen (p := ⟨B0, 2, none⟩) hB).trans f2
  have s30 : B0 < w3.heap.size := by (have := hw30.size; omega)
  have m0 := (hw3.cell (p := ⟨w.heap.size, 0, none⟩) Us1).trans Un0
  have m1 := (hw3.cell (p := ⟨w.heap.size, 1, none⟩) Us1).trans Un1
  have m2 := (hw3.cell (p := ⟨w.heap.size, 2, none⟩) Us1).trans Un2
  have m3 := (hw3.cell (p := ⟨w.heap.size, 3, none⟩) Us1).trans Un3
  have s31 : w.heap.size < w3.heap.size := Nat.lt_of_lt_of_le Us1 hw3.size
  go_wp2_with (go_at_call 98; refine (without_false l (some ⟨gb0, 0, none⟩) c B0 _ ((Rd.of_Own HO.out).ext hw30) hl y0 g0 s30 r HR5).mono ?_; rintro e w5 ⟨g5, q5, w2, rfl, rfl, hown5, hb5⟩; have z0 := (hb5.cell (p := ⟨B0, 0, none⟩) s30).trans y0; have x0 := (hb5.frozen (p := ⟨B0, 0, none⟩) s30).trans g0; have z1 := (hb5.cell (p := ⟨B0, 1, none⟩) s30).trans y1; have x1 := (hb5.frozen (p := ⟨B0, 1, none⟩) s30).trans g1; have z2 := (hb5.cell (p := ⟨B0, 2, none⟩) s30).trans y2; have x2 := (hb5.frozen (p := ⟨B0, 2, none⟩) s30).trans g2; have s50 : B0 < w2.heap.size := (by have := hb5.size; omega); have H5 := Lib.hid hown5; clear hown5)
  have hw20 : Ext w w2 := Below.ext hw30 hb5
  refine bodyPost_end (results_none rfl _ _ _) rfl ⟨g5, q5, rfl, (by simp [go_sem, *]), (by simp [go_sem, *]), (by simp [go_sem, *]), ?_, ?_, ?_⟩
  · (repeat' (first | with_reducible refine Own.set_lt ?_ H5.out (by (first | omega | (simp <;> omega))) _)); exact Own.le H5.out (by have := hw30.size; omega)
  · refine Below.setCell (Below.setCell (Below.mono hw20 (by omega)) ?_ _) ?_ _ <;> exact Nat.le_refl _
  · simp; omega

set_option maxRecDepth 100000 in
set_option maxHeartbeats 4000000 in
theorem implPush_g3 (l : List DNote) (a : Option Addr) (c : Nat) (rb rc : Bool) (n : DNote) (Bs B0 : Nat) (w : World) (h : Own w Bs 36 4 (.slice a l.length c) l.length (l.flatMap DNote.cells)) (hl : l.length ≤ 1048576) (hB : B0 < w.heap.size) (hBs : Bs ≤ B0) (hoff : foot (.slice a l.length c) ≠ some B0) (q0 : w.cell? ⟨B0, 0, none⟩ = some (.slice a l.length c)) (q1 : w.cell? ⟨B0, 1, none⟩ = some (.bool rb)) (q2 : w.cell? ⟨B0, 2, none⟩ = some (.bool rc)) (f0 : w.frozen? ⟨B0, 0, none⟩ = false) (f1 : w.frozen? ⟨B0, 1, none⟩ = false) (f2 : w.frozen? ⟨B0, 2, none⟩ = false) (K : Nat) (hKl : K < l.length) (hK : l.length = K + 1) (t1 : l[K].kind = 1) (t2 : l[K].uid = n.uid) (t3 : n.uid = 0) (hk : n.kind = 1) (hb : rb = false) (hz : 0 ≤ n.n) (ha : l.any (boxIn n.n) = false) (h6 : ¬ l.length = 6) :
    Calls Try.prog 55 #[.pointer (some ⟨B0, 0, none⟩), .agg #[.int .i64 n.kind, .int .i64 n.n, .int .i64 n.uid, .string n.name]] w (PushI 36 Bs B0 ⟨l ++ [n], rb, rc⟩ w) := by
  have HO := Lib.hid h
  have HF := Lib.hid hoff
  clear h hoff
  subst hb
  have HT : Hid ((n.kind != 1) = false) := by simp [Hid, hk]
  have k1 : (n.kind == 1) = true := by simp [hk]
  clear hk
  have hle := lastBox_le l n.n hz
  rw [ha] at hle
  obtain ⟨z, hzz⟩ : ∃ z, lastBox l = z := ⟨_, rfl⟩
  rw [hzz] at hle
  have HZ := Lib.hid hzz
  clear hzz hz ha
  have m6 : ((l.length : Int) == 6) = false := by (simp; omega)
  clear h6
  have u4 : IntKind.i64.wrap ((l.length : Int) - 1) = (K : Int) := by rw [IntWalk.i64_in _ (by omega)]; omega
  have u5 : (0 : Int) ≤ (K : Int) := by omega
  have u6 : (K : Int) < (l.length : Int) := by omega
  have HD1 : Hid ((l[K].kind == 1) = true) := by simpa [Hid] using t1
  have u2 : (l[K].uid == n.uid) = true := by simpa using t2
  have u3 : (n.uid != 0) = false := by simpa using t3
  have HK := Lib.hid hK
  have hcap := HO.out.cap
  obtain ⟨gb0, rfl, -⟩ := HO.out.row (by omega)
  have hgl := HO.out.lt gb0 ((foot_slice _ _ _ _).2 ⟨by omega, _, rfl, rfl⟩)
  have hg0 : gb0 < w.heap.size := hgl.2
  have HAT : Hid (At w gb0 0 (l.flatMap DNote.cells)) := by
    obtain ⟨b, of, he, hbb, hat⟩ := (Rd.of_Own HO.out).ptr (by omega)
    obtain ⟨rfl, rfl⟩ : b = gb0 ∧ of = 0 := by cases he; exact ⟨rfl, rfl⟩
    exact hat
  clear hK hgl t1 t2 t3
  go_enter Try.func55, Try.ntmps55
  go_upto_region 10 with (go_at_call 62; refine (isOtherNote_any n _ _ HT).mono ?_; rintro e w1 ⟨rfl, hb1⟩; obtain ⟨hc1, hf1⟩ := bcell hb1; have hz1 := hb1.size; (try simp at hz1); have s10 : B0 < w1.heap.size := (by omega); have s11 : w.heap.size < w1.heap.size := (by omega))
  refine wp_world (fun V hV => ?_)
  have hwV : Ext w V := by (rw [hV]; exact bxt)
  have Vq0 : V.cell? ⟨B0, 0, none⟩ = some (.slice (some ⟨gb0, 0, none⟩) l.length c) := (hwV.cell (p := ⟨B0, 0, none⟩) hB).trans q0
  have Vf0 : V.frozen? ⟨B0, 0, none⟩ = false := (hwV.frozen (p := ⟨B0, 0, none⟩) hB).trans f0
  have Vq1 : V.cell? ⟨B0, 1, none⟩ = some (.bool false) := (hwV.cell (p := ⟨B0, 1, none⟩) hB).trans q1
  have Vf1 : V.frozen? ⟨B0, 1, none⟩ = false := (hwV.frozen (p := ⟨B0, 1, none⟩) hB).trans f1
  have Vq2 : V.cell? ⟨B0, 2, none⟩ = some (.bool rc) := (hwV.cell (p := ⟨B0, 2, none⟩) hB).trans q2
  have Vf2 : V.frozen? ⟨B0, 2, none⟩ = false := (hwV.frozen (p := ⟨B0, 2, none⟩) hB).trans f2
  have Vn0 : V.cell? ⟨w.heap.size, 0, none⟩ = some (.int .i64 n.kind) := by (rw [hV]; simp [go_sem, *])
  have Vn1 : V.cell? ⟨w.heap.size, 1, none⟩ = some (.int .i64 n.n) := by (rw [hV]; simp [go_sem, *])
  have Vn2 : V.cell? ⟨w.heap.size, 2, none⟩ = some (.int .i64 n.uid) := by (rw [hV]; simp [go_sem, *])
  have Vn3 : V.cell? ⟨w.heap.size, 3, none⟩ = some (.string n.name) := by (rw [hV]; simp [go_sem, *])
  have Vs1 : w.heap.size < V.heap.size := by (rw [hV]; first | omega | (simp; omega))
  have Vs0 : B0 < V.heap.size := by omega
  clear hV
  have xVq0 := fun y : ExtW V => (y.h.cell (p := ⟨B0, 0, none⟩) Vs0).trans Vq0
  have xVq1 := fun y : ExtW V => (y.h.cell (p := ⟨B0, 1, none⟩) Vs0).trans Vq1
  have xVq2 := fun y : ExtW V => (y.h.cell (p := ⟨B0, 2, none⟩) Vs0).trans Vq2
  have xVn0 := fun y : ExtW V => (y.h.cell (p := ⟨w.heap.size, 0, none⟩) Vs1).trans Vn0
  have xVn1 := fun y : ExtW V => (y.h.cell (p := ⟨w.heap.size, 1, none⟩) Vs1).trans Vn1
  have xVn2 := fun y : ExtW V => (y.h.cell (p := ⟨w.heap.size, 2, none⟩) Vs1).trans Vn2
  have xVn3 := fun y : ExtW V => (y.h.cell (p := ⟨w.heap.size, 3, none⟩) Vs1).trans Vn3
  refine wp_region_ext (by kernel_rfl) (by kernel_rfl) ?_
  repeat (go_big_quiet_step ((go_at_call 61; refine (lastBox_of l (some ⟨gb0, 0, none⟩) c false rc l.length rfl _ ((Rd.of_Own HO.out).ext (ExtW.of hwV _)) z HZ).mono ?_; rintro e w4 ⟨rfl, hb4⟩; exact ⟨rfl, ExtW.on _ hb4⟩)))
  refine wpQuiet_nil ?_
  rintro w8 ⟨⟨w8x, hw8⟩, hxw8⟩
  have hyw8 : w8 = w8x := hxw8
  subst hyw8
  clear hxw8  xVq0 xVq1 xVq2 xVn0 xVn1 xVn2 xVn3
  have hw80 : Ext w w8 := Below.ext hwV hw8
  have m0 := (hw8.cell (p := ⟨w.heap.size, 0, none⟩) Vs1).trans Vn0
  have m1 := (hw8.cell (p := ⟨w.heap.size, 1, none⟩) Vs1).trans Vn1
  have m2 := (hw8.cell (p := ⟨w.heap.size, 2, none⟩) Vs1).trans Vn2
  have m3 := (hw8.cell (p := ⟨w.heap.size, 3, none⟩) Vs1).trans Vn3
  have s81 : w.heap.size < w8.heap.size := Nat.lt_of_lt_of_le Vs1 hw8.size
  go_upto_region 11 with fail
  refine wp_world (fun U hU => ?_)
  have hwU : Ext w U := by (rw [hU]; exact bxt)
  have Uq0 : U.cell? ⟨B0, 0, none⟩ = some (.slice (some ⟨gb0, 0, none⟩) l.length c) := (hwU.cell (p := ⟨B0, 0, none⟩) hB).trans q0
  have Uf0 : U.frozen? ⟨B0, 0, none⟩ = false := (hwU.frozen (p := ⟨B0, 0, none⟩) hB).trans f0
  have Uq1 : U.cell? ⟨B0, 1, none⟩ = some (.bool false) := (hwU.cell (p := ⟨B0, 1, none⟩) hB).trans q1
  have Uf1 : U.frozen? ⟨B0, 1, none⟩ = false := (hwU.frozen (p := ⟨B0, 1, none⟩) hB).trans f1
  have Uq2 : U.cell? ⟨B0, 2, none⟩ = some (.bool rc) := (hwU.cell (p := ⟨B0, 2, none⟩) hB).trans q2
  have Uf2 : U.frozen? ⟨B0, 2, none⟩ = false := (hwU.frozen (p := ⟨B0, 2, none⟩) hB).trans f2
  have Un0 : U.cell? ⟨w.heap.size, 0, none⟩ = some (.int .i64 n.kind) := by (rw [hU]; simp [go_sem, *])
  have Un1 : U.cell? ⟨w.heap.size, 1, none⟩ = some (.int .i64 n.n) := by (rw [hU]; simp [go_sem, *])
  have Un2 : U.cell? ⟨w.heap.size, 2, none⟩ = some (.int .i64 n.uid) := by (rw [hU]; simp [go_sem, *])
  have Un3 : U.cell? ⟨w.heap.size, 3, none⟩ = some (.string n.name) := by (rw [hU]; simp [go_sem, *])
  have Us1 : w.heap.size < U.heap.size := by (rw [hU]; first | omega | (simp; omega))
  have Us0 : B0 < U.heap.size := by omega
  clear hU
  obtain ⟨y0, y1, y2, y3⟩ := DNote.at0 (HAT.out.ext hg0 hwU) K hKl
  have hgU : gb0 < U.heap.size := Nat.lt_of_lt_of_le hg0 hwU.size
  have xe0 := fun y : ExtW U => (y.h.cell (p := ⟨gb0, K * 4, none⟩) hgU).trans y0
  have xe1 := fun y : ExtW U => (y.h.cell (p := ⟨gb0, K * 4 + 1, none⟩) hgU).trans y1
  have xe2 := fun y : ExtW U => (y.h.cell (p := ⟨gb0, K * 4 + 2, none⟩) hgU).trans y2
  have xe3 := fun y : ExtW U => (y.h.cell (p := ⟨gb0, K * 4 + 3, none⟩) hgU).trans y3
  have xUq0 := fun y : ExtW U => (y.h.cell (p := ⟨B0, 0, none⟩) Us0).trans Uq0
  have xUq1 := fun y : ExtW U => (y.h.cell (p := ⟨B0, 1, none⟩) Us0).trans Uq1
  have xUq2 := fun y : ExtW U => (y.h.cell (p := ⟨B0, 2, none⟩) Us0).trans Uq2
  have xUn0 := fun y : ExtW U => (y.h.cell (p := ⟨w.heap.size, 0, none⟩) Us1).trans Un0
  have xUn1 := fun y : ExtW U => (y.h.cell (p := ⟨w.heap.size, 1, none⟩) Us1).trans Un1
  have xUn2 := fun y : ExtW U => (y.h.cell (p := ⟨w.heap.size, 2, none⟩) Us1).trans Un2
  have xUn3 := fun y : ExtW U => (y.h.cell (p := ⟨w.heap.size, 3, none⟩) Us1).trans Un3
  refine wp_region_ext (by kernel_rfl) (by kernel_rfl) ?_
  repeat (go_big_quiet_step ((go_at_call 60; refine (isBoxNote_any l[K] _ _ HD1).mono ?_; rintro e w9 ⟨rfl, hb9⟩; exact ⟨rfl, ExtW.on _ hb9⟩)))
  refine wpQuiet_nil ?_
  rintro w3 ⟨⟨w3x, hw3⟩, hx3⟩
  have hx4 : w3 = w3x := hx3
  subst hx4
  clear hx3  xUq0 xUq1 xUq2 xUn0 xUn1 xUn2 xUn3
  have hw30 : Ext w w3 := Below.ext hwU hw3
  clear xe0 xe1 xe2 xe3 y0 y1 y2 y3
  clear m0 m1 m2 m3
  have y0 := (hw30.cell (p := ⟨B0, 0, none⟩) hB).trans q0
  have g0 := (hw30.frozen (p := ⟨B0, 0, none⟩) hB).trans f0
  have y1 := (hw30.cell (p := ⟨B0, 1, none⟩) hB).trans q1
  have g1 := (hw30.frozen (p := ⟨B0, 1, none⟩) hB).trans f1
  have y2 := (hw30.cell (p := ⟨B0, 2, none⟩) hB).trans q2
  have g2 := (hw30.frozen (p := ⟨B0, 2, none⟩) hB).trans f2
  have s30 : B0 < w3.heap.size := by (have := hw30.size; omega)
  have m0 := (hw3.cell (p := ⟨w.heap.size, 0, none⟩) Us1).trans Un0
  have m1 := (hw3.cell (p := ⟨w.heap.size, 1, none⟩) Us1).trans Un1
  have m2 := (hw3.cell (p := ⟨w.heap.size, 2, none⟩) Us1).trans Un2
  have m3 := (hw3.cell (p := ⟨w.heap.size, 3, none⟩) Us1).trans Un3
  have s31 : w.heap.size < w3.heap.size := Nat.lt_of_lt_of_le Us1 hw3.size
  obtain ⟨i0, hi0, hz0, hz1, hz2⟩ := info_parts info_Note
  go_upto_region 9 with fail
  first
    | go_region_law (first | (go_simp; go_at_call 96; refine (cloneNoteS_any l _ _ _ (((Rd.of_Own HO.out).ext hw30).ext bxt) (by omega)).mono ?_; rintro e w6 ⟨g6, q6, rfl, hown6, hb6⟩; have p0 := (hb6.cell (p := ⟨B0, 0, none⟩) (by first | exact s30 | (simp; omega))).trans (by first | exact y0 | exact keep_alloc (w := w3.drew) y0 | exact keep_alloc (w := w3) y0); have o0 := (hb6.frozen (p := ⟨B0, 0, none⟩) (by first | exact s30 | (simp; omega))).trans (by first | exact g0 | exact keepf_alloc (w := w3.drew) g0 s30 | exact keepf_alloc (w := w3) g0 s30); have p1 := (hb6.cell (p := ⟨B0, 1, none⟩) (by first | exact s30 | (simp; omega))).trans (by first | exact y1 | exact keep_alloc (w := w3.drew) y1 | exact keep_alloc (w := w3) y1); have o1 := (hb6.frozen (p := ⟨B0, 1, none⟩) (by first | exact s30 | (simp; omega))).trans (by first | exact g1 | exact keepf_alloc (w := w3.drew) g1 s30 | exact keepf_alloc (w := w3) g1 s30); have p2 := (hb6.cell (p := ⟨B0, 2, none⟩) (by first | exact s30 | (simp; omega))).trans (by first | exact y2 | exact keep_alloc (w := w3.drew) y2 | exact keep_alloc (w := w3) y2); have o2 := (hb6.frozen (p := ⟨B0, 2, none⟩) (by first | exact s30 | (simp; omega))).trans (by first | exact g2 | exact keepf_alloc (w := w3.drew) g2 s30 | exact keepf_alloc (w := w3) g2 s30); have r0 := (hb6.cell (p := ⟨w.heap.size, 0, none⟩) (by first | exact s31 | (simp; omega))).trans (by first | exact m0 | exact keep_alloc (w := w3.drew) m0 | exact keep_alloc (w := w3) m0); have r1 := (hb6.cell (p := ⟨w.heap.size, 1, none⟩) (by first | exact s31 | (simp; omega))).trans (by first | exact m1 | exact keep_alloc (w := w3.drew) m1 | exact keep_alloc (w := w3) m1); have r2 := (hb6.cell (p := ⟨w.heap.size, 2, none⟩) (by first | exact s31 | (simp; omega))).trans (by first | exact m2 | exact keep_alloc (w := w3.drew) m2 | exact keep_alloc (w := w3) m2); have r3 := (hb6.cell (p := ⟨w.heap.size, 3, none⟩) (by first | exact s31 | (simp; omega))).trans (by first | exact m3 | exact keep_alloc (w := w3.drew) m3 | exact keep_alloc (w := w3) m3); have hz6 := hb6.size; (try simp at hz6); have hbw6 : Ext w w6 := (by first | exact Below.ext (hw30.drew) hb6 | exact Below.ext (hw30.drew.alloc (by omega) _) hb6 | exact Below.ext ((hw30.alloc (by omega) _).drew) hb6); have H6 := Lib.hid (Own.le (B' := w.heap.size) hown6 smx); have s60 : B0 < w6.heap.size := (by omega); have s61 : w.heap.size < w6.heap.size := (by omega); have fo6 := FOff.lt H6.out hB; clear hown6) | (refine step_app (B := w.heap.size) (v := .slice g6 l.length q6) rfl (.tmp 61) (.tmp 63) 32 rfl 36 i0 _ _ Try.underlying32 hi0 hz0 hz1 hz2 rfl (by decide) (by simp [Act.eval, Act.put]) (H6.out.ext bxt) (some ⟨w3.heap.size, 0, none⟩) 1 1 n.cells (by simp [Act.eval, Act.put]) ((Rd.lit w3.drew #[.int .i64 n.kind, .int .i64 n.n, .int .i64 n.uid, .string n.name] 36 1 4 w3.heap.size rfl rfl (by omega)).ext hb6) (DNote.one _) (by omega) (by omega) (by first | omega | (simp; omega)) ?_; intro g7 q7 w7 hown7 hg7; obtain ⟨hc7, hf7⟩ := grown_foff hg7; have z0 := (hc7 _ 0 (by first | exact s60 | (simp; omega)) fo6).trans (by first | exact p0 | exact keep_alloc p0); have x0 := (hf7 _ 0 (by first | exact s60 | (simp; omega)) fo6).trans (by first | exact o0 | exact keepf_alloc o0 s60); have z1 := (hc7 _ 1 (by first | exact s60 | (simp; omega)) fo6).trans (by first | exact p1 | exact keep_alloc p1); have x1 := (hf7 _ 1 (by first | exact s60 | (simp; omega)) fo6).trans (by first | exact o1 | exact keepf_alloc o1 s60); have z2 := (hc7 _ 2 (by first | exact s60 | (simp; omega)) fo6).trans (by first | exact p2 | exact keep_alloc p2); have x2 := (hf7 _ 2 (by first | exact s60 | (simp; omega)) fo6).trans (by first | exact o2 | exact keepf_alloc o2 s60); have hz7 := hg7.size; (try simp at hz7); have s70 : B0 < w7.heap.size := (by omega); have hbw7 : Ext w w7 := below_foot (B := w.heap.size) (show Ext w _ from (by first | exact hbw6 | exact hbw6.alloc (by omega) _)) (show Own _ w.heap.size 36 4 (.slice g6 l.length q6) l.length (l.flatMap DNote.cells) from H6.out.ext bxt) (Nat.le_refl _) (by first | omega | (simp; omega)) hg7; have H7 := Lib.hid hown7; clear hown7 hg7 hc7 hf7) | (refine step_app (B := w.heap.size) (v := .slice g6 l.length q6) rfl (.tmp 61) (.tmp 63) 32 rfl 36 i0 _ _ Try.underlying32 hi0 hz0 hz1 hz2 rfl (by decide) (by simp [Act.eval, Act.put]) (H6.out.ext bxt) (some ⟨w3.heap.size, 0, none⟩) 1 1 n.cells (by simp [Act.eval, Act.put]) ((Rd.lit w3 #[.int .i64 n.kind, .int .i64 n.n, .int .i64 n.uid, .string n.name] 36 1 4 w3.heap.size rfl rfl (by omega)).ext (Below.ext ((Below.refl _ _).drew) hb6)) (DNote.one _) (by omega) (by omega) (by first | omega | (simp; omega)) ?_; intro g7 q7 w7 hown7 hg7; obtain ⟨hc7, hf7⟩ := grown_foff hg7; have z0 := (hc7 _ 0 (by first | exact s60 | (simp; omega)) fo6).trans (by first | exact p0 | exact keep_alloc p0); have x0 := (hf7 _ 0 (by first | exact s60 | (simp; omega)) fo6).trans (by first | exact o0 | exact keepf_alloc o0 s60); have z1 := (hc7 _ 1 (by first | exact s60 | (simp; omega)) fo6).trans (by first | exact p1 | exact keep_alloc p1); have x1 := (hf7 _ 1 (by first | exact s60 | (simp; omega)) fo6).trans (by first | exact o1 | exact keepf_alloc o1 s60); have z2 := (hc7 _ 2 (by first | exact s60 | (simp; omega)) fo6).trans (by first | exact p2 | exact keep_alloc p2); have x2 := (hf7 _ 2 (by first | exact s60 | (simp; omega)) fo6).trans (by first | exact o2 | exact keepf_alloc o2 s60); have hz7 := hg7.size; (try simp at hz7); have s70 : B0 < w7.heap.size := (by omega); have hbw7 : Ext w w7 := below_foot (B := w.heap.size) (show Ext w _ from (by first | exact hbw6 | exact hbw6.alloc (by omega) _)) (show Own _ w.heap.size 36 4 (.slice g6 l.length q6) l.length (l.flatMap DNote.cells) from H6.out.ext bxt) (Nat.le_refl _) (by first | omega | (simp; omega)) hg7; have H7 := Lib.hid hown7; clear hown7 hg7 hc7 hf7) | (refine step_app (B := w.heap.size) (v := .slice g6 l.length q6) rfl (.tmp 61) (.tmp 63) 32 rfl 36 i0 _ _ Try.underlying32 hi0 hz0 hz1 hz2 rfl (by decide) (by simp [Act.eval, Act.put]) (H6.out.ext bxt) (some ⟨w6.heap.size, 0, none⟩) 1 1 n.cells (by simp [Act.eval, Act.put]) (Rd.lit _ _ _ 1 4 _ (by first | rfl | simp) rfl (by omega)) (DNote.one _) (by omega) (by omega) (by first | omega | (simp; omega)) ?_; intro g7 q7 w7 hown7 hg7; obtain ⟨hc7, hf7⟩ := grown_foff hg7; have z0 := (hc7 _ 0 (by first | exact s60 | (simp; omega)) fo6).trans (by first | exact p0 | exact keep_alloc p0); have x0 := (hf7 _ 0 (by first | exact s60 | (simp; omega)) fo6).trans (by first | exact o0 | exact keepf_alloc o0 s60); have z1 := (hc7 _ 1 (by first | exact s60 | (simp; omega)) fo6).trans (by first | exact p1 | exact keep_alloc p1); have x1 := (hf7 _ 1 (by first | exact s60 | (simp; omega)) fo6).trans (by first | exact o1 | exact keepf_alloc o1 s60); have z2 := (hc7 _ 2 (by first | exact s60 | (simp; omega)) fo6).trans (by first | exact p2 | exact keep_alloc p2); have x2 := (hf7 _ 2 (by first | exact s60 | (simp; omega)) fo6).trans (by first | exact o2 | exact keepf_alloc o2 s60); have hz7 := hg7.size; (try simp at hz7); have s70 : B0 < w7.heap.size := (by omega); have hbw7 : Ext w w7 := below_foot (B := w.heap.size) (show Ext w _ from (by first | exact hbw6 | exact hbw6.alloc (by omega) _)) (show Own _ w.heap.size 36 4 (.slice g6 l.length q6) l.length (l.flatMap DNote.cells) from H6.out.ext bxt) (Nat.le_refl _) (by first | omega | (simp; omega)) hg7; have H7 := Lib.hid hown7; clear hown7 hg7 hc7 hf7))
    | fail
  all_goals go_wp2_with fail
  all_goals have H3 : Hid (Own w7 w.heap.size 36 4 (.slice g7 (l ++ [n]).length q7) (l ++ [n]).length ((l ++ [n]).flatMap DNote.cells)) := by simpa [DNote.cells, Hid] using H7.out
  all_goals refine bodyPost_end (results_none rfl _ _ _) rfl ⟨g7, q7, rfl, (by simp [go_sem, *]), (by simp [go_sem, *]), (by simp [go_sem, *]), ?_, ?_, ?_⟩
  all_goals first
    | (with_reducible refine Own.set_lt ?_ H3.out (by (first | omega | (simp <;> omega))) _; exact Own.le H3.out (by omega))
    | (refine Below.setCell (Below.mono hbw7 (by omega)) ?_ _ <;> exact Nat.le_refl _)
    | (simp; omega)

set_option maxRecDepth 100000 in
set_option maxHeartbeats 4000000 in
theorem implPush_f3 (l : List DNote) (a : Option Addr) (c : Nat) (rb rc : Bool) (n : DNote) (Bs B0 : Nat) (w : World) (h : Own w Bs 36 4 (.slice a l.length c) l.length (l.flatMap DNote.cells)) (hl : l.length ≤ 1048576) (hB : B0 < w.heap.size) (hBs : Bs ≤ B0) (hoff : foot (.slice a l.length c) ≠ some B0) (q0 : w.cell? ⟨B0, 0, none⟩ = some (.slice a l.length c)) (q1 : w.cell? ⟨B0, 1, none⟩ = some (.bool rb)) (q2 : w.cell? ⟨B0, 2, none⟩ = some (.bool rc)) (f0 : w.frozen? ⟨B0, 0, none⟩ = false) (f1 : w.frozen? ⟨B0, 1, none⟩ = false) (f2 : w.frozen? ⟨B0, 2, none⟩ = false) (r : List DNote) (HR5 : Hid (l.filter (onlyIs false) = r)) (K : Nat) (hKl : K < l.length) (hK : l.length = K + 1) (t1 : l[K].kind = 1) (t2 : l[K].uid = n.uid) (t3 : n.uid = 0) (hk : n.kind = 1) (hb : rb = false) (hz : 0 ≤ n.n) (ha : l.any (boxIn n.n) = false) (h6 : l.length = 6) :
    Calls Try.prog 55 #[.pointer (some ⟨B0, 0, none⟩), .agg #[.int .i64 n.kind, .int .i64 n.n, .int .i64 n.uid, .string n.name]] w (PushI 36 Bs B0 ⟨r, true, rc⟩ w) := by
  have HO := Lib.hid h
  have HF := Lib.hid hoff
  clear h hoff
  subst hb
  have HT : Hid ((n.kind != 1) = false) := by simp [Hid, hk]
  have k1 : (n.kind == 1) = true := by simp [hk]
  clear hk
  have hle := lastBox_le l n.n hz
  rw [ha] at hle
  obtain ⟨z, hzz⟩ : ∃ z, lastBox l = z := ⟨_, rfl⟩
  rw [hzz] at hle
  have HZ := Lib.hid hzz
  clear hzz hz ha
  have m6 : ((l.length : Int) == 6) = true := by (simp; omega)
  clear h6
  have u4 : IntKind.i64.wrap ((l.length : Int) - 1) = (K : Int) := by rw [IntWalk.i64_in _ (by omega)]; omega
  have u5 : (0 : Int) ≤ (K : Int) := by omega
  have u6 : (K : Int) < (l.length : Int) := by omega
  have HD1 : Hid ((l[K].kind == 1) = true) := by simpa [Hid] using t1
  have u2 : (l[K].uid == n.uid) = true := by simpa using t2
  have u3 : (n.uid != 0) = false := by simpa using t3
  have HK := Lib.hid hK
  have hcap := HO.out.cap
  obtain ⟨gb0, rfl, -⟩ := HO.out.row (by omega)
  have hgl := HO.out.lt gb0 ((foot_slice _ _ _ _).2 ⟨by omega, _, rfl, rfl⟩)
  have hg0 : gb0 < w.heap.size := hgl.2
  have HAT : Hid (At w gb0 0 (l.flatMap DNote.cells)) := by
    obtain ⟨b, of, he, hbb, hat⟩ := (Rd.of_Own HO.out).ptr (by omega)
    obtain ⟨rfl, rfl⟩ : b = gb0 ∧ of = 0 := by cases he; exact ⟨rfl, rfl⟩
    exact hat
  clear hK hgl t1 t2 t3
  go_enter Try.func55, Try.ntmps55
  go_upto_region 10 with (go_at_call 62; refine (isOtherNote_any n _ _ HT).mono ?_; rintro e w1 ⟨rfl, hb1⟩; obtain ⟨hc1, hf1⟩ := bcell hb1; have hz1 := hb1.size; (try simp at hz1); have s10 : B0 < w1.heap.size := (by omega); have s11 : w.heap.size < w1.heap.size := (by omega))
  refine wp_world (fun V hV => ?_)
  have hwV : Ext w V := by (rw [hV]; exact bxt)
  have Vq0 : V.cell? ⟨B0, 0, none⟩ = some (.slice (some ⟨gb0, 0, none⟩) l.length c) := (hwV.cell (p := ⟨B0, 0, none⟩) hB).trans q0
  have Vf0 : V.frozen? ⟨B0, 0, none⟩ = false := (hwV.frozen (p := ⟨B0, 0, none⟩) hB).trans f0
  have Vq1 : V.cell? ⟨B0, 1, none⟩ = some (.bool false) := (hwV.cell (p := ⟨B0, 1, none⟩) hB).trans q1
  have Vf1 : V.frozen? ⟨B0, 1, none⟩ = false := (hwV.frozen (p := ⟨B0, 1, none⟩) hB).trans f1
  have Vq2 : V.cell? ⟨B0, 2, none⟩ = some (.bool rc) := (hwV.cell (p := ⟨B0, 2, none⟩) hB).trans q2
  have Vf2 : V.frozen? ⟨B0, 2, none⟩ = false := (hwV.frozen (p := ⟨B0, 2, none⟩) hB).trans f2
  have Vn0 : V.cell? ⟨w.heap.size, 0, none⟩ = some (.int .i64 n.kind) := by (rw [hV]; simp [go_sem, *])
  have Vn1 : V.cell? ⟨w.heap.size, 1, none⟩ = some (.int .i64 n.n) := by (rw [hV]; simp [go_sem, *])
  have Vn2 : V.cell? ⟨w.heap.size, 2, none⟩ = some (.int .i64 n.uid) := by (rw [hV]; simp [go_sem, *])
  have Vn3 : V.cell? ⟨w.heap.size, 3, none⟩ = some (.string n.name) := by (rw [hV]; simp [go_sem, *])
  have Vs1 : w.heap.size < V.heap.size := by (rw [hV]; first | omega | (simp; omega))
  have Vs0 : B0 < V.heap.size := by omega
  clear hV
  have xVq0 := fun y : ExtW V => (y.h.cell (p := ⟨B0, 0, none⟩) Vs0).trans Vq0
  have xVq1 := fun y : ExtW V => (y.h.cell (p := ⟨B0, 1, none⟩) Vs0).trans Vq1
  have xVq2 := fun y : ExtW V => (y.h.cell (p := ⟨B0, 2, none⟩) Vs0).trans Vq2
  have xVn0 := fun y : ExtW V => (y.h.cell (p := ⟨w.heap.size, 0, none⟩) Vs1).trans Vn0
  have xVn1 := fun y : ExtW V => (y.h.cell (p := ⟨w.heap.size, 1, none⟩) Vs1).trans Vn1
  have xVn2 := fun y : ExtW V => (y.h.cell (p := ⟨w.heap.size, 2, none⟩) Vs1).trans Vn2
  have xVn3 := fun y : ExtW V => (y.h.cell (p := ⟨w.heap.size, 3, none⟩) Vs1).trans Vn3
  refine wp_region_ext (by kernel_rfl) (by kernel_rfl) ?_
  repeat (go_big_quiet_step ((go_at_call 61; refine (lastBox_of l (some ⟨gb0, 0, none⟩) c false rc l.length rfl _ ((Rd.of_Own HO.out).ext (ExtW.of hwV _)) z HZ).mono ?_; rintro e w4 ⟨rfl, hb4⟩; exact ⟨rfl, ExtW.on _ hb4⟩)))
  refine wpQuiet_nil ?_
  rintro w8 ⟨⟨w8x, hw8⟩, hxw8⟩
  have hyw8 : w8 = w8x := hxw8
  subst hyw8
  clear hxw8  xVq0 xVq1 xVq2 xVn0 xVn1 xVn2 xVn3
  have hw80 : Ext w w8 := Below.ext hwV hw8
  have m0 := (hw8.cell (p := ⟨w.heap.size, 0, none⟩) Vs1).trans Vn0
  have m1 := (hw8.cell (p := ⟨w.heap.size, 1, none⟩) Vs1).trans Vn1
  have m2 := (hw8.cell (p := ⟨w.heap.size, 2, none⟩) Vs1).trans Vn2
  have m3 := (hw8.cell (p := ⟨w.heap.size, 3, none⟩) Vs1).trans Vn3
  have s81 : w.heap.size < w8.heap.size := Nat.lt_of_lt_of_le Vs1 hw8.size
  go_upto_region 11 with fail
  refine wp_world (fun U hU => ?_)
  have hwU : Ext w U := by (rw [hU]; exact bxt)
  have Uq0 : U.cell? ⟨B0, 0, none⟩ = some (.slice (some ⟨gb0, 0, none⟩) l.length c) := (hwU.cell (p := ⟨B0, 0, none⟩) hB).trans q0
  have Uf0 : U.frozen? ⟨B0, 0, none⟩ = false := (hwU.frozen (p := ⟨B0, 0, none⟩) hB).trans f0
  have Uq1 : U.cell? ⟨B0, 1, none⟩ = some (.bool false) := (hwU.cell (p := ⟨B0, 1, none⟩) hB).trans q1
  have Uf1 : U.frozen? ⟨B0, 1, none⟩ = false := (hwU.frozen (p := ⟨B0, 1, none⟩) hB).trans f1
  have Uq2 : U.cell? ⟨B0, 2, none⟩ = some (.bool rc) := (hwU.cell (p := ⟨B0, 2, none⟩) hB).trans q2
  have Uf2 : U.frozen? ⟨B0, 2, none⟩ = false := (hwU.frozen (p := ⟨B0, 2, none⟩) hB).trans f2
  have Un0 : U.cell? ⟨w.heap.size, 0, none⟩ = some (.int .i64 n.kind) := by (rw [hU]; simp [go_sem, *])
  have Un1 : U.cell? ⟨w.heap.size, 1, none⟩ = some (.int .i64 n.n) := by (rw [hU]; simp [go_sem, *])
  have Un2 : U.cell? ⟨w.heap.size, 2, none⟩ = some (.int .i64 n.uid) := by (rw [hU]; simp [go_sem, *])
  have Un3 : U.cell? ⟨w.heap.size, 3, none⟩ = some (.string n.name) := by (rw [hU]; simp [go_sem, *])
  have Us1 : w.heap.size < U.heap.size := by (rw [hU]; first | omega | (simp; omega))
  have Us0 : B0 < U.heap.size := by omega
  clear hU
  obtain ⟨y0, y1, y2, y3⟩ := DNote.at0 (HAT.out.ext hg0 hwU) K hKl
  have hgU : gb0 < U.heap.size := Nat.lt_of_lt_of_le hg0 hwU.size
  have xe0 := fun y : ExtW U => (y.h.cell (p := ⟨gb0, K * 4, none⟩) hgU).trans y0
  have xe1 := fun y : ExtW U => (y.h.cell (p := ⟨gb0, K * 4 + 1, none⟩) hgU).trans y1
  have xe2 := fun y : ExtW U => (y.h.cell (p := ⟨gb0, K * 4 + 2, none⟩) hgU).trans y2
  have xe3 := fun y : ExtW U => (y.h.cell (p := ⟨gb0, K * 4 + 3, none⟩) hgU).trans y3
  have xUq0 := fun y : ExtW U => (y.h.cell (p := ⟨B0, 0, none⟩) Us0).trans Uq0
  have xUq1 := fun y : ExtW U => (y.h.cell (p := ⟨B0, 1, none⟩) Us0).trans Uq1
  have xUq2 := fun y : ExtW U => (y.h.cell (p := ⟨B0, 2, none⟩) Us0).trans Uq2
  have xUn0 := fun y : ExtW U => (y.h.cell (p := ⟨w.heap.size, 0, none⟩) Us1).trans Un0
  have xUn1 := fun y : ExtW U => (y.h.cell (p := ⟨w.heap.size, 1, none⟩) Us1).trans Un1
  have xUn2 := fun y : ExtW U => (y.h.cell (p := ⟨w.heap.size, 2, none⟩) Us1).trans Un2
  have xUn3 := fun y : ExtW U => (y.h.cell (p := ⟨w.heap.size, 3, none⟩) Us1).trans Un3
  refine wp_region_ext (by kernel_rfl) (by kernel_rfl) ?_
  repeat (go_big_quiet_step ((go_at_call 60; refine (isBoxNote_any l[K] _ _ HD1).mono ?_; rintro e w9 ⟨rfl, hb9⟩; exact ⟨rfl, ExtW.on _ hb9⟩)))
  refine wpQuiet_nil ?_
  rintro w3 ⟨⟨w3x, hw3⟩, hx3⟩
  have hx4 : w3 = w3x := hx3
  subst hx4
  clear hx3  xUq0 xUq1 xUq2 xUn0 xUn1 xUn2 xUn3
  have hw30 : Ext w w3 := Below.ext hwU hw3
  clear xe0 xe1 xe2 xe3 y0 y1 y2 y3
  clear m0 m1 m2 m3
  have y0 := (hw30.cell (p := ⟨B0, 0, none⟩) hB).trans q0
  have g0 := (hw30.frozen (p := ⟨B0, 0, none⟩) hB).trans f0
  have y1 := (hw30.cell (p := ⟨B0, 1, none⟩) hB).trans q1
  have g1 := (hw30.frozen (p := ⟨B0, 1, none⟩) hB).trans f1
  have y2 := (hw30.cell (p := ⟨B0, 2, none⟩) hB).trans q2
  have g2 := (hw30.frozen (p := ⟨B0, 2, none⟩) hB).trans f2
  have s30 : B0 < w3.heap.size := by (have := hw30.size; omega)
  have m0 := (hw3.cell (p := ⟨w.heap.size, 0, none⟩) Us1).trans Un0
  have m1 := (hw3.cell (p := ⟨w.heap.size, 1, none⟩) Us1).trans Un1
  have m2 := (hw3.cell (p := ⟨w.heap.size, 2, none⟩) Us1).trans Un2
  have m3 := (hw3.cell (p := ⟨w.heap.size, 3, none⟩) Us1).trans Un3
  have s31 : w.heap.size < w3.heap.size := Nat.lt_of_lt_of_le Us1 hw3.size
  go_wp2_with (go_at_call 98; refine (without_false l (some ⟨gb0, 0, none⟩) c B0 _ ((Rd.of_Own HO.out).ext hw30) hl y0 g0 s30 r HR5).mono ?_; rintro e w5 ⟨g5, q5, w2, rfl, rfl, hown5, hb5⟩; have z0 := (hb5.cell (p := ⟨B0, 0, none⟩) s30).trans y0; have x0 := (hb5.frozen (p := ⟨B0, 0, none⟩) s30).trans g0; have z1 := (hb5.cell (p := ⟨B0, 1, none⟩) s30).trans y1; have x1 := (hb5.frozen (p := ⟨B0, 1, none⟩) s30).trans g1; have z2 := (hb5.cell (p := ⟨B0, 2, none⟩) s30).trans y2; have x2 := (hb5.frozen (p := ⟨B0, 2, none⟩) s30).trans g2; have s50 : B0 < w2.heap.size := (by have := hb5.size; omega); have H5 := Lib.hid hown5; clear hown5)
  have hw20 : Ext w w2 := Below.ext hw30 hb5
  refine bodyPost_end (results_none rfl _ _ _) rfl ⟨g5, q5, rfl, (by simp [go_sem, *]), (by simp [go_sem, *]), (by simp [go_sem, *]), ?_, ?_, ?_⟩
  · (repeat' (first | with_reducible refine Own.set_lt ?_ H5.out (by (first | omega | (simp <;> omega))) _)); exact Own.le H5.out (by have := hw30.size; omega)
  · refine Below.setCell (Below.setCell (Below.mono hw20 (by omega)) ?_ _) ?_ _ <;> exact Nat.le_refl _
  · simp; omega

set_option maxRecDepth 100000 in
set_option maxHeartbeats 4000000 in
theorem implPush_e (l : List DNote) (a : Option Addr) (c : Nat) (rb rc : Bool) (n : DNote) (Bs B0 : Nat) (w : World) (h : Own w Bs 36 4 (.slice a l.length c) l.length (l.flatMap DNote.cells)) (hl : l.length ≤ 1048576) (hB : B0 < w.heap.size) (hBs : Bs ≤ B0) (hoff : foot (.slice a l.length c) ≠ some B0) (q0 : w.cell? ⟨B0, 0, none⟩ = some (.slice a l.length c)) (q1 : w.cell? ⟨B0, 1, none⟩ = some (.bool rb)) (q2 : w.cell? ⟨B0, 2, none⟩ = some (.bool rc)) (f0 : w.frozen? ⟨B0, 0, none⟩ = false) (f1 : w.frozen? ⟨B0, 1, none⟩ = false) (f2 : w.frozen? ⟨B0, 2, none⟩ = false) (K : Nat) (hKl : K < l.length) (hK : l.length = K + 1) (t1 : l[K].kind = 1) (t2 : l[K].uid = n.uid) (t3 : n.uid ≠ 0) (hk : n.kind = 1) (hb : rb = false) (hz : 0 ≤ n.n) (ha : l.any (boxIn n.n) = false)  :
    Calls Try.prog 55 #[.pointer (some ⟨B0, 0, none⟩), .agg #[.int .i64 n.kind, .int .i64 n.n, .int .i64 n.uid, .string n.name]] w (PushI 36 Bs B0 ⟨l.set K n, rb, rc⟩ w) := by
  have HO := Lib.hid h
  have HF := Lib.hid hoff
  clear h hoff
  subst hb
  have HT : Hid ((n.kind != 1) = false) := by simp [Hid, hk]
  have k1 : (n.kind == 1) = true := by simp [hk]
  clear hk
  have hle := lastBox_le l n.n hz
  rw [ha] at hle
  obtain ⟨z, hzz⟩ : ∃ z, lastBox l = z := ⟨_, rfl⟩
  rw [hzz] at hle
  have HZ := Lib.hid hzz
  clear hzz hz ha
  have u4 : IntKind.i64.wrap ((l.length : Int) - 1) = (K : Int) := by rw [IntWalk.i64_in _ (by omega)]; omega
  have u5 : (0 : Int) ≤ (K : Int) := by omega
  have u6 : (K : Int) < (l.length : Int) := by omega
  have HD1 : Hid ((l[K].kind == 1) = true) := by simpa [Hid] using t1
  have u2 : (l[K].uid == n.uid) = true := by simpa using t2
  have u3 : (n.uid != 0) = true := by simpa using t3
  have HK := Lib.hid hK
  have hcap := HO.out.cap
  obtain ⟨gb0, rfl, -⟩ := HO.out.row (by omega)
  have hgl := HO.out.lt gb0 ((foot_slice _ _ _ _).2 ⟨by omega, _, rfl, rfl⟩)
  have hg0 : gb0 < w.heap.size := hgl.2
  have HAT : Hid (At w gb0 0 (l.flatMap DNote.cells)) := by
    obtain ⟨b, of, he, hbb, hat⟩ := (Rd.of_Own HO.out).ptr (by omega)
    obtain ⟨rfl, rfl⟩ : b = gb0 ∧ of = 0 := by cases he; exact ⟨rfl, rfl⟩
    exact hat
  clear hK hgl t1 t2 t3
  have P0 : Hid ((l.flatMap DNote.cells).set (K * 4) (.int .i64 n.kind) = (l.set K (⟨n.kind, l[K].n, l[K].uid, l[K].name⟩ : DNote)).flatMap DNote.cells) := by
    have := flat_set1 DNote.cells_len l K 0 (by first | omega | (simp; omega)) (by omega) (.int .i64 n.kind) (⟨n.kind, l[K].n, l[K].uid, l[K].name⟩ : DNote) (by simp [DNote.cells])
    simpa [Hid, List.set_set] using this
  have P1 : Hid (((l.set K (⟨n.kind, l[K].n, l[K].uid, l[K].name⟩ : DNote)).flatMap DNote.cells).set (K * 4 + 1) (.int .i64 n.n) = (l.set K (⟨n.kind, n.n, l[K].uid, l[K].name⟩ : DNote)).flatMap DNote.cells) := by
    have := flat_set1 DNote.cells_len (l.set K (⟨n.kind, l[K].n, l[K].uid, l[K].name⟩ : DNote)) K 1 (by first | omega | (simp; omega)) (by omega) (.int .i64 n.n) (⟨n.kind, n.n, l[K].uid, l[K].name⟩ : DNote) (by simp [DNote.cells])
    simpa [Hid, List.set_set] using this
  have P2 : Hid (((l.set K (⟨n.kind, n.n, l[K].uid, l[K].name⟩ : DNote)).flatMap DNote.cells).set (K * 4 + 2) (.int .i64 n.uid) = (l.set K (⟨n.kind, n.n, n.uid, l[K].name⟩ : DNote)).flatMap DNote.cells) := by
    have := flat_set1 DNote.cells_len (l.set K (⟨n.kind, n.n, l[K].uid, l[K].name⟩ : DNote)) K 2 (by first | omega | (simp; omega)) (by omega) (.int .i64 n.uid) (⟨n.kind, n.n, n.uid, l[K].name⟩ : DNote) (by simp [DNote.cells])
    simpa [Hid, List.set_set] using this
  have P3 : Hid (((l.set K (⟨n.kind, n.n, n.uid, l[K].name⟩ : DNote)).flatMap DNote.cells).set (K * 4 + 3) (.string n.name) = (l.set K n).flatMap DNote.cells) := by
    have := flat_set1 DNote.cells_len (l.set K (⟨n.kind, n.n, n.uid, l[K].name⟩ : DNote)) K 3 (by first | omega | (simp; omega)) (by omega) (.string n.name) n (by simp [DNote.cells])
    simpa [Hid, List.set_set] using this
  go_enter Try.func55, Try.ntmps55
  go_upto_region 10 with (go_at_call 62; refine (isOtherNote_any n _ _ HT).mono ?_; rintro e w1 ⟨rfl, hb1⟩; obtain ⟨hc1, hf1⟩ := bcell hb1; have hz1 := hb1.size; (try simp at hz1); have s10 : B0 < w1.heap.size := (by omega); have s11 : w.heap.size < w1.heap.size := (by omega))
  refine wp_world (fun V hV => ?_)
  have hwV : Ext w V := by (rw [hV]; exact bxt)
  have Vq0 : V.cell? ⟨B0, 0, none⟩ = some (.slice (some ⟨gb0, 0, none⟩) l.length c) := (hwV.cell (p := ⟨B0, 0, none⟩) hB).trans q0
  have Vf0 : V.frozen? ⟨B0, 0, none⟩ = false := (hwV.frozen (p := ⟨B0, 0, none⟩) hB).trans f0
  have Vq1 : V.cell? ⟨B0, 1, none⟩ = some (.bool false) := (hwV.cell (p := ⟨B0, 1, none⟩) hB).trans q1
  have Vf1 : V.frozen? ⟨B0, 1, none⟩ = false := (hwV.frozen (p := ⟨B0, 1, none⟩) hB).trans f1
  have Vq2 : V.cell? ⟨B0, 2, none⟩ = some (.bool rc) := (hwV.cell (p := ⟨B0, 2, none⟩) hB).trans q2
  have Vf2 : V.frozen? ⟨B0, 2, none⟩ = false := (hwV.frozen (p := ⟨B0, 2, none⟩) hB).trans f2
  have Vn0 : V.cell? ⟨w.heap.size, 0, none⟩ = some (.int .i64 n.kind) := by (rw [hV]; simp [go_sem, *])
  have Vn1 : V.cell? ⟨w.heap.size, 1, none⟩ = some (.int .i64 n.n) := by (rw [hV]; simp [go_sem, *])
  have Vn2 : V.cell? ⟨w.heap.size, 2, none⟩ = some (.int .i64 n.uid) := by (rw [hV]; simp [go_sem, *])
  have Vn3 : V.cell? ⟨w.heap.size, 3, none⟩ = some (.string n.name) := by (rw [hV]; simp [go_sem, *])
  have Vs1 : w.heap.size < V.heap.size := by (rw [hV]; first | omega | (simp; omega))
  have Vs0 : B0 < V.heap.size := by omega
  clear hV
  have xVq0 := fun y : ExtW V => (y.h.cell (p := ⟨B0, 0, none⟩) Vs0).trans Vq0
  have xVq1 := fun y : ExtW V => (y.h.cell (p := ⟨B0, 1, none⟩) Vs0).trans Vq1
  have xVq2 := fun y : ExtW V => (y.h.cell (p := ⟨B0, 2, none⟩) Vs0).trans Vq2
  have xVn0 := fun y : ExtW V => (y.h.cell (p := ⟨w.heap.size, 0, none⟩) Vs1).trans Vn0
  have xVn1 := fun y : ExtW V => (y.h.cell (p := ⟨w.heap.size, 1, none⟩) Vs1).trans Vn1
  have xVn2 := fun y : ExtW V => (y.h.cell (p := ⟨w.heap.size, 2, none⟩) Vs1).trans Vn2
  have xVn3 := fun y : ExtW V => (y.h.cell (p := ⟨w.heap.size, 3, none⟩) Vs1).trans Vn3
  refine wp_region_ext (by kernel_rfl) (by kernel_rfl) ?_
  repeat (go_big_quiet_step ((go_at_call 61; refine (lastBox_of l (some ⟨gb0, 0, none⟩) c false rc l.length rfl _ ((Rd.of_Own HO.out).ext (ExtW.of hwV _)) z HZ).mono ?_; rintro e w4 ⟨rfl, hb4⟩; exact ⟨rfl, ExtW.on _ hb4⟩)))
  refine wpQuiet_nil ?_
  rintro w8 ⟨⟨w8x, hw8⟩, hxw8⟩
  have hyw8 : w8 = w8x := hxw8
  subst hyw8
  clear hxw8  xVq0 xVq1 xVq2 xVn0 xVn1 xVn2 xVn3
  have hw80 : Ext w w8 := Below.ext hwV hw8
  have m0 := (hw8.cell (p := ⟨w.heap.size, 0, none⟩) Vs1).trans Vn0
  have m1 := (hw8.cell (p := ⟨w.heap.size, 1, none⟩) Vs1).trans Vn1
  have m2 := (hw8.cell (p := ⟨w.heap.size, 2, none⟩) Vs1).trans Vn2
  have m3 := (hw8.cell (p := ⟨w.heap.size, 3, none⟩) Vs1).trans Vn3
  have s81 : w.heap.size < w8.heap.size := Nat.lt_of_lt_of_le Vs1 hw8.size
  go_upto_region 11 with fail
  refine wp_world (fun U hU => ?_)
  have hwU : Ext w U := by (rw [hU]; exact bxt)
  have Uq0 : U.cell? ⟨B0, 0, none⟩ = some (.slice (some ⟨gb0, 0, none⟩) l.length c) := (hwU.cell (p := ⟨B0, 0, none⟩) hB).trans q0
  have Uf0 : U.frozen? ⟨B0, 0, none⟩ = false := (hwU.frozen (p := ⟨B0, 0, none⟩) hB).trans f0
  have Uq1 : U.cell? ⟨B0, 1, none⟩ = some (.bool false) := (hwU.cell (p := ⟨B0, 1, none⟩) hB).trans q1
  have Uf1 : U.frozen? ⟨B0, 1, none⟩ = false := (hwU.frozen (p := ⟨B0, 1, none⟩) hB).trans f1
  have Uq2 : U.cell? ⟨B0, 2, none⟩ = some (.bool rc) := (hwU.cell (p := ⟨B0, 2, none⟩) hB).trans q2
  have Uf2 : U.frozen? ⟨B0, 2, none⟩ = false := (hwU.frozen (p := ⟨B0, 2, none⟩) hB).trans f2
  have Un0 : U.cell? ⟨w.heap.size, 0, none⟩ = some (.int .i64 n.kind) := by (rw [hU]; simp [go_sem, *])
  have Un1 : U.cell? ⟨w.heap.size, 1, none⟩ = some (.int .i64 n.n) := by (rw [hU]; simp [go_sem, *])
  have Un2 : U.cell? ⟨w.heap.size, 2, none⟩ = some (.int .i64 n.uid) := by (rw [hU]; simp [go_sem, *])
  have Un3 : U.cell? ⟨w.heap.size, 3, none⟩ = some (.string n.name) := by (rw [hU]; simp [go_sem, *])
  have Us1 : w.heap.size < U.heap.size := by (rw [hU]; first | omega | (simp; omega))
  have Us0 : B0 < U.heap.size := by omega
  clear hU
  obtain ⟨y0, y1, y2, y3⟩ := DNote.at0 (HAT.out.ext hg0 hwU) K hKl
  have hgU : gb0 < U.heap.size := Nat.lt_of_lt_of_le hg0 hwU.size
  have xe0 := fun y : ExtW U => (y.h.cell (p := ⟨gb0, K * 4, none⟩) hgU).trans y0
  have xe1 := fun y : ExtW U => (y.h.cell (p := ⟨gb0, K * 4 + 1, none⟩) hgU).trans y1
  have xe2 := fun y : ExtW U => (y.h.cell (p := ⟨gb0, K * 4 + 2, none⟩) hgU).trans y2
  have xe3 := fun y : ExtW U => (y.h.cell (p := ⟨gb0, K * 4 + 3, none⟩) hgU).trans y3
  have xUq0 := fun y : ExtW U => (y.h.cell (p := ⟨B0, 0, none⟩) Us0).trans Uq0
  have xUq1 := fun y : ExtW U => (y.h.cell (p := ⟨B0, 1, none⟩) Us0).trans Uq1
  have xUq2 := fun y : ExtW U => (y.h.cell (p := ⟨B0, 2, none⟩) Us0).trans Uq2
  have xUn0 := fun y : ExtW U => (y.h.cell (p := ⟨w.heap.size, 0, none⟩) Us1).trans Un0
  have xUn1 := fun y : ExtW U => (y.h.cell (p := ⟨w.heap.size, 1, none⟩) Us1).trans Un1
  have xUn2 := fun y : ExtW U => (y.h.cell (p := ⟨w.heap.size, 2, none⟩) Us1).trans Un2
  have xUn3 := fun y : ExtW U => (y.h.cell (p := ⟨w.heap.size, 3, none⟩) Us1).trans Un3
  refine wp_region_ext (by kernel_rfl) (by kernel_rfl) ?_
  repeat (go_big_quiet_step ((go_at_call 60; refine (isBoxNote_any l[K] _ _ HD1).mono ?_; rintro e w9 ⟨rfl, hb9⟩; exact ⟨rfl, ExtW.on _ hb9⟩)))
  refine wpQuiet_nil ?_
  rintro w3 ⟨⟨w3x, hw3⟩, hx3⟩
  have hx4 : w3 = w3x := hx3
  subst hx4
  clear hx3  xUq0 xUq1 xUq2 xUn0 xUn1 xUn2 xUn3
  have hw30 : Ext w w3 := Below.ext hwU hw3
  clear xe0 xe1 xe2 xe3 y0 y1 y2 y3
  clear m0 m1 m2 m3
  have y0 := (hw30.cell (p := ⟨B0, 0, none⟩) hB).trans q0
  have g0 := (hw30.frozen (p := ⟨B0, 0, none⟩) hB).trans f0
  have y1 := (hw30.cell (p := ⟨B0, 1, none⟩) hB).trans q1
  have g1 := (hw30.frozen (p := ⟨B0, 1, none⟩) hB).trans f1
  have y2 := (hw30.cell (p := ⟨B0, 2, none⟩) hB).trans q2
  have g2 := (hw30.frozen (p := ⟨B0, 2, none⟩) hB).trans f2
  have s30 : B0 < w3.heap.size := by (have := hw30.size; omega)
  have m0 := (hw3.cell (p := ⟨w.heap.size, 0, none⟩) Us1).trans Un0
  have m1 := (hw3.cell (p := ⟨w.heap.size, 1, none⟩) Us1).trans Un1
  have m2 := (hw3.cell (p := ⟨w.heap.size, 2, none⟩) Us1).trans Un2
  have m3 := (hw3.cell (p := ⟨w.heap.size, 3, none⟩) Us1).trans Un3
  have s31 : w.heap.size < w3.heap.size := Nat.lt_of_lt_of_le Us1 hw3.size
  go_upto_region 13 with (go_at_call 96; refine (cloneNoteS_any l (some ⟨gb0, 0, none⟩) c _ (((Rd.of_Own HO.out).ext hw30)) (by omega)).mono ?_; rintro e w6 ⟨g6, q6, rfl, hown6, hb6⟩; obtain ⟨gb, rfl, -⟩ := hown6.row (by have := hown6.cap; omega); have p0 := (hb6.cell (p := ⟨B0, 0, none⟩) s30).trans y0; have o0 := (hb6.frozen (p := ⟨B0, 0, none⟩) s30).trans g0; have p1 := (hb6.cell (p := ⟨B0, 1, none⟩) s30).trans y1; have o1 := (hb6.frozen (p := ⟨B0, 1, none⟩) s30).trans g1; have p2 := (hb6.cell (p := ⟨B0, 2, none⟩) s30).trans y2; have o2 := (hb6.frozen (p := ⟨B0, 2, none⟩) s30).trans g2; have r0 := (hb6.cell (p := ⟨w.heap.size, 0, none⟩) s31).trans m0; have r1 := (hb6.cell (p := ⟨w.heap.size, 1, none⟩) s31).trans m1; have r2 := (hb6.cell (p := ⟨w.heap.size, 2, none⟩) s31).trans m2; have r3 := (hb6.cell (p := ⟨w.heap.size, 3, none⟩) s31).trans m3; have hz6 := hb6.size; have hbw6 : Ext w w6 := Below.ext hw30 hb6; have H6 := Lib.hid hown6; have s60 : B0 < w6.heap.size := (by omega); have s61 : w.heap.size < w6.heap.size := (by omega); have hgb := hown6.lt gb ((foot_slice _ _ _ _).2 ⟨by have := hown6.cap; omega, _, rfl, rfl⟩); have hgb1 : w3.heap.size ≤ gb := hgb.1; have HQ0 : Hid (q6 ≠ 0) := (by have := hown6.cap; unfold Hid; omega); clear hown6 hgb)
  have hne1 : ¬ gb = B0 := by omega
  have hne2 : ¬ B0 = gb := by omega
  refine wp_world (fun X hX => ?_)
  have Xq0 : X.cell? ⟨B0, 0, none⟩ = some (.slice (some ⟨gb, 0, none⟩) l.length q6) := by (rw [hX]; simp [go_sem, *])
  have Xq1 : X.cell? ⟨B0, 1, none⟩ = some (.bool false) := by (rw [hX]; simp [go_sem, *])
  have Xq2 : X.cell? ⟨B0, 2, none⟩ = some (.bool rc) := by (rw [hX]; simp [go_sem, *])
  have Xn0 : X.cell? ⟨w.heap.size, 0, none⟩ = some (.int .i64 n.kind) := by (rw [hX]; exact keep_set r0 (by omega))
  have Xn1 : X.cell? ⟨w.heap.size, 1, none⟩ = some (.int .i64 n.n) := by (rw [hX]; exact keep_set r1 (by omega))
  have Xn2 : X.cell? ⟨w.heap.size, 2, none⟩ = some (.int .i64 n.uid) := by (rw [hX]; exact keep_set r2 (by omega))
  have Xn3 : X.cell? ⟨w.heap.size, 3, none⟩ = some (.string n.name) := by (rw [hX]; exact keep_set r3 (by omega))
  have HX : Hid (Own X w3.heap.size 36 4 (.slice (some ⟨gb, 0, none⟩) l.length q6) l.length (l.flatMap DNote.cells)) := by (rw [hX]; exact Own.set_lt H6.out H6.out s30 _)
  have hXs : w.heap.size < X.heap.size := by (rw [hX]; simpa using s61)
  have hXb : Below B0 w X := by
    have hm6 : Below B0 w w6 := Below.mono hbw6 (Nat.le_of_lt hB)
    rw [hX]
    refine Below.setCell hm6 ?_ _
    exact Nat.le_refl _
  clear hX
  obtain ⟨⟨v0, hv0⟩, hu0⟩ := HX.out.slot (K * 4) (by omega)
  obtain ⟨⟨v1, hv1⟩, hu1⟩ := HX.out.slot (K * 4 + 1) (by omega)
  obtain ⟨⟨v2, hv2⟩, hu2⟩ := HX.out.slot (K * 4 + 2) (by omega)
  obtain ⟨⟨v3, hv3⟩, hu3⟩ := HX.out.slot (K * 4 + 3) (by omega)
  go_region_held3 (fun w' => w'.cell? ⟨B0, 0, none⟩ = some (.slice (some ⟨gb, 0, none⟩) l.length q6) ∧ w'.cell? ⟨w.heap.size, 0, none⟩ = some (.int .i64 n.kind) ∧ w'.cell? ⟨w.heap.size, 1, none⟩ = some (.int .i64 n.n) ∧ w'.cell? ⟨w.heap.size, 2, none⟩ = some (.int .i64 n.uid) ∧ w'.cell? ⟨w.heap.size, 3, none⟩ = some (.string n.name)) (refine ⟨?_, ?_, ?_, ?_, ?_⟩ <;> (repeat (first | with_reducible exact Xq0 | with_reducible exact Xn0 | with_reducible exact Xn1 | with_reducible exact Xn2 | with_reducible exact Xn3 | with_reducible assumption | with_reducible refine keep_set ?_ (by omega) | with_reducible refine keep_drew ?_))) (fail)
  all_goals go_wp2_with fail
  refine bodyPost_end (results_none rfl _ _ _) rfl ⟨(some ⟨gb, 0, none⟩), q6, rfl, (by simp [go_sem, *]), (by simp [go_sem, *]), (by simp [go_sem, *]), ?_, ?_, ?_⟩
  · try dsimp only
    rw [List.length_set]
    refine Own.le (B := w3.heap.size) ?_ (by have := hw30.size; omega)
    exact (by repeat' (first | with_reducible exact HX.out | with_reducible refine Own.set_below ?_ smx _ | with_reducible refine Own.put1 ?_ HQ0.out P0.out | with_reducible refine Own.put1 ?_ HQ0.out P1.out | with_reducible refine Own.put1 ?_ HQ0.out P2.out | with_reducible refine Own.put1 ?_ HQ0.out P3.out | with_reducible refine Own.alloc1 ?_ _ | with_reducible refine Own.drew1 ?_ | with_reducible refine Own.drewN1 ?_ | with_reducible refine Own.ext ?_ (by assumption)))
  · (repeat' (first | with_reducible exact hXb | with_reducible refine Below.setCell ?_ ?_ _ | with_reducible refine Below.drew ?_ | omega | (simp; omega)))
  · simp; omega

end Go.Proofs.Ytgobkfnmagcgcaa
