/-
  A note dropped from a queue: the program's function and the reference's.
-/
import Derived.Test.YtgobkfnmagcgcaaWCopyQueue
import Derived.Test.YtgobkfnmagcgcaaCSmall
import Derived.Deep.RegionLaw
import Derived.IntWalk
namespace Go.Proofs.Ytgobkfnmagcgcaa
open Go.RowKit
set_option linter.unusedVariables false
set_option linter.unusedSimpArgs false

def dropN (l : List DNote) (i : Int) : List DNote := if 0 ≤ i ∧ i ≤ (l.length : Int) - 1 then l.eraseIdx i.toNat else l
theorem dropN_len (l : List DNote) (i : Int) : (dropN l i).length ≤ l.length := by
  unfold dropN; split
  · exact List.length_eraseIdx_le _ _
  · exact Nat.le_refl _

set_option maxRecDepth 100000 in
set_option maxHeartbeats 4000000 in
theorem implDropNote_any (xnotes : List DNote) (xnotesA : Option Addr) (xnotesC : Nat) (xresync xlost : Bool) (x : Int) (w : World) (R : Rd w xnotesA xnotesC 4 xnotes.length (xnotes.flatMap DNote.cells)) (hl : xnotes.length ≤ 1048576) (r : List DNote) (Hr : Hid (dropN xnotes x = r)) (rb : Bool) (Hb : Hid (xresync = rb)) (rc : Bool) (Hc : Hid (xlost = rc)) :
    Calls Try.prog 23 #[.agg #[.slice xnotesA xnotes.length xnotesC, .bool xresync, .bool xlost], .int .i64 x] w fun e w' => ∃ g q, e = .returned (.agg #[.slice g r.length q, .bool rb, .bool rc]) ∧ Own w' w.heap.size 36 4 (.slice g r.length q) r.length (r.flatMap DNote.cells) ∧ Ext w w' := by
  obtain rfl := Hb.out
  obtain rfl := Hc.out
  clear Hb Hc
  have HR := Lib.hid R
  clear R
  obtain ⟨d, hd⟩ := boolOf (0 ≤ x ∧ x ≤ (xnotes.length : Int) - 1)
  have HD := Lib.hid hd
  clear hd
  have copy := fun W (hW : Ext w W) => copyQueue_any xnotes _ _ xresync xlost W (HR.out.ext hW) (by omega)
  have HC := Lib.hid copy
  clear copy
  cases d
  · have hr : r = xnotes := by rw [← Hr.out]; exact if_neg (no_of HD.out)
    have HE := Lib.hid hr
    clear hr
    go_enter Try.func23, Try.ntmps23
    go_wp2_with (first | (go_at_call 53; refine (HC.out _ bxt).mono ?_; rintro e w1 ⟨g, q, rfl, hown, hb1⟩; have HO := Lib.hid (hown.le (by first | (simp; done) | (simp; omega) | omega : w.heap.size + 2 ≤ _)); clear hown; have c0_0 : w1.cell? ⟨w.heap.size, 0, none⟩ = some (.slice xnotesA xnotes.length xnotesC) := (hb1.cell (p := ⟨w.heap.size, 0, none⟩) smx).trans kpx; have f0_0 : w1.frozen? ⟨w.heap.size, 0, none⟩ = false := (hb1.frozen (p := ⟨w.heap.size, 0, none⟩) smx).trans kfx; have c0_1 : w1.cell? ⟨w.heap.size, 1, none⟩ = some (.bool xresync) := (hb1.cell (p := ⟨w.heap.size, 1, none⟩) smx).trans kpx; have f0_1 : w1.frozen? ⟨w.heap.size, 1, none⟩ = false := (hb1.frozen (p := ⟨w.heap.size, 1, none⟩) smx).trans kfx; have c0_2 : w1.cell? ⟨w.heap.size, 2, none⟩ = some (.bool xlost) := (hb1.cell (p := ⟨w.heap.size, 2, none⟩) smx).trans kpx; have f0_2 : w1.frozen? ⟨w.heap.size, 2, none⟩ = false := (hb1.frozen (p := ⟨w.heap.size, 2, none⟩) smx).trans kfx; have s0 : w.heap.size < w1.heap.size := (by have hss := hb1.size; first | omega | (simp at hss; omega)); have c1_0 : w1.cell? ⟨w.heap.size + 1, 0, none⟩ = some (.slice none 0 0) := (hb1.cell (p := ⟨w.heap.size + 1, 0, none⟩) smx).trans kpx; have f1_0 : w1.frozen? ⟨w.heap.size + 1, 0, none⟩ = false := (hb1.frozen (p := ⟨w.heap.size + 1, 0, none⟩) smx).trans kfx; have c1_1 : w1.cell? ⟨w.heap.size + 1, 1, none⟩ = some (.bool false) := (hb1.cell (p := ⟨w.heap.size + 1, 1, none⟩) smx).trans kpx; have f1_1 : w1.frozen? ⟨w.heap.size + 1, 1, none⟩ = false := (hb1.frozen (p := ⟨w.heap.size + 1, 1, none⟩) smx).trans kfx; have c1_2 : w1.cell? ⟨w.heap.size + 1, 2, none⟩ = some (.bool false) := (hb1.cell (p := ⟨w.heap.size + 1, 2, none⟩) smx).trans kpx; have f1_2 : w1.frozen? ⟨w.heap.size + 1, 2, none⟩ = false := (hb1.frozen (p := ⟨w.heap.size + 1, 2, none⟩) smx).trans kfx; have s1 : w.heap.size + 1 < w1.heap.size := (by have hss := hb1.size; first | omega | (simp at hss; omega))) | (go_at_call 44; refine (within_any _ _ _ _ false HD).mono ?_; rintro e w2 ⟨rfl, rfl⟩))
    have hr := HE.out
    subst hr
    refine bodyPost_ret (v := .agg #[.slice g r.length q, .bool xresync, .bool xlost]) (by simp [results, Try.results23, go_sem, *]) rfl ⟨g, q, rfl, ?_, ?_⟩
    · refine Own.le (B := w.heap.size + 2) ?_ (by omega)
      exact (by repeat' (first | with_reducible exact HO.out | with_reducible refine Own.set_below ?_ smx _ | with_reducible refine Own.alloc1 ?_ _ | with_reducible refine Own.drew1 ?_ | with_reducible refine Own.drewN1 ?_ | with_reducible refine Own.ext ?_ (by assumption)))
    · exact bxt
  · have hy := yes_of HD.out
    obtain ⟨i, rfl⟩ := Int.eq_ofNat_of_zero_le hy.1
    have hi : i < xnotes.length := by omega
    have hr : xnotes.eraseIdx i = r := by rw [← Hr.out]; unfold dropN; rw [if_pos hy]; rfl
    have HE := Lib.hid hr
    have hi2 : (i : Int) ≤ 1048576 := by omega
    have hlr : r.length ≤ 1048576 := by rw [← hr]; exact Nat.le_trans (List.length_eraseIdx_le _ _) hl
    clear hr hy
    go_enter Try.func23, Try.ntmps23
    go_wp2_with (first | (go_at_call 53; refine (HC.out _ bxt).mono ?_; rintro e w1 ⟨g, q, rfl, hown, hb1⟩; have HO := Lib.hid (hown.le (by first | (simp; done) | (simp; omega) | omega : w.heap.size + 2 ≤ _)); clear hown; have c0_0 : w1.cell? ⟨w.heap.size, 0, none⟩ = some (.slice xnotesA xnotes.length xnotesC) := (hb1.cell (p := ⟨w.heap.size, 0, none⟩) smx).trans kpx; have f0_0 : w1.frozen? ⟨w.heap.size, 0, none⟩ = false := (hb1.frozen (p := ⟨w.heap.size, 0, none⟩) smx).trans kfx; have c0_1 : w1.cell? ⟨w.heap.size, 1, none⟩ = some (.bool xresync) := (hb1.cell (p := ⟨w.heap.size, 1, none⟩) smx).trans kpx; have f0_1 : w1.frozen? ⟨w.heap.size, 1, none⟩ = false := (hb1.frozen (p := ⟨w.heap.size, 1, none⟩) smx).trans kfx; have c0_2 : w1.cell? ⟨w.heap.size, 2, none⟩ = some (.bool xlost) := (hb1.cell (p := ⟨w.heap.size, 2, none⟩) smx).trans kpx; have f0_2 : w1.frozen? ⟨w.heap.size, 2, none⟩ = false := (hb1.frozen (p := ⟨w.heap.size, 2, none⟩) smx).trans kfx; have s0 : w.heap.size < w1.heap.size := (by have hss := hb1.size; first | omega | (simp at hss; omega)); have c1_0 : w1.cell? ⟨w.heap.size + 1, 0, none⟩ = some (.slice none 0 0) := (hb1.cell (p := ⟨w.heap.size + 1, 0, none⟩) smx).trans kpx; have f1_0 : w1.frozen? ⟨w.heap.size + 1, 0, none⟩ = false := (hb1.frozen (p := ⟨w.heap.size + 1, 0, none⟩) smx).trans kfx; have c1_1 : w1.cell? ⟨w.heap.size + 1, 1, none⟩ = some (.bool false) := (hb1.cell (p := ⟨w.heap.size + 1, 1, none⟩) smx).trans kpx; have f1_1 : w1.frozen? ⟨w.heap.size + 1, 1, none⟩ = false := (hb1.frozen (p := ⟨w.heap.size + 1, 1, none⟩) smx).trans kfx; have c1_2 : w1.cell? ⟨w.heap.size + 1, 2, none⟩ = some (.bool false) := (hb1.cell (p := ⟨w.heap.size + 1, 2, none⟩) smx).trans kpx; have f1_2 : w1.frozen? ⟨w.heap.size + 1, 2, none⟩ = false := (hb1.frozen (p := ⟨w.heap.size + 1, 2, none⟩) smx).trans kfx; have s1 : w.heap.size + 1 < w1.heap.size := (by have hss := hb1.size; first | omega | (simp at hss; omega))) | (go_at_call 44; refine (within_any _ _ _ _ true HD).mono ?_; rintro e w2 ⟨rfl, rfl⟩))
    refine (deleteNoteS_any xnotes g q (w.heap.size + 2) i _ _ _ (HO.out.ext bxt) hi rfl rfl (by omega) r HE).mono ?_
    rintro e w2 ⟨rfl, hown2, hg2⟩
    have n1 := HO.out.ne_lt (b := w.heap.size + 1) (by omega)
    have n2 := HO.out.ne_ge (b := w1.heap.size) (Nat.le_refl _)
    have N1 := Lib.hid n1
    have N2 := Lib.hid n2
    have H2 := Lib.hid hown2
    clear n1 n2 hown2
    have cd0_0 : w2.cell? ⟨w.heap.size + 1, 0, none⟩ = some (.slice none 0 0) := grown_cell hg2 kpx N1.out
    have fd0_0 : w2.frozen? ⟨w.heap.size + 1, 0, none⟩ = false := grown_frz hg2 smx kfx N1.out
    have cd0_1 : w2.cell? ⟨w.heap.size + 1, 1, none⟩ = some (.bool false) := grown_cell hg2 kpx N1.out
    have fd0_1 : w2.frozen? ⟨w.heap.size + 1, 1, none⟩ = false := grown_frz hg2 smx kfx N1.out
    have cd0_2 : w2.cell? ⟨w.heap.size + 1, 2, none⟩ = some (.bool false) := grown_cell hg2 kpx N1.out
    have fd0_2 : w2.frozen? ⟨w.heap.size + 1, 2, none⟩ = false := grown_frz hg2 smx kfx N1.out
    have sd0 : w.heap.size + 1 < w2.heap.size := (by have hss := hg2.size; first | omega | (simp at hss; omega))
    have cd1_0 : w2.cell? ⟨w1.heap.size, 0, none⟩ = some (.slice g xnotes.length q) := grown_cell hg2 kpx N2.out
    have fd1_0 : w2.frozen? ⟨w1.heap.size, 0, none⟩ = false := grown_frz hg2 smx kfx N2.out
    have cd1_1 : w2.cell? ⟨w1.heap.size, 1, none⟩ = some (.bool xresync) := grown_cell hg2 kpx N2.out
    have fd1_1 : w2.frozen? ⟨w1.heap.size, 1, none⟩ = false := grown_frz hg2 smx kfx N2.out
    have cd1_2 : w2.cell? ⟨w1.heap.size, 2, none⟩ = some (.bool xlost) := grown_cell hg2 kpx N2.out
    have fd1_2 : w2.frozen? ⟨w1.heap.size, 2, none⟩ = false := grown_frz hg2 smx kfx N2.out
    have sd1 : w1.heap.size < w2.heap.size := (by have hss := hg2.size; first | omega | (simp at hss; omega))
    have hbel : Below w.heap.size w w2 := below_foot (B := w.heap.size + 2) (show Below w.heap.size w _ from bxt) (HO.out.ext bxt) (by omega) (by simp; omega) hg2
    go_wp2_with fail
    refine bodyPost_ret (v := .agg #[.slice g r.length q, .bool xresync, .bool xlost]) (by simp [results, Try.results23, go_sem, *]) rfl ⟨g, q, rfl, ?_, ?_⟩
    · refine Own.le (B := w.heap.size + 2) ?_ (by omega)
      exact (by repeat' (first | with_reducible exact H2.out | with_reducible refine Own.set_below ?_ smx _ | with_reducible refine Own.set_off ?_ (by with_reducible exact foot_ne N2.out) _ | with_reducible refine Own.alloc1 ?_ _ | with_reducible refine Own.drew1 ?_ | with_reducible refine Own.drewN1 ?_ | with_reducible refine Own.ext ?_ (by assumption)))
    · exact bxt

set_option maxRecDepth 100000 in
set_option maxHeartbeats 4000000 in
theorem specDropNote_any (xnotes : List DNote) (xnotesA : Option Addr) (xnotesC : Nat) (xresync xlost : Bool) (x : Int) (w : World) (R : Rd w xnotesA xnotesC 4 xnotes.length (xnotes.flatMap DNote.cells)) (hl : xnotes.length ≤ 1048576) (r : List DNote) (Hr : Hid (dropN xnotes x = r)) (rb : Bool) (Hb : Hid (xresync = rb)) (rc : Bool) (Hc : Hid (xlost = rc)) :
    Calls Try.prog 24 #[.agg #[.slice xnotesA xnotes.length xnotesC, .bool xresync, .bool xlost], .int .i64 x] w fun e w' => ∃ g q, e = .returned (.agg #[.slice g r.length q, .bool rb, .bool rc]) ∧ Own w' w.heap.size 36 4 (.slice g r.length q) r.length (r.flatMap DNote.cells) ∧ Ext w w' := by
  obtain rfl := Hb.out
  obtain rfl := Hc.out
  clear Hb Hc
  have HR := Lib.hid R
  clear R
  obtain ⟨d, hd⟩ := boolOf (0 ≤ x ∧ x ≤ (xnotes.length : Int) - 1)
  have HD := Lib.hid hd
  clear hd
  have copy := fun W (hW : Ext w W) => l16Copy_any xnotes _ _ xresync xlost W (HR.out.ext hW) (by omega)
  have HC := Lib.hid copy
  clear copy
  cases d
  · have hr : r = xnotes := by rw [← Hr.out]; exact if_neg (no_of HD.out)
    have HE := Lib.hid hr
    clear hr
    go_enter Try.func24, Try.ntmps24
    go_wp2_with (first | (go_at_call 56; refine (HC.out _ bxt).mono ?_; rintro e w1 ⟨g, q, rfl, hown, hb1⟩; have HO := Lib.hid (hown.le (by first | (simp; done) | (simp; omega) | omega : w.heap.size + 2 ≤ _)); clear hown; have c0_0 : w1.cell? ⟨w.heap.size, 0, none⟩ = some (.slice xnotesA xnotes.length xnotesC) := (hb1.cell (p := ⟨w.heap.size, 0, none⟩) smx).trans kpx; have f0_0 : w1.frozen? ⟨w.heap.size, 0, none⟩ = false := (hb1.frozen (p := ⟨w.heap.size, 0, none⟩) smx).trans kfx; have c0_1 : w1.cell? ⟨w.heap.size, 1, none⟩ = some (.bool xresync) := (hb1.cell (p := ⟨w.heap.size, 1, none⟩) smx).trans kpx; have f0_1 : w1.frozen? ⟨w.heap.size, 1, none⟩ = false := (hb1.frozen (p := ⟨w.heap.size, 1, none⟩) smx).trans kfx; have c0_2 : w1.cell? ⟨w.heap.size, 2, none⟩ = some (.bool xlost) := (hb1.cell (p := ⟨w.heap.size, 2, none⟩) smx).trans kpx; have f0_2 : w1.frozen? ⟨w.heap.size, 2, none⟩ = false := (hb1.frozen (p := ⟨w.heap.size, 2, none⟩) smx).trans kfx; have s0 : w.heap.size < w1.heap.size := (by have hss := hb1.size; first | omega | (simp at hss; omega)); have c1_0 : w1.cell? ⟨w.heap.size + 1, 0, none⟩ = some (.slice none 0 0) := (hb1.cell (p := ⟨w.heap.size + 1, 0, none⟩) smx).trans kpx; have f1_0 : w1.frozen? ⟨w.heap.size + 1, 0, none⟩ = false := (hb1.frozen (p := ⟨w.heap.size + 1, 0, none⟩) smx).trans kfx; have c1_1 : w1.cell? ⟨w.heap.size + 1, 1, none⟩ = some (.bool false) := (hb1.cell (p := ⟨w.heap.size + 1, 1, none⟩) smx).trans kpx; have f1_1 : w1.frozen? ⟨w.heap.size + 1, 1, none⟩ = false := (hb1.frozen (p := ⟨w.heap.size + 1, 1, none⟩) smx).trans kfx; have c1_2 : w1.cell? ⟨w.heap.size + 1, 2, none⟩ = some (.bool false) := (hb1.cell (p := ⟨w.heap.size + 1, 2, none⟩) smx).trans kpx; have f1_2 : w1.frozen? ⟨w.heap.size + 1, 2, none⟩ = false := (hb1.frozen (p := ⟨w.heap.size + 1, 2, none⟩) smx).trans kfx; have s1 : w.heap.size + 1 < w1.heap.size := (by have hss := hb1.size; first | omega | (simp at hss; omega))) | (go_at_call 46; refine (l1In_any _ _ _ _ false HD).mono ?_; rintro e w2 ⟨rfl, rfl⟩))
    have hr := HE.out
    subst hr
    refine bodyPost_ret (v := .agg #[.slice g r.length q, .bool xresync, .bool xlost]) (by simp [results, Try.results24, go_sem, *]) rfl ⟨g, q, rfl, ?_, ?_⟩
    · refine Own.le (B := w.heap.size + 2) ?_ (by omega)
      exact (by repeat' (first | with_reducible exact HO.out | with_reducible refine Own.set_below ?_ smx _ | with_reducible refine Own.alloc1 ?_ _ | with_reducible refine Own.drew1 ?_ | with_reducible refine Own.drewN1 ?_ | with_reducible refine Own.ext ?_ (by assumption)))
    · exact bxt
  · have hy := yes_of HD.out
    obtain ⟨i, rfl⟩ := Int.eq_ofNat_of_zero_le hy.1
    have hi : i < xnotes.length := by omega
    have hr : xnotes.eraseIdx i = r := by rw [← Hr.out]; unfold dropN; rw [if_pos hy]; rfl
    have HE := Lib.hid hr
    have hi2 : (i : Int) ≤ 1048576 := by omega
    have hlr : r.length ≤ 1048576 := by rw [← hr]; exact Nat.le_trans (List.length_eraseIdx_le _ _) hl
    clear hr hy
    obtain ⟨i0, hi0, hz0, hz1, hz2⟩ := info_parts info_Note
    obtain ⟨b, ofs, rfl, hbb, -⟩ := HR.out.ptr (by omega)
    have HR1 := Lib.hid (HR.out.takeAt DNote.cells_len i (by omega))
    have HR2 := Lib.hid (Rd.dropAt (A := if xnotesC = i + 1 then some ⟨b, ofs, none⟩ else some ⟨b, ofs + (i + 1) * 4, none⟩) DNote.cells_len HR.out (i + 1) (by omega) (fun hlt => by rw [if_neg (by have := HR.out.nc; omega)]) _ _ rfl rfl)
    have hnc := HR.out.nc
    have hcm := HR.out.cm
    have hr : (xnotes.take i).flatMap DNote.cells ++ (xnotes.drop (i + 1)).flatMap DNote.cells = r.flatMap DNote.cells := by
      rw [← HE.out, List.eraseIdx_eq_take_drop_succ, List.flatMap_append]
    have HRR := Lib.hid hr
    have hl2 : i + (xnotes.length - (i + 1)) = r.length := by rw [← HE.out, List.length_eraseIdx, if_pos hi]; omega
    have HLL := Lib.hid hl2
    clear hr hl2
    have h1 : (0 : Int) ≤ (i : Int) := by omega
    have h2 : (0 : Int) ≤ (i : Int) + 1 := by omega
    have h3 : ((i : Int) + 1).toNat = i + 1 := by omega
    have h4 : (i : Int) + 1 ≤ (xnotes.length : Int) := by omega
    have h5 : (i : Int) ≤ (xnotes.length : Int) := by omega
    have h6 : (i : Int) ≤ (xnotesC : Int) := by omega
    have h7 : (xnotes.length : Int) ≤ (xnotesC : Int) := by omega
    have h8 : IntKind.i64.wrap ((i : Int) + 1) = (i : Int) + 1 := IntWalk.i64_in _ (by omega)
    go_enter Try.func24, Try.ntmps24
    go_wp2_with (first | (go_at_call 56; refine (HC.out _ bxt).mono ?_; rintro e w1 ⟨g, q, rfl, hown, hb1⟩; have HO := Lib.hid (hown.le (by first | (simp; done) | (simp; omega) | omega : w.heap.size + 2 ≤ _)); clear hown; have c0_0 : w1.cell? ⟨w.heap.size, 0, none⟩ = some (.slice (some ⟨b, ofs, none⟩) xnotes.length xnotesC) := (hb1.cell (p := ⟨w.heap.size, 0, none⟩) smx).trans kpx; have f0_0 : w1.frozen? ⟨w.heap.size, 0, none⟩ = false := (hb1.frozen (p := ⟨w.heap.size, 0, none⟩) smx).trans kfx; have c0_1 : w1.cell? ⟨w.heap.size, 1, none⟩ = some (.bool xresync) := (hb1.cell (p := ⟨w.heap.size, 1, none⟩) smx).trans kpx; have f0_1 : w1.frozen? ⟨w.heap.size, 1, none⟩ = false := (hb1.frozen (p := ⟨w.heap.size, 1, none⟩) smx).trans kfx; have c0_2 : w1.cell? ⟨w.heap.size, 2, none⟩ = some (.bool xlost) := (hb1.cell (p := ⟨w.heap.size, 2, none⟩) smx).trans kpx; have f0_2 : w1.frozen? ⟨w.heap.size, 2, none⟩ = false := (hb1.frozen (p := ⟨w.heap.size, 2, none⟩) smx).trans kfx; have s0 : w.heap.size < w1.heap.size := (by have hss := hb1.size; first | omega | (simp at hss; omega)); have c1_0 : w1.cell? ⟨w.heap.size + 1, 0, none⟩ = some (.slice none 0 0) := (hb1.cell (p := ⟨w.heap.size + 1, 0, none⟩) smx).trans kpx; have f1_0 : w1.frozen? ⟨w.heap.size + 1, 0, none⟩ = false := (hb1.frozen (p := ⟨w.heap.size + 1, 0, none⟩) smx).trans kfx; have c1_1 : w1.cell? ⟨w.heap.size + 1, 1, none⟩ = some (.bool false) := (hb1.cell (p := ⟨w.heap.size + 1, 1, none⟩) smx).trans kpx; have f1_1 : w1.frozen? ⟨w.heap.size + 1, 1, none⟩ = false := (hb1.frozen (p := ⟨w.heap.size + 1, 1, none⟩) smx).trans kfx; have c1_2 : w1.cell? ⟨w.heap.size + 1, 2, none⟩ = some (.bool false) := (hb1.cell (p := ⟨w.heap.size + 1, 2, none⟩) smx).trans kpx; have f1_2 : w1.frozen? ⟨w.heap.size + 1, 2, none⟩ = false := (hb1.frozen (p := ⟨w.heap.size + 1, 2, none⟩) smx).trans kfx; have s1 : w.heap.size + 1 < w1.heap.size := (by have hss := hb1.size; first | omega | (simp at hss; omega))) | (go_at_call 46; refine (l1In_any _ _ _ _ true HD).mono ?_; rintro e w2 ⟨rfl, rfl⟩))
    go_region_held3 (fun w' => SK w1.heap.size (w1.alloc (.cells #[.slice g xnotes.length q, .bool xresync, .bool xlost] 34)) w') (first | exact SK.beg _ _ (by simp) | exact SK.alloc (by assumption) _ | (refine SK.foot (by assumption) (Own.none0 (B := w1.heap.size + 1) (s := 4) (E := 28) _) (by omega) (by assumption)) | (refine SK.foot (by assumption) (by assumption) (by omega) (by assumption)) | exact SK.set (by assumption) (by simp) _) ((first | (refine step_app (B := w1.heap.size + 1) (v := .slice (some ⟨w1.heap.size + 1, 0, none⟩) 0 0) rfl (.tmp 16) (.tmp 20) 32 rfl 36 i0 _ _ Try.underlying32 hi0 hz0 hz1 hz2 rfl (by decide) (by simp [Act.eval, Act.put]) (Own.none0 _) (some ⟨b, ofs, none⟩) i xnotesC _ (by simp [Act.eval, Act.put]) (HR1.out.ext bxt) (one_flat DNote.one _) (by omega) (by omega) (by simp) ?_; intro g1 q1 w3 hown3 hg3; simp only [Nat.zero_add, List.nil_append] at hown3; have hb3 := grown_below (show World.grownBy _ w3 none from hg3); have ce0_0 : w3.cell? ⟨w1.heap.size, 0, none⟩ = some (.slice g xnotes.length q) := (hb3.cell (p := ⟨w1.heap.size, 0, none⟩) smx).trans kpx; have fe0_0 : w3.frozen? ⟨w1.heap.size, 0, none⟩ = false := (hb3.frozen (p := ⟨w1.heap.size, 0, none⟩) smx).trans kfx; have ce0_1 : w3.cell? ⟨w1.heap.size, 1, none⟩ = some (.bool xresync) := (hb3.cell (p := ⟨w1.heap.size, 1, none⟩) smx).trans kpx; have fe0_1 : w3.frozen? ⟨w1.heap.size, 1, none⟩ = false := (hb3.frozen (p := ⟨w1.heap.size, 1, none⟩) smx).trans kfx; have ce0_2 : w3.cell? ⟨w1.heap.size, 2, none⟩ = some (.bool xlost) := (hb3.cell (p := ⟨w1.heap.size, 2, none⟩) smx).trans kpx; have fe0_2 : w3.frozen? ⟨w1.heap.size, 2, none⟩ = false := (hb3.frozen (p := ⟨w1.heap.size, 2, none⟩) smx).trans kfx; have se0 : w1.heap.size < w3.heap.size := (by have hss := hb3.size; first | omega | (simp at hss; omega)); have ce1_0 : w3.cell? ⟨w.heap.size + 1, 0, none⟩ = some (.slice none 0 0) := (hb3.cell (p := ⟨w.heap.size + 1, 0, none⟩) smx).trans kpx; have fe1_0 : w3.frozen? ⟨w.heap.size + 1, 0, none⟩ = false := (hb3.frozen (p := ⟨w.heap.size + 1, 0, none⟩) smx).trans kfx; have ce1_1 : w3.cell? ⟨w.heap.size + 1, 1, none⟩ = some (.bool false) := (hb3.cell (p := ⟨w.heap.size + 1, 1, none⟩) smx).trans kpx; have fe1_1 : w3.frozen? ⟨w.heap.size + 1, 1, none⟩ = false := (hb3.frozen (p := ⟨w.heap.size + 1, 1, none⟩) smx).trans kfx; have ce1_2 : w3.cell? ⟨w.heap.size + 1, 2, none⟩ = some (.bool false) := (hb3.cell (p := ⟨w.heap.size + 1, 2, none⟩) smx).trans kpx; have fe1_2 : w3.frozen? ⟨w.heap.size + 1, 2, none⟩ = false := (hb3.frozen (p := ⟨w.heap.size + 1, 2, none⟩) smx).trans kfx; have se1 : w.heap.size + 1 < w3.heap.size := (by have hss := hb3.size; first | omega | (simp at hss; omega))) | (refine step_app (B := w1.heap.size + 1) (v := .slice g1 i q1) rfl (.tmp 21) (.tmp 26) 32 rfl 36 i0 _ _ Try.underlying32 hi0 hz0 hz1 hz2 rfl (by decide) (by simp [Act.eval, Act.put]) hown3 (if xnotesC = i + 1 then some ⟨b, ofs, none⟩ else some ⟨b, ofs + (i + 1) * 4, none⟩) (xnotes.length - (i + 1)) (xnotesC - (i + 1)) _ (by simp [Act.eval, Act.put]) (HR2.out.ext bxt) (one_flat DNote.one _) (by omega) (by omega) (by have := hb3.size; simp at this; omega) ?_; intro g2 q2 w4 hown4 hg4; have n3 := hown3.ne_lt (b := w1.heap.size) (by omega); have n5 := hown3.ne_lt (b := w.heap.size + 1) (by omega); have cg0_0 : w4.cell? ⟨w1.heap.size, 0, none⟩ = some (.slice g xnotes.length q) := grown_cell hg4 kpx n3; have fg0_0 : w4.frozen? ⟨w1.heap.size, 0, none⟩ = false := grown_frz hg4 smx kfx n3; have cg0_1 : w4.cell? ⟨w1.heap.size, 1, none⟩ = some (.bool xresync) := grown_cell hg4 kpx n3; have fg0_1 : w4.frozen? ⟨w1.heap.size, 1, none⟩ = false := grown_frz hg4 smx kfx n3; have cg0_2 : w4.cell? ⟨w1.heap.size, 2, none⟩ = some (.bool xlost) := grown_cell hg4 kpx n3; have fg0_2 : w4.frozen? ⟨w1.heap.size, 2, none⟩ = false := grown_frz hg4 smx kfx n3; have sg0 : w1.heap.size < w4.heap.size := (by have hss := hg4.size; first | omega | (simp at hss; omega)); have cg1_0 : w4.cell? ⟨w.heap.size + 1, 0, none⟩ = some (.slice none 0 0) := grown_cell hg4 kpx n5; have fg1_0 : w4.frozen? ⟨w.heap.size + 1, 0, none⟩ = false := grown_frz hg4 smx kfx n5; have cg1_1 : w4.cell? ⟨w.heap.size + 1, 1, none⟩ = some (.bool false) := grown_cell hg4 kpx n5; have fg1_1 : w4.frozen? ⟨w.heap.size + 1, 1, none⟩ = false := grown_frz hg4 smx kfx n5; have cg1_2 : w4.cell? ⟨w.heap.size + 1, 2, none⟩ = some (.bool false) := grown_cell hg4 kpx n5; have fg1_2 : w4.frozen? ⟨w.heap.size + 1, 2, none⟩ = false := grown_frz hg4 smx kfx n5; have sg1 : w.heap.size + 1 < w4.heap.size := (by have hss := hg4.size; first | omega | (simp at hss; omega)))))
    have n4 := hown4.ne_lt (b := w1.heap.size) (by omega)
    have N4 := Lib.hid n4
    have hbel : Below w.heap.size w w4 := below_foot (B := w1.heap.size + 1) (show Below w.heap.size w w3 from bxt) hown3 (by omega) (by have := hb3.size; simp at this; omega) hg4
    rw [HRR.out, HLL.out] at hown4
    rw [HLL.out]
    have H4 := Lib.hid hown4
    clear hown3 hown4 n4 n3 n5 hg4
    generalize (if xnotesC = i + 1 then (some ⟨b, ofs, none⟩ : Option Addr) else some ⟨b, ofs + (i + 1) * 4, none⟩) = AD
    go_wp2_with fail
    refine bodyPost_ret (v := .agg #[.slice g2 r.length q2, .bool xresync, .bool xlost]) (by simp [results, Try.results24, go_sem, *]) rfl ⟨g2, q2, rfl, ?_, ?_⟩
    · refine Own.le (B := w1.heap.size + 1) ?_ (by omega)
      exact (by repeat' (first | with_reducible exact H4.out | with_reducible refine Own.set_below ?_ smx _ | with_reducible refine Own.alloc1 ?_ _ | with_reducible refine Own.drew1 ?_ | with_reducible refine Own.drewN1 ?_ | with_reducible refine Own.ext ?_ (by assumption)))
    · exact bxt

end Go.Proofs.Ytgobkfnmagcgcaa
