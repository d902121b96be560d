/-
  The program's perform at a creation, a deletion and a renaming.
-/
import Derived.Test.YtmnalediohghiaaGreatWPerf
import Derived.Test.YtmnalediohghiaaGreatXOwn
import Derived.IntWalk
namespace Go.Proofs.YtmnalediohghiaaGreat
open Go.RowKit
set_option linter.unusedVariables false
set_option linter.unusedSimpArgs false

set_option maxRecDepth 100000 in
set_option maxHeartbeats 8000000 in
theorem perform1_any (l : List PBox) (a : Option Addr) (c B : Nat) (m : DCommit) (w : World) (h : OwnBs w B 73 78 a c l) (hl : l.length ≤ 4) (hB : B ≤ w.heap.size) (hk : m.kind = 1) :
    Calls Tryz.prog 91 #[.slice a l.length c, .agg #[.int .i64 m.kind, .int .i64 m.validity, .int .i64 m.uid, .int .i64 m.flags, .string m.name, .string m.text]] w (PerfPost B 73 78 (rowsB a c l) w (l.map PBox.box ++ [⟨m.name, m.validity, 1, []⟩])) := by
  obtain ⟨i0, hi0, hz0, hz1, hz2⟩ := info_parts info_Box
  obtain ⟨j0, hj0, hy0, hy1, hy2⟩ := info_parts info_Msg
  have H := Lib.hid h
  have k1 : (m.kind == 1) = true := by rw [hk]; rfl
  have HK := Lib.hid hk
  clear h hk
  obtain ⟨z, hz⟩ : ∃ z, boxWith m.validity (l.map PBox.box) = z := ⟨_, rfl⟩
  have HZ := Lib.hid hz
  go_enter Tryz.func91, Tryz.ntmps91
  go_wp2_with (first | (go_at_call 64; refine (implBoxWith_any l _ _ m.validity _ (H.out.rd.ext bxt) z HZ).mono ?_; rintro e w1 ⟨rfl, hb1⟩; have cl0_0 : w1.cell? ⟨w.heap.size, 0, none⟩ = some (.int .i64 m.kind) := (hb1.cell (p := ⟨w.heap.size, 0, none⟩) smx).trans kpx; have cl0_1 : w1.cell? ⟨w.heap.size, 1, none⟩ = some (.int .i64 m.validity) := (hb1.cell (p := ⟨w.heap.size, 1, none⟩) smx).trans kpx; have cl0_2 : w1.cell? ⟨w.heap.size, 2, none⟩ = some (.int .i64 m.uid) := (hb1.cell (p := ⟨w.heap.size, 2, none⟩) smx).trans kpx; have cl0_3 : w1.cell? ⟨w.heap.size, 3, none⟩ = some (.int .i64 m.flags) := (hb1.cell (p := ⟨w.heap.size, 3, none⟩) smx).trans kpx; have cl0_4 : w1.cell? ⟨w.heap.size, 4, none⟩ = some (.string m.name) := (hb1.cell (p := ⟨w.heap.size, 4, none⟩) smx).trans kpx; have cl0_5 : w1.cell? ⟨w.heap.size, 5, none⟩ = some (.string m.text) := (hb1.cell (p := ⟨w.heap.size, 5, none⟩) smx).trans kpx; have sl0 : w.heap.size < w1.heap.size := (by have hss := hb1.size; first | omega | (simp at hss; omega))) | (at_builtin; refine wpList_appL (B := B) (v := .slice a l.length c) (n := l.length) (xs := l.flatMap PBox.cells) (s := 4) rfl _ _ _ rfl 73 i0 _ _ Tryz.underlying27 hi0 hz0 hz1 hz2 rfl (by decide) rfl (by repeat' (first | with_reducible exact H.out.row | with_reducible refine Own.set_below ?_ smx _ | with_reducible refine Own.alloc1 ?_ _ | with_reducible refine Own.drew1 ?_ | with_reducible refine Own.drewN1 ?_ | with_reducible refine Own.ext ?_ (by assumption))) (some ⟨w1.heap.size, 0, none⟩) 1 1 [.string m.name, .int .i64 m.validity, .int .i64 1, .slice none 0 0] rfl (Rd.lit _ _ _ 1 4 _ (by first | rfl | simp) rfl (by omega)) (by simp [Value.oneCell']) (by omega) (by omega) smx ?_; intro g2 q2 w2 hown hg hw; have hb2 : Chg (rowsB a c l) w w2 := chg_foot (show Ext w _ from bxt) hg (fun k h => Or.inl h); have HNW : Hid (NewR (rowsB a c l) w g2 q2 (l ++ [⟨m.name, m.validity, 1, [], none, 0⟩])) := NewR.push hw (show Ext w _ from bxt).size rfl; have hp := OwnBs.push (z := ⟨m.name, m.validity, 1, [], none, 0⟩) (OwnBs.ext H.out (show Below w.heap.size w _ from bxt)) (Own.none0 _) (Or.inl rfl) (fun y hy => Off2.symm (Or.inl rfl)) hown hg hw; have HP := Lib.hid hp; have HBL := Lib.hid hb2; clear hown hg hw hp hb2))
  have hq : q2 ≠ 0 := by (have h := HP.out.row.cap; simp only [List.length_append, List.length_cons] at h; omega)
  obtain ⟨gb, rfl, -⟩ := HP.out.row.row hq
  refine (sortB_any (l ++ [⟨m.name, m.validity, 1, [], none, 0⟩]) gb q2 B (l.length + 1) _ HP.out hq (by simp; omega) (by simp)).mono ?_
  rintro e w9 ⟨rfl, l9, h9a, h9b, h9c, h9d⟩
  have H9 := Lib.hid (And.intro h9a (And.intro h9b (And.intro h9c h9d)))
  clear h9a h9b h9c h9d
  go_wp2_with fail
  go_ret
  exact perf_end HBL.out HNW.out HP.out H9.out.1 H9.out.2.1 H9.out.2.2.1 (by simp) H9.out.2.2.2 (by simp [PBox.box])

set_option maxRecDepth 100000 in
set_option maxHeartbeats 8000000 in
theorem perform2_any (l : List PBox) (a : Option Addr) (c B i : Nat) (m : DCommit) (w : World) (h : OwnBs w B 73 78 a c l) (hl : l.length ≤ 4) (hB : B ≤ w.heap.size) (hk : m.kind = 2) (hi : i < l.length) (hz : boxWith m.validity (l.map PBox.box) = i) :
    Calls Tryz.prog 91 #[.slice a l.length c, .agg #[.int .i64 m.kind, .int .i64 m.validity, .int .i64 m.uid, .int .i64 m.flags, .string m.name, .string m.text]] w (PerfPost B 73 78 (rowsB a c l) w ((l.map PBox.box).eraseIdx i)) := by
  obtain ⟨i0, hi0, hz0, hz1, hz2⟩ := info_parts info_Box
  obtain ⟨j0, hj0, hy0, hy1, hy2⟩ := info_parts info_Msg
  obtain ⟨hnc, hcm⟩ := h.row.cap
  have hc : c ≠ 0 := by omega
  obtain ⟨g, rfl, -⟩ := h.row.row hc
  have hgw : g < w.heap.size := (h.row.lt g (by simp [foot, hc])).2
  have H := Lib.hid h
  have HZ := Lib.hid hz
  have k1 : (m.kind == 1) = false := by rw [hk]; rfl
  have k2 : (m.kind == 2) = true := by rw [hk]; rfl
  have HK := Lib.hid hk
  have h10 : IntKind.i64.wrap ((i : Int) + 1) = (i : Int) + 1 := IntWalk.i64_in _ (by omega)
  have h11 : (i : Int) < (l.length : Int) := by omega
  have h12 : (0 : Int) ≤ (i : Int) := by omega
  clear h hk hz
  go_enter Tryz.func91, Tryz.ntmps91
  go_wp2_with (first | (go_at_call 64; refine (implBoxWith_any l _ _ m.validity _ (H.out.rd.ext bxt) (i : Int) HZ).mono ?_; rintro e w1 ⟨rfl, hb1⟩; have cl0_0 : w1.cell? ⟨w.heap.size, 0, none⟩ = some (.int .i64 m.kind) := (hb1.cell (p := ⟨w.heap.size, 0, none⟩) smx).trans kpx; have cl0_1 : w1.cell? ⟨w.heap.size, 1, none⟩ = some (.int .i64 m.validity) := (hb1.cell (p := ⟨w.heap.size, 1, none⟩) smx).trans kpx; have cl0_2 : w1.cell? ⟨w.heap.size, 2, none⟩ = some (.int .i64 m.uid) := (hb1.cell (p := ⟨w.heap.size, 2, none⟩) smx).trans kpx; have cl0_3 : w1.cell? ⟨w.heap.size, 3, none⟩ = some (.int .i64 m.flags) := (hb1.cell (p := ⟨w.heap.size, 3, none⟩) smx).trans kpx; have cl0_4 : w1.cell? ⟨w.heap.size, 4, none⟩ = some (.string m.name) := (hb1.cell (p := ⟨w.heap.size, 4, none⟩) smx).trans kpx; have cl0_5 : w1.cell? ⟨w.heap.size, 5, none⟩ = some (.string m.text) := (hb1.cell (p := ⟨w.heap.size, 5, none⟩) smx).trans kpx; have sl0 : w.heap.size < w1.heap.size := (by have hss := hb1.size; first | omega | (simp at hss; omega))) | (go_at_call 114; refine (deleteBoxS_any l (some ⟨g, 0, none⟩) c B i _ _ _ (by repeat' (first | with_reducible exact H.out.row | with_reducible refine Own.set_below ?_ smx _ | with_reducible refine Own.alloc1 ?_ _ | with_reducible refine Own.drew1 ?_ | with_reducible refine Own.drewN1 ?_ | with_reducible refine Own.ext ?_ (by assumption))) hi rfl (by omega) (by omega) (l.eraseIdx i) rfl).mono ?_; rintro e w2 ⟨rfl, hown, hg⟩; have hp := OwnBs.sub (OwnBs.ext H.out (show Below w.heap.size w _ from bxt)) (List.eraseIdx_sublist ..) hown hg; have hb2 : Chg (rowsB (some ⟨g, 0, none⟩) c l) w w2 := chg_foot (show Ext w _ from bxt) hg (fun k h => Or.inl h); have HP := Lib.hid hp; have HBL := Lib.hid hb2; clear hown hg hp hb2))
  refine (sortB_any (l.eraseIdx i) g c B ((l.eraseIdx i).length) _ HP.out hc (by rw [List.length_eraseIdx]; split <;> omega) rfl).mono ?_
  rintro e w9 ⟨rfl, l9, h9a, h9b, h9c, h9d⟩
  have H9 := Lib.hid (And.intro h9a (And.intro h9b (And.intro h9c h9d)))
  clear h9a h9b h9c h9d
  go_wp2_with fail
  go_ret
  exact perf_end HBL.out (by exact NewR.sub (List.eraseIdx_sublist ..)) HP.out H9.out.1 H9.out.2.1 H9.out.2.2.1 (by simp) H9.out.2.2.2 (by simp [List.eraseIdx_eq_take_drop_succ, List.map_take, List.map_drop])

set_option maxRecDepth 100000 in
set_option maxHeartbeats 8000000 in
theorem perform3_any (l : List PBox) (a : Option Addr) (c B i : Nat) (m : DCommit) (w : World) (h : OwnBs w B 73 78 a c l) (hl : l.length ≤ 4) (hB : B ≤ w.heap.size) (hk : m.kind = 3) (hi : i < l.length) (hz : boxWith m.validity (l.map PBox.box) = i) :
    Calls Tryz.prog 91 #[.slice a l.length c, .agg #[.int .i64 m.kind, .int .i64 m.validity, .int .i64 m.uid, .int .i64 m.flags, .string m.name, .string m.text]] w (PerfPost B 73 78 (rowsB a c l) w ((l.map PBox.box).set i ⟨m.name, l[i].validity, l[i].next, l[i].msgs⟩)) := by
  obtain ⟨i0, hi0, hz0, hz1, hz2⟩ := info_parts info_Box
  obtain ⟨j0, hj0, hy0, hy1, hy2⟩ := info_parts info_Msg
  obtain ⟨hnc, hcm⟩ := h.row.cap
  have hc : c ≠ 0 := by omega
  obtain ⟨g, rfl, -⟩ := h.row.row hc
  have hgw : g < w.heap.size := (h.row.lt g (by simp [foot, hc])).2
  have H := Lib.hid h
  have HZ := Lib.hid hz
  have k1 : (m.kind == 1) = false := by rw [hk]; rfl
  have k2 : (m.kind == 2) = false := by rw [hk]; rfl
  have k3 : (m.kind == 3) = true := by rw [hk]; rfl
  have HK := Lib.hid hk
  have h10 : IntKind.i64.wrap ((i : Int) + 1) = (i : Int) + 1 := IntWalk.i64_in _ (by omega)
  have h11 : (i : Int) < (l.length : Int) := by omega
  have h12 : (0 : Int) ≤ (i : Int) := by omega
  clear h hk hz
  go_enter Tryz.func91, Tryz.ntmps91
  go_wp2_with (go_at_call 64; refine (implBoxWith_any l _ _ m.validity _ (H.out.rd.ext bxt) (i : Int) HZ).mono ?_; rintro e w1 ⟨rfl, hb1⟩; have cl0_0 : w1.cell? ⟨w.heap.size, 0, none⟩ = some (.int .i64 m.kind) := (hb1.cell (p := ⟨w.heap.size, 0, none⟩) smx).trans kpx; have cl0_1 : w1.cell? ⟨w.heap.size, 1, none⟩ = some (.int .i64 m.validity) := (hb1.cell (p := ⟨w.heap.size, 1, none⟩) smx).trans kpx; have cl0_2 : w1.cell? ⟨w.heap.size, 2, none⟩ = some (.int .i64 m.uid) := (hb1.cell (p := ⟨w.heap.size, 2, none⟩) smx).trans kpx; have cl0_3 : w1.cell? ⟨w.heap.size, 3, none⟩ = some (.int .i64 m.flags) := (hb1.cell (p := ⟨w.heap.size, 3, none⟩) smx).trans kpx; have cl0_4 : w1.cell? ⟨w.heap.size, 4, none⟩ = some (.string m.name) := (hb1.cell (p := ⟨w.heap.size, 4, none⟩) smx).trans kpx; have cl0_5 : w1.cell? ⟨w.heap.size, 5, none⟩ = some (.string m.text) := (hb1.cell (p := ⟨w.heap.size, 5, none⟩) smx).trans kpx; have sl0 : w.heap.size < w1.heap.size := (by have hss := hb1.size; first | omega | (simp at hss; omega)); obtain ⟨⟨z0, d0⟩, e0⟩ := (show Own w1 B 73 4 (.slice (some ⟨g, 0, none⟩) l.length c) l.length (l.flatMap PBox.cells) from (by repeat' (first | with_reducible exact H.out.row | with_reducible refine Own.set_below ?_ smx _ | with_reducible refine Own.alloc1 ?_ _ | with_reducible refine Own.drew1 ?_ | with_reducible refine Own.drewN1 ?_ | with_reducible refine Own.ext ?_ (by assumption)))).slot (i * 4) (by omega); have hgw1 : g < w1.heap.size := (by have := hb1.size; first | omega | (simp at this; omega)); have H1 : Hid (OwnBs w1 B 73 78 (some ⟨g, 0, none⟩) c l) := OwnBs.ext H.out (show Below w.heap.size w w1 from bxt))
  have HX : Hid (OwnBs (w1.setCell ⟨g, i * 4 + 0, none⟩ (.string m.name)) B 73 78 (some ⟨g, 0, none⟩) c (l.set i ⟨m.name, l[i].validity, l[i].next, l[i].msgs, l[i].ma, l[i].mc⟩)) := H1.out.one hc hi (by omega) rfl rfl rfl
  have HBL : Hid (Chg (rowsB (some ⟨g, 0, none⟩) c l) w (w1.setCell ⟨g, i * 4 + 0, none⟩ (.string m.name))) := Chg.set (Chg.ext (show Ext w _ from bxt)) (Or.inl (by simp [foot, hc])) _
  refine (sortB_any (l.set i ⟨m.name, l[i].validity, l[i].next, l[i].msgs, l[i].ma, l[i].mc⟩) g c B (l.length) _ HX.out hc (by simp; omega) (by simp)).mono ?_
  rintro e w9 ⟨rfl, l9, h9a, h9b, h9c, h9d⟩
  have H9 := Lib.hid (And.intro h9a (And.intro h9b (And.intro h9c h9d)))
  clear h9a h9b h9c h9d
  go_wp2_with fail
  go_ret
  exact perf_end HBL.out (by exact NewR.set hi (fun k hk => Or.inl (Or.inr ⟨l[i].key, List.mem_map_of_mem (List.getElem_mem hi), (foot_len _ _ _ _).trans hk⟩))) HX.out H9.out.1 H9.out.2.1 H9.out.2.2.1 (by simp) H9.out.2.2.2 (by rw [List.map_set]; rfl)
end Go.Proofs.YtmnalediohghiaaGreat
