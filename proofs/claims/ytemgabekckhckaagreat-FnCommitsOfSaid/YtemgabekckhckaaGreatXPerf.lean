/-
  The program's perform at a creation, a deletion and a renaming.
  The program's perform at an appended message.
  The program's perform at changed flags and at a message removed.
  The program's perform at a message removed.
  The program's perform at any commit that applies.
-/
import Derived.Test.YtemgabekckhckaaGreatWPerf
import Derived.Test.YtemgabekckhckaaGreatXOwn
import Derived.IntWalk
import Derived.Test.YtemgabekckhckaaGreatWPlain
namespace Go.Proofs.YtemgabekckhckaaGreat
open Go.RowKit
set_option linter.unusedVariables false
set_option linter.unusedSimpArgs false

set_option maxRecDepth 100000 in
set_option maxHeartbeats 8000000 in
theorem perform1_any (l : List PBox) (a : Option Addr) (c B : Nat) (m : DCommit) (w : World) (h : OwnBs w B 32 60 a c l) (hl : l.length ≤ 4) (hB : B ≤ w.heap.size) (hk : m.kind = 1) :
    Calls Tryz.prog 43 #[.slice a l.length c, .agg #[.int .i64 m.kind, .int .i64 m.validity, .int .i64 m.uid, .int .i64 m.flags, .string m.name, .string m.text]] w (PerfPost B 32 60 (rowsB a c l) w (l.map PBox.box ++ [⟨m.name, m.validity, 1, []⟩])) := by
  obtain ⟨i0, hi0, hz0, hz1, hz2⟩ := info_parts info_Box
  obtain ⟨j0, hj0, hy0, hy1, hy2⟩ := info_parts info_Msg
  have H := Lib.hid h
  have k1 : (m.kind == 1) = true := by rw [hk]; rfl
  have HK := Lib.hid hk
  clear h hk
  obtain ⟨z, hz⟩ : ∃ z, boxWith m.validity (l.map PBox.box) = z := ⟨_, rfl⟩
  have HZ := Lib.hid hz
  go_enter Tryz.func43, Tryz.ntmps43
  go_wp2_with (first | (go_at_call 25; refine (implBoxWith_any l _ _ m.validity _ (H.out.rd.ext bxt) z HZ).mono ?_; rintro e w1 ⟨rfl, hb1⟩; have cl0_0 : w1.cell? ⟨w.heap.size, 0, none⟩ = some (.int .i64 m.kind) := (hb1.cell (p := ⟨w.heap.size, 0, none⟩) smx).trans kpx; have cl0_1 : w1.cell? ⟨w.heap.size, 1, none⟩ = some (.int .i64 m.validity) := (hb1.cell (p := ⟨w.heap.size, 1, none⟩) smx).trans kpx; have cl0_2 : w1.cell? ⟨w.heap.size, 2, none⟩ = some (.int .i64 m.uid) := (hb1.cell (p := ⟨w.heap.size, 2, none⟩) smx).trans kpx; have cl0_3 : w1.cell? ⟨w.heap.size, 3, none⟩ = some (.int .i64 m.flags) := (hb1.cell (p := ⟨w.heap.size, 3, none⟩) smx).trans kpx; have cl0_4 : w1.cell? ⟨w.heap.size, 4, none⟩ = some (.string m.name) := (hb1.cell (p := ⟨w.heap.size, 4, none⟩) smx).trans kpx; have cl0_5 : w1.cell? ⟨w.heap.size, 5, none⟩ = some (.string m.text) := (hb1.cell (p := ⟨w.heap.size, 5, none⟩) smx).trans kpx; have sl0 : w.heap.size < w1.heap.size := (by have hss := hb1.size; first | omega | (simp at hss; omega))) | (at_builtin; refine wpList_appL (B := B) (v := .slice a l.length c) (n := l.length) (xs := l.flatMap PBox.cells) (s := 4) rfl _ _ _ rfl 32 i0 _ _ Tryz.underlying24 hi0 hz0 hz1 hz2 rfl (by decide) rfl (by repeat' (first | with_reducible exact H.out.row | with_reducible refine Own.set_below ?_ smx _ | with_reducible refine Own.alloc1 ?_ _ | with_reducible refine Own.drew1 ?_ | with_reducible refine Own.drewN1 ?_ | with_reducible refine Own.ext ?_ (by assumption))) (some ⟨w1.heap.size, 0, none⟩) 1 1 [.string m.name, .int .i64 m.validity, .int .i64 1, .slice none 0 0] rfl (Rd.lit _ _ _ 1 4 _ (by first | rfl | simp) rfl (by omega)) (by simp [Value.oneCell']) (by omega) (by omega) smx ?_; intro g2 q2 w2 hown hg hw; have hb2 : Chg (rowsB a c l) w w2 := chg_foot (show Ext w _ from bxt) hg (fun k h => Or.inl h); have HNW : Hid (NewR (rowsB a c l) w g2 q2 (l ++ [⟨m.name, m.validity, 1, [], none, 0⟩])) := NewR.push hw (show Ext w _ from bxt).size rfl; have hp := OwnBs.push (z := ⟨m.name, m.validity, 1, [], none, 0⟩) (OwnBs.ext H.out (show Below w.heap.size w _ from bxt)) (Own.none0 _) (Or.inl rfl) (fun y hy => Off2.symm (Or.inl rfl)) hown hg hw; have HP := Lib.hid hp; have HBL := Lib.hid hb2; clear hown hg hw hp hb2))
  have hq : q2 ≠ 0 := by (have h := HP.out.row.cap; simp only [List.length_append, List.length_cons] at h; omega)
  obtain ⟨gb, rfl, -⟩ := HP.out.row.row hq
  refine (sortB_any (l ++ [⟨m.name, m.validity, 1, [], none, 0⟩]) gb q2 B (l.length + 1) _ HP.out hq (by simp; omega) (by simp)).mono ?_
  rintro e w9 ⟨rfl, l9, h9a, h9b, h9c, h9d⟩
  have H9 := Lib.hid (And.intro h9a (And.intro h9b (And.intro h9c h9d)))
  clear h9a h9b h9c h9d
  go_wp2_with fail
  go_ret
  exact perf_end HBL.out HNW.out HP.out H9.out.1 H9.out.2.1 H9.out.2.2.1 (by simp) H9.out.2.2.2 (by simp [PBox.box])

set_option maxRecDepth 100000 in
set_option maxHeartbeats 8000000 in
theorem perform2_any (l : List PBox) (a : Option Addr) (c B i : Nat) (m : DCommit) (w : World) (h : OwnBs w B 32 60 a c l) (hl : l.length ≤ 4) (hB : B ≤ w.heap.size) (hk : m.kind = 2) (hi : i < l.length) (hz : boxWith m.validity (l.map PBox.box) = i) :
    Calls Tryz.prog 43 #[.slice a l.length c, .agg #[.int .i64 m.kind, .int .i64 m.validity, .int .i64 m.uid, .int .i64 m.flags, .string m.name, .string m.text]] w (PerfPost B 32 60 (rowsB a c l) w ((l.map PBox.box).eraseIdx i)) := by
  obtain ⟨i0, hi0, hz0, hz1, hz2⟩ := info_parts info_Box
  obtain ⟨j0, hj0, hy0, hy1, hy2⟩ := info_parts info_Msg
  obtain ⟨hnc, hcm⟩ := h.row.cap
  have hc : c ≠ 0 := by omega
  obtain ⟨g, rfl, -⟩ := h.row.row hc
  have hgw : g < w.heap.size := (h.row.lt g (by simp [foot, hc])).2
  have H := Lib.hid h
  have HZ := Lib.hid hz
  have k1 : (m.kind == 1) = false := by rw [hk]; rfl
  have k2 : (m.kind == 2) = true := by rw [hk]; rfl
  have HK := Lib.hid hk
  have h10 : IntKind.i64.wrap ((i : Int) + 1) = (i : Int) + 1 := IntWalk.i64_in _ (by omega)
  have h11 : (i : Int) < (l.length : Int) := by omega
  have h12 : (0 : Int) ≤ (i : Int) := by omega
  clear h hk hz
  go_enter Tryz.func43, Tryz.ntmps43
  go_wp2_with (first | (go_at_call 25; refine (implBoxWith_any l _ _ m.validity _ (H.out.rd.ext bxt) (i : Int) HZ).mono ?_; rintro e w1 ⟨rfl, hb1⟩; have cl0_0 : w1.cell? ⟨w.heap.size, 0, none⟩ = some (.int .i64 m.kind) := (hb1.cell (p := ⟨w.heap.size, 0, none⟩) smx).trans kpx; have cl0_1 : w1.cell? ⟨w.heap.size, 1, none⟩ = some (.int .i64 m.validity) := (hb1.cell (p := ⟨w.heap.size, 1, none⟩) smx).trans kpx; have cl0_2 : w1.cell? ⟨w.heap.size, 2, none⟩ = some (.int .i64 m.uid) := (hb1.cell (p := ⟨w.heap.size, 2, none⟩) smx).trans kpx; have cl0_3 : w1.cell? ⟨w.heap.size, 3, none⟩ = some (.int .i64 m.flags) := (hb1.cell (p := ⟨w.heap.size, 3, none⟩) smx).trans kpx; have cl0_4 : w1.cell? ⟨w.heap.size, 4, none⟩ = some (.string m.name) := (hb1.cell (p := ⟨w.heap.size, 4, none⟩) smx).trans kpx; have cl0_5 : w1.cell? ⟨w.heap.size, 5, none⟩ = some (.string m.text) := (hb1.cell (p := ⟨w.heap.size, 5, none⟩) smx).trans kpx; have sl0 : w.heap.size < w1.heap.size := (by have hss := hb1.size; first | omega | (simp at hss; omega))) | (go_at_call 74; refine (deleteBoxS_any l (some ⟨g, 0, none⟩) c B i _ _ _ (by repeat' (first | with_reducible exact H.out.row | with_reducible refine Own.set_below ?_ smx _ | with_reducible refine Own.alloc1 ?_ _ | with_reducible refine Own.drew1 ?_ | with_reducible refine Own.drewN1 ?_ | with_reducible refine Own.ext ?_ (by assumption))) hi rfl (by omega) (by omega) (l.eraseIdx i) rfl).mono ?_; rintro e w2 ⟨rfl, hown, hg⟩; have hp := OwnBs.sub (OwnBs.ext H.out (show Below w.heap.size w _ from bxt)) (List.eraseIdx_sublist ..) hown hg; have hb2 : Chg (rowsB (some ⟨g, 0, none⟩) c l) w w2 := chg_foot (show Ext w _ from bxt) hg (fun k h => Or.inl h); have HP := Lib.hid hp; have HBL := Lib.hid hb2; clear hown hg hp hb2))
  refine (sortB_any (l.eraseIdx i) g c B ((l.eraseIdx i).length) _ HP.out hc (by rw [List.length_eraseIdx]; split <;> omega) rfl).mono ?_
  rintro e w9 ⟨rfl, l9, h9a, h9b, h9c, h9d⟩
  have H9 := Lib.hid (And.intro h9a (And.intro h9b (And.intro h9c h9d)))
  clear h9a h9b h9c h9d
  go_wp2_with fail
  go_ret
  exact perf_end HBL.out (by exact NewR.sub (List.eraseIdx_sublist ..)) HP.out H9.out.1 H9.out.2.1 H9.out.2.2.1 (by simp) H9.out.2.2.2 (by simp [List.eraseIdx_eq_take_drop_succ, List.map_take, List.map_drop])

set_option maxRecDepth 100000 in
set_option maxHeartbeats 8000000 in
theorem perform3_any (l : List PBox) (a : Option Addr) (c B i : Nat) (m : DCommit) (w : World) (h : OwnBs w B 32 60 a c l) (hl : l.length ≤ 4) (hB : B ≤ w.heap.size) (hk : m.kind = 3) (hi : i < l.length) (hz : boxWith m.validity (l.map PBox.box) = i) :
    Calls Tryz.prog 43 #[.slice a l.length c, .agg #[.int .i64 m.kind, .int .i64 m.validity, .int .i64 m.uid, .int .i64 m.flags, .string m.name, .string m.text]] w (PerfPost B 32 60 (rowsB a c l) w ((l.map PBox.box).set i ⟨m.name, l[i].validity, l[i].next, l[i].msgs⟩)) := by
  obtain ⟨i0, hi0, hz0, hz1, hz2⟩ := info_parts info_Box
  obtain ⟨j0, hj0, hy0, hy1, hy2⟩ := info_parts info_Msg
  obtain ⟨hnc, hcm⟩ := h.row.cap
  have hc : c ≠ 0 := by omega
  obtain ⟨g, rfl, -⟩ := h.row.row hc
  have hgw : g < w.heap.size := (h.row.lt g (by simp [foot, hc])).2
  have H := Lib.hid h
  have HZ := Lib.hid hz
  have k1 : (m.kind == 1) = false := by rw [hk]; rfl
  have k2 : (m.kind == 2) = false := by rw [hk]; rfl
  have k3 : (m.kind == 3) = true := by rw [hk]; rfl
  have HK := Lib.hid hk
  have h10 : IntKind.i64.wrap ((i : Int) + 1) = (i : Int) + 1 := IntWalk.i64_in _ (by omega)
  have h11 : (i : Int) < (l.length : Int) := by omega
  have h12 : (0 : Int) ≤ (i : Int) := by omega
  clear h hk hz
  go_enter Tryz.func43, Tryz.ntmps43
  go_wp2_with (go_at_call 25; refine (implBoxWith_any l _ _ m.validity _ (H.out.rd.ext bxt) (i : Int) HZ).mono ?_; rintro e w1 ⟨rfl, hb1⟩; have cl0_0 : w1.cell? ⟨w.heap.size, 0, none⟩ = some (.int .i64 m.kind) := (hb1.cell (p := ⟨w.heap.size, 0, none⟩) smx).trans kpx; have cl0_1 : w1.cell? ⟨w.heap.size, 1, none⟩ = some (.int .i64 m.validity) := (hb1.cell (p := ⟨w.heap.size, 1, none⟩) smx).trans kpx; have cl0_2 : w1.cell? ⟨w.heap.size, 2, none⟩ = some (.int .i64 m.uid) := (hb1.cell (p := ⟨w.heap.size, 2, none⟩) smx).trans kpx; have cl0_3 : w1.cell? ⟨w.heap.size, 3, none⟩ = some (.int .i64 m.flags) := (hb1.cell (p := ⟨w.heap.size, 3, none⟩) smx).trans kpx; have cl0_4 : w1.cell? ⟨w.heap.size, 4, none⟩ = some (.string m.name) := (hb1.cell (p := ⟨w.heap.size, 4, none⟩) smx).trans kpx; have cl0_5 : w1.cell? ⟨w.heap.size, 5, none⟩ = some (.string m.text) := (hb1.cell (p := ⟨w.heap.size, 5, none⟩) smx).trans kpx; have sl0 : w.heap.size < w1.heap.size := (by have hss := hb1.size; first | omega | (simp at hss; omega)); obtain ⟨⟨z0, d0⟩, e0⟩ := (show Own w1 B 32 4 (.slice (some ⟨g, 0, none⟩) l.length c) l.length (l.flatMap PBox.cells) from (by repeat' (first | with_reducible exact H.out.row | with_reducible refine Own.set_below ?_ smx _ | with_reducible refine Own.alloc1 ?_ _ | with_reducible refine Own.drew1 ?_ | with_reducible refine Own.drewN1 ?_ | with_reducible refine Own.ext ?_ (by assumption)))).slot (i * 4) (by omega); have hgw1 : g < w1.heap.size := (by have := hb1.size; first | omega | (simp at this; omega)); have H1 : Hid (OwnBs w1 B 32 60 (some ⟨g, 0, none⟩) c l) := OwnBs.ext H.out (show Below w.heap.size w w1 from bxt))
  have HX : Hid (OwnBs (w1.setCell ⟨g, i * 4 + 0, none⟩ (.string m.name)) B 32 60 (some ⟨g, 0, none⟩) c (l.set i ⟨m.name, l[i].validity, l[i].next, l[i].msgs, l[i].ma, l[i].mc⟩)) := H1.out.one hc hi (by omega) rfl rfl rfl
  have HBL : Hid (Chg (rowsB (some ⟨g, 0, none⟩) c l) w (w1.setCell ⟨g, i * 4 + 0, none⟩ (.string m.name))) := Chg.set (Chg.ext (show Ext w _ from bxt)) (Or.inl (by simp [foot, hc])) _
  refine (sortB_any (l.set i ⟨m.name, l[i].validity, l[i].next, l[i].msgs, l[i].ma, l[i].mc⟩) g c B (l.length) _ HX.out hc (by simp; omega) (by simp)).mono ?_
  rintro e w9 ⟨rfl, l9, h9a, h9b, h9c, h9d⟩
  have H9 := Lib.hid (And.intro h9a (And.intro h9b (And.intro h9c h9d)))
  clear h9a h9b h9c h9d
  go_wp2_with fail
  go_ret
  exact perf_end HBL.out (by exact NewR.set hi (fun k hk => Or.inl (Or.inr ⟨l[i].key, List.mem_map_of_mem (List.getElem_mem hi), (foot_len _ _ _ _).trans hk⟩))) HX.out H9.out.1 H9.out.2.1 H9.out.2.2.1 (by simp) H9.out.2.2.2 (by rw [List.map_set]; rfl)
end Go.Proofs.YtemgabekckhckaaGreat

namespace Go.Proofs.YtemgabekckhckaaGreat
open Go.RowKit
set_option linter.unusedVariables false
set_option linter.unusedSimpArgs false

set_option maxRecDepth 100000 in
set_option maxHeartbeats 8000000 in
theorem perform4_any (l : List PBox) (a : Option Addr) (c B i : Nat) (m : DCommit) (w : World) (h : OwnBs w B 32 60 a c l) (hl : l.length ≤ 4) (hB : B ≤ w.heap.size) (hk : m.kind = 4) (hi : i < l.length) (hz : boxWith m.validity (l.map PBox.box) = i) (hml : l[i].msgs.length ≤ 1048576) (hnx : -9223372036854775808 ≤ l[i].next ∧ l[i].next < 9223372036854775807) :
    Calls Tryz.prog 43 #[.slice a l.length c, .agg #[.int .i64 m.kind, .int .i64 m.validity, .int .i64 m.uid, .int .i64 m.flags, .string m.name, .string m.text]] w (PerfPost B 32 60 (rowsB a c l) w ((l.map PBox.box).set i ⟨l[i].name, l[i].validity, l[i].next + 1, l[i].msgs ++ [⟨m.uid, m.flags, m.text⟩]⟩)) := by
  obtain ⟨i0, hi0, hz0, hz1, hz2⟩ := info_parts info_Box
  obtain ⟨j0, hj0, hy0, hy1, hy2⟩ := info_parts info_Msg
  obtain ⟨hnc, hcm⟩ := h.row.cap
  have hc : c ≠ 0 := by omega
  obtain ⟨g, rfl, -⟩ := h.row.row hc
  have hgw : g < w.heap.size := (h.row.lt g (by simp [foot, hc])).2
  have H := Lib.hid h
  have HZ := Lib.hid hz
  have k1 : (m.kind == 1) = false := by rw [hk]; rfl
  have k2 : (m.kind == 2) = false := by rw [hk]; rfl
  have k3 : (m.kind == 3) = false := by rw [hk]; rfl
  have k4 : (m.kind == 4) = true := by rw [hk]; rfl
  have HK := Lib.hid hk
  have h10 : IntKind.i64.wrap ((i : Int) + 1) = (i : Int) + 1 := IntWalk.i64_in _ (by omega)
  have h11 : (i : Int) < (l.length : Int) := by omega
  have h12 : (0 : Int) ≤ (i : Int) := by omega
  have h13 : IntKind.i64.wrap (l[i].next + 1) = l[i].next + 1 := IntWalk.i64_in _ (by omega)
  clear h hk hz
  go_enter Tryz.func43, Tryz.ntmps43
  go_wp2_with (go_at_call 25; refine (implBoxWith_any l _ _ m.validity _ (H.out.rd.ext bxt) (i : Int) HZ).mono ?_; rintro e w1 ⟨rfl, hb1⟩; have cl0_0 : w1.cell? ⟨w.heap.size, 0, none⟩ = some (.int .i64 m.kind) := (hb1.cell (p := ⟨w.heap.size, 0, none⟩) smx).trans kpx; have cl0_1 : w1.cell? ⟨w.heap.size, 1, none⟩ = some (.int .i64 m.validity) := (hb1.cell (p := ⟨w.heap.size, 1, none⟩) smx).trans kpx; have cl0_2 : w1.cell? ⟨w.heap.size, 2, none⟩ = some (.int .i64 m.uid) := (hb1.cell (p := ⟨w.heap.size, 2, none⟩) smx).trans kpx; have cl0_3 : w1.cell? ⟨w.heap.size, 3, none⟩ = some (.int .i64 m.flags) := (hb1.cell (p := ⟨w.heap.size, 3, none⟩) smx).trans kpx; have cl0_4 : w1.cell? ⟨w.heap.size, 4, none⟩ = some (.string m.name) := (hb1.cell (p := ⟨w.heap.size, 4, none⟩) smx).trans kpx; have cl0_5 : w1.cell? ⟨w.heap.size, 5, none⟩ = some (.string m.text) := (hb1.cell (p := ⟨w.heap.size, 5, none⟩) smx).trans kpx; have sl0 : w.heap.size < w1.heap.size := (by have hss := hb1.size; first | omega | (simp at hss; omega)); have hgw1 : g < w1.heap.size := (by have := hb1.size; first | omega | (simp at this; omega)); have H1 : Hid (OwnBs w1 B 32 60 (some ⟨g, 0, none⟩) c l) := OwnBs.ext H.out (show Below w.heap.size w w1 from bxt); obtain ⟨x0, x1, x2, x3⟩ := H1.out.cells hi)
  go_upto_region 10 with fail
  go_cut [] (RefillC B 32 60 g c (rowsB (some ⟨g, 0, none⟩) c l) l i l[i].name l[i].validity l[i].next (l[i].msgs ++ [⟨m.uid, m.flags, m.text⟩]) w)
  case first =>
    first
    | go_region_law (((refine step_appL (B := B) (v := .slice l[i].ma l[i].msgs.length l[i].mc) (n := l[i].msgs.length) (xs := l[i].msgs.flatMap DMsg.cells) (s := 3) rfl (.tmp 46) (.tmp 54) 30 rfl 60 j0 _ _ Tryz.underlying30 hj0 hy0 hy1 hy2 rfl (by decide) rfl (by repeat' (first | with_reducible exact (H1.out.msg _ (List.getElem_mem hi)) | with_reducible refine Own.set_below ?_ smx _ | with_reducible refine Own.alloc1 ?_ _ | with_reducible refine Own.drew1 ?_ | with_reducible refine Own.drewN1 ?_ | with_reducible refine Own.ext ?_ (by assumption))) _ 1 1 [.int .i64 m.uid, .int .i64 m.flags, .string m.text] rfl (Rd.lit w1.drew #[.int .i64 m.uid, .int .i64 m.flags, .string m.text] 60 1 3 w1.heap.size rfl rfl (by omega)) (by simp [Value.oneCell']) (by omega) (by omega) smx ?_; intro g2 q2 w5 hown hg hw; obtain ⟨⟨u3, y3⟩, z3⟩ := OwnBs.slotx (OwnBs.ext H1.out (show Below w1.heap.size w1 _ from bxt)) hc hi 3 (by omega) hg)))
    | fail
    all_goals go_wp2_with fail
    all_goals go_meet
    all_goals exact ⟨g2, q2, OwnBs.msgs (OwnBs.ext H1.out (show Below w1.heap.size w1 _ from bxt)) hc hi _ (by simp) hg (by rw [List.flatMap_append]; exact hown) (fun k hk => (hw k hk).imp_right (fun h => Nat.le_of_eq h.symm)), Chg.set (chg_foot (show Ext w _ from bxt) hg (fun k h => Or.inr ⟨l[i].key, List.mem_map_of_mem (List.getElem_mem hi), h⟩)) (Or.inl (by simp [foot, hc])) _, fun k hk => (hw k ((foot_len _ _ _ _).trans hk)).elim (fun h => Or.inl (Or.inr ⟨l[i].key, List.mem_map_of_mem (List.getElem_mem hi), h⟩)) (fun h => Or.inr (by rw [h]; exact (show Ext w _ from bxt).size))⟩
  case rest =>
    obtain ⟨g2, q2, hx, hbl, hnw⟩ := hcut
    have HNW := Lib.hid hnw
    clear hnw
    have H2 := Lib.hid hx
    have hi2 : i < (l.set i ⟨l[i].name, l[i].validity, l[i].next, l[i].msgs ++ [⟨m.uid, m.flags, m.text⟩], g2, q2⟩).length := by simpa using hi
    obtain ⟨v0, v1, v2, v3⟩ := hx.cells hi2
    obtain ⟨-, z3⟩ := hx.slot hc hi2 2 (by omega)
    simp only [List.getElem_set_self] at v0 v1 v2 v3
    have HBL := Lib.hid hbl
    clear hx hbl
    go_wp2_with fail
    have HX : Hid (OwnBs (wc.setCell ⟨g, i * 4 + 2, none⟩ (.int .i64 (l[i].next + 1))) B 32 60 (some ⟨g, 0, none⟩) c (l.set i ⟨l[i].name, l[i].validity, l[i].next + 1, l[i].msgs ++ [⟨m.uid, m.flags, m.text⟩], g2, q2⟩)) := by
      have h := H2.out.one hc hi2 (z := ⟨l[i].name, l[i].validity, l[i].next + 1, l[i].msgs ++ [⟨m.uid, m.flags, m.text⟩], g2, q2⟩) (o := 2) (u := .int .i64 (l[i].next + 1)) (by omega) (by simp [PBox.cells]) (by simp [PBox.key]) (by simp)
      rwa [List.set_set] at h
    have HBL2 : Hid (Chg (rowsB (some ⟨g, 0, none⟩) c l) w (wc.setCell ⟨g, i * 4 + 2, none⟩ (.int .i64 (l[i].next + 1)))) := Chg.set HBL.out (Or.inl (by simp [foot, hc])) _
    refine (sortB_any (l.set i ⟨l[i].name, l[i].validity, l[i].next + 1, l[i].msgs ++ [⟨m.uid, m.flags, m.text⟩], g2, q2⟩) g c B (l.length) _ HX.out hc (by simp; omega) (by simp)).mono ?_
    rintro e w9 ⟨rfl, l9, h9a, h9b, h9c, h9d⟩
    have H9 := Lib.hid (And.intro h9a (And.intro h9b (And.intro h9c h9d)))
    clear h9a h9b h9c h9d
    go_wp2_with fail
    go_ret
    exact perf_end HBL2.out (by exact NewR.set hi (fun k hk => HNW.out k hk)) HX.out H9.out.1 H9.out.2.1 H9.out.2.2.1 (by simp) H9.out.2.2.2 (by rw [List.map_set]; rfl)
end Go.Proofs.YtemgabekckhckaaGreat

namespace Go.Proofs.YtemgabekckhckaaGreat
open Go.RowKit
set_option linter.unusedVariables false
set_option linter.unusedSimpArgs false

theorem wp_then {P : Program} {c : Code} {Q : Exit → Act → World → Prop} {a : Act} {w : World} (h : ∀ K : Act → World → Prop, K = (fun a w => Q .normal a w) → Code.wp P c (Exit.then K Q) a w) : Code.wp P c Q a w :=
  Code.wp_mono (fun e a w hq => by cases e <;> exact hq) (h _ rfl)

set_option maxRecDepth 100000 in
set_option maxHeartbeats 8000000 in
theorem perform5_any (l : List PBox) (a : Option Addr) (c B i : Nat) (m : DCommit) (w : World) (h : OwnBs w B 32 60 a c l) (hl : l.length ≤ 4) (hB : B ≤ w.heap.size) (hk : m.kind = 5) (hi : i < l.length) (hz : boxWith m.validity (l.map PBox.box) = i) (p : Nat) (hpp : p < l[i].msgs.length) (hplc : placeOf m.uid l[i].msgs = (p : Int)) (hml : l[i].msgs.length ≤ 1048576) :
    Calls Tryz.prog 43 #[.slice a l.length c, .agg #[.int .i64 m.kind, .int .i64 m.validity, .int .i64 m.uid, .int .i64 m.flags, .string m.name, .string m.text]] w (PerfPost B 32 60 (rowsB a c l) w ((l.map PBox.box).set i ⟨l[i].name, l[i].validity, l[i].next, l[i].msgs.set p ⟨l[i].msgs[p].uid, m.flags, l[i].msgs[p].text⟩⟩)) := by
  obtain ⟨i0, hi0, hz0, hz1, hz2⟩ := info_parts info_Box
  obtain ⟨j0, hj0, hy0, hy1, hy2⟩ := info_parts info_Msg
  obtain ⟨hnc, hcm⟩ := h.row.cap
  have hc : c ≠ 0 := by omega
  obtain ⟨g, rfl, -⟩ := h.row.row hc
  have hgw : g < w.heap.size := (h.row.lt g (by simp [foot, hc])).2
  have H := Lib.hid h
  have HZ := Lib.hid hz
  have k1 : (m.kind == 1) = false := by rw [hk]; rfl
  have k2 : (m.kind == 2) = false := by rw [hk]; rfl
  have k3 : (m.kind == 3) = false := by rw [hk]; rfl
  have k4 : (m.kind == 4) = false := by rw [hk]; rfl
  have k5 : (m.kind == 5) = true := by rw [hk]; rfl
  have HK := Lib.hid hk
  have h10 : IntKind.i64.wrap ((i : Int) + 1) = (i : Int) + 1 := IntWalk.i64_in _ (by omega)
  have h11 : (i : Int) < (l.length : Int) := by omega
  have h12 : (0 : Int) ≤ (i : Int) := by omega
  have hmr := h.msg _ (List.getElem_mem hi)
  obtain ⟨hmn, hmm⟩ := hmr.cap
  have hmc : l[i].mc ≠ 0 := by omega
  obtain ⟨gm, hgm, -⟩ := hmr.row hmc
  have hgml := hmr.lt gm (by simp [foot, hgm, hmc])
  have HPL := Lib.hid hplc
  clear hmr hplc
  have h14 : IntKind.i64.wrap ((p : Int) + 1) = (p : Int) + 1 := IntWalk.i64_in _ (by omega)
  have h15 : (p : Int) < (l[i].msgs.length : Int) := by omega
  have h16 : (0 : Int) ≤ (p : Int) := by omega
  clear h hk hz
  go_enter Tryz.func43, Tryz.ntmps43
  go_wp2_with (go_at_call 25; refine (implBoxWith_any l _ _ m.validity _ (H.out.rd.ext bxt) (i : Int) HZ).mono ?_; rintro e w1 ⟨rfl, hb1⟩; have cl0_0 : w1.cell? ⟨w.heap.size, 0, none⟩ = some (.int .i64 m.kind) := (hb1.cell (p := ⟨w.heap.size, 0, none⟩) smx).trans kpx; have cl0_1 : w1.cell? ⟨w.heap.size, 1, none⟩ = some (.int .i64 m.validity) := (hb1.cell (p := ⟨w.heap.size, 1, none⟩) smx).trans kpx; have cl0_2 : w1.cell? ⟨w.heap.size, 2, none⟩ = some (.int .i64 m.uid) := (hb1.cell (p := ⟨w.heap.size, 2, none⟩) smx).trans kpx; have cl0_3 : w1.cell? ⟨w.heap.size, 3, none⟩ = some (.int .i64 m.flags) := (hb1.cell (p := ⟨w.heap.size, 3, none⟩) smx).trans kpx; have cl0_4 : w1.cell? ⟨w.heap.size, 4, none⟩ = some (.string m.name) := (hb1.cell (p := ⟨w.heap.size, 4, none⟩) smx).trans kpx; have cl0_5 : w1.cell? ⟨w.heap.size, 5, none⟩ = some (.string m.text) := (hb1.cell (p := ⟨w.heap.size, 5, none⟩) smx).trans kpx; have sl0 : w.heap.size < w1.heap.size := (by have hss := hb1.size; first | omega | (simp at hss; omega)); have hgw1 : g < w1.heap.size := (by have := hb1.size; first | omega | (simp at this; omega)); have H1 : Hid (OwnBs w1 B 32 60 (some ⟨g, 0, none⟩) c l) := OwnBs.ext H.out (show Below w.heap.size w w1 from bxt); obtain ⟨x0, x1, x2, x3⟩ := H1.out.cells hi; have HM1 : Hid (Own w1 B 60 3 (.slice (some ⟨gm, 0, none⟩) l[i].msgs.length l[i].mc) l[i].msgs.length (l[i].msgs.flatMap DMsg.cells)) := (by have hq := H1.out.msg l[i] (List.getElem_mem hi); rw [hgm] at hq; exact hq); rw [hgm] at x3)
  go_upto_region 13 with fail
  refine wp_then (fun K0 hK0 => ?_)
  go_cut [] (RefillC B 32 60 g c (rowsB (some ⟨g, 0, none⟩) c l) l i l[i].name l[i].validity l[i].next (l[i].msgs.set p ⟨l[i].msgs[p].uid, m.flags, l[i].msgs[p].text⟩) w)
  case first =>
    first
    | go_region_law ((go_simp; (go_at_call 75; refine (implPlaceOf_any l[i].name l[i].validity l[i].next l[i].msgs _ _ m.uid _ (Rd.of_Own (Own.ext HM1.out (show Below w1.heap.size w1 _ from bxt))) (p : Int) HPL).mono ?_; rintro e w3 ⟨rfl, hb3⟩; have hb13 : Below w1.heap.size w1 w3 := bxt; obtain ⟨⟨u3, y3⟩, z3⟩ := (Own.ext HM1.out hb13).slot (p * 3 + 1) (by omega); have HM3 := Lib.hid (Own.ext HM1.out hb13); have HB3 := Lib.hid hb13; have hb13f : Below w1.heap.size w1 w3 := hb13; obtain ⟨v0, v1, v2, v3⟩ := (OwnBs.ext H1.out hb13).cells hi; rw [hgm] at v3; have cn0_0 : w3.cell? ⟨w.heap.size, 0, none⟩ = some (.int .i64 m.kind) := (hb13f.cell (p := ⟨w.heap.size, 0, none⟩) smx).trans kpx; have cn0_1 : w3.cell? ⟨w.heap.size, 1, none⟩ = some (.int .i64 m.validity) := (hb13f.cell (p := ⟨w.heap.size, 1, none⟩) smx).trans kpx; have cn0_2 : w3.cell? ⟨w.heap.size, 2, none⟩ = some (.int .i64 m.uid) := (hb13f.cell (p := ⟨w.heap.size, 2, none⟩) smx).trans kpx; have cn0_3 : w3.cell? ⟨w.heap.size, 3, none⟩ = some (.int .i64 m.flags) := (hb13f.cell (p := ⟨w.heap.size, 3, none⟩) smx).trans kpx; have cn0_4 : w3.cell? ⟨w.heap.size, 4, none⟩ = some (.string m.name) := (hb13f.cell (p := ⟨w.heap.size, 4, none⟩) smx).trans kpx; have cn0_5 : w3.cell? ⟨w.heap.size, 5, none⟩ = some (.string m.text) := (hb13f.cell (p := ⟨w.heap.size, 5, none⟩) smx).trans kpx; have sn0 : w.heap.size < w3.heap.size := (by have hss := hb13f.size; first | omega | (simp at hss; omega)))))
    | fail
    all_goals go_wp2_with fail
    all_goals go_meet
    all_goals exact ⟨l[i].ma, l[i].mc, OwnBs.tail (OwnBs.ext H1.out HB3.out) hi _ (by simp) (by rw [hgm]; exact Own.put1 HM3.out hmc (flat_set1 DMsg.cells_len l[i].msgs p 1 hpp (by omega) (.int .i64 m.flags) ⟨l[i].msgs[p].uid, m.flags, l[i].msgs[p].text⟩ (by simp [DMsg.cells]))) (grown_so (World.grownBy.refl _ _) (by simp [PBox.key, foot, hgm, hmc]) _), Chg.set (Chg.ext (show Ext w _ from bxt)) (Or.inr ⟨l[i].key, List.mem_map_of_mem (List.getElem_mem hi), by simp [PBox.key, foot, hgm, hmc]⟩) _, fun k hk => Or.inl (Or.inr ⟨l[i].key, List.mem_map_of_mem (List.getElem_mem hi), (foot_len _ _ _ _).trans hk⟩)⟩
  case rest =>
    subst hK0
    obtain ⟨g2, q2, hx, hbl, hnw⟩ := hcut
    have HNW := Lib.hid hnw
    clear hnw
    have H2 := Lib.hid hx
    have HBL := Lib.hid hbl
    clear hx hbl
    simp only [Exit.inBlock, Exit.then]
    go_wp2_with fail
    refine (sortB_any (l.set i ⟨l[i].name, l[i].validity, l[i].next, l[i].msgs.set p ⟨l[i].msgs[p].uid, m.flags, l[i].msgs[p].text⟩, g2, q2⟩) g c B (l.length) _ H2.out hc (by simp; omega) (by simp)).mono ?_
    rintro e w9 ⟨rfl, l9, h9a, h9b, h9c, h9d⟩
    have H9 := Lib.hid (And.intro h9a (And.intro h9b (And.intro h9c h9d)))
    clear h9a h9b h9c h9d
    go_wp2_with fail
    go_ret
    exact perf_end HBL.out (by exact NewR.set hi (fun k hk => HNW.out k hk)) H2.out H9.out.1 H9.out.2.1 H9.out.2.2.1 (by simp) H9.out.2.2.2 (by rw [List.map_set]; rfl)
end Go.Proofs.YtemgabekckhckaaGreat

namespace Go.Proofs.YtemgabekckhckaaGreat
open Go.RowKit
set_option linter.unusedVariables false
set_option linter.unusedSimpArgs false

set_option maxRecDepth 100000 in
set_option maxHeartbeats 8000000 in
theorem perform6_any (l : List PBox) (a : Option Addr) (c B i : Nat) (m : DCommit) (w : World) (h : OwnBs w B 32 60 a c l) (hl : l.length ≤ 4) (hB : B ≤ w.heap.size) (hk : m.kind = 6) (hi : i < l.length) (hz : boxWith m.validity (l.map PBox.box) = i) (p : Nat) (hpp : p < l[i].msgs.length) (hplc : placeOf m.uid l[i].msgs = (p : Int)) (hml : l[i].msgs.length ≤ 1048576) :
    Calls Tryz.prog 43 #[.slice a l.length c, .agg #[.int .i64 m.kind, .int .i64 m.validity, .int .i64 m.uid, .int .i64 m.flags, .string m.name, .string m.text]] w (PerfPost B 32 60 (rowsB a c l) w ((l.map PBox.box).set i ⟨l[i].name, l[i].validity, l[i].next, l[i].msgs.eraseIdx p⟩)) := by
  obtain ⟨i0, hi0, hz0, hz1, hz2⟩ := info_parts info_Box
  obtain ⟨j0, hj0, hy0, hy1, hy2⟩ := info_parts info_Msg
  obtain ⟨hnc, hcm⟩ := h.row.cap
  have hc : c ≠ 0 := by omega
  obtain ⟨g, rfl, -⟩ := h.row.row hc
  have hgw : g < w.heap.size := (h.row.lt g (by simp [foot, hc])).2
  have H := Lib.hid h
  have HZ := Lib.hid hz
  have k1 : (m.kind == 1) = false := by rw [hk]; rfl
  have k2 : (m.kind == 2) = false := by rw [hk]; rfl
  have k3 : (m.kind == 3) = false := by rw [hk]; rfl
  have k4 : (m.kind == 4) = false := by rw [hk]; rfl
  have k5 : (m.kind == 5) = false := by rw [hk]; rfl
  have k6 : (m.kind == 6) = true := by rw [hk]; rfl
  have HK := Lib.hid hk
  have h10 : IntKind.i64.wrap ((i : Int) + 1) = (i : Int) + 1 := IntWalk.i64_in _ (by omega)
  have h11 : (i : Int) < (l.length : Int) := by omega
  have h12 : (0 : Int) ≤ (i : Int) := by omega
  have hmr := h.msg _ (List.getElem_mem hi)
  obtain ⟨hmn, hmm⟩ := hmr.cap
  have hmc : l[i].mc ≠ 0 := by omega
  obtain ⟨gm, hgm, -⟩ := hmr.row hmc
  have hgml := hmr.lt gm (by simp [foot, hgm, hmc])
  have HPL := Lib.hid hplc
  clear hmr hplc
  have h14 : IntKind.i64.wrap ((p : Int) + 1) = (p : Int) + 1 := IntWalk.i64_in _ (by omega)
  have h15 : (p : Int) < (l[i].msgs.length : Int) := by omega
  have h16 : (0 : Int) ≤ (p : Int) := by omega
  clear hgml hgm
  clear h hk hz
  go_enter Tryz.func43, Tryz.ntmps43
  go_wp2_with (go_at_call 25; refine (implBoxWith_any l _ _ m.validity _ (H.out.rd.ext bxt) (i : Int) HZ).mono ?_; rintro e w1 ⟨rfl, hb1⟩; have cl0_0 : w1.cell? ⟨w.heap.size, 0, none⟩ = some (.int .i64 m.kind) := (hb1.cell (p := ⟨w.heap.size, 0, none⟩) smx).trans kpx; have cl0_1 : w1.cell? ⟨w.heap.size, 1, none⟩ = some (.int .i64 m.validity) := (hb1.cell (p := ⟨w.heap.size, 1, none⟩) smx).trans kpx; have cl0_2 : w1.cell? ⟨w.heap.size, 2, none⟩ = some (.int .i64 m.uid) := (hb1.cell (p := ⟨w.heap.size, 2, none⟩) smx).trans kpx; have cl0_3 : w1.cell? ⟨w.heap.size, 3, none⟩ = some (.int .i64 m.flags) := (hb1.cell (p := ⟨w.heap.size, 3, none⟩) smx).trans kpx; have cl0_4 : w1.cell? ⟨w.heap.size, 4, none⟩ = some (.string m.name) := (hb1.cell (p := ⟨w.heap.size, 4, none⟩) smx).trans kpx; have cl0_5 : w1.cell? ⟨w.heap.size, 5, none⟩ = some (.string m.text) := (hb1.cell (p := ⟨w.heap.size, 5, none⟩) smx).trans kpx; have sl0 : w.heap.size < w1.heap.size := (by have hss := hb1.size; first | omega | (simp at hss; omega)); have hgw1 : g < w1.heap.size := (by have := hb1.size; first | omega | (simp at this; omega)); have H1 : Hid (OwnBs w1 B 32 60 (some ⟨g, 0, none⟩) c l) := OwnBs.ext H.out (show Below w.heap.size w w1 from bxt); obtain ⟨x0, x1, x2, x3⟩ := H1.out.cells hi; have HM1 : Hid (Own w1 B 60 3 (.slice l[i].ma l[i].msgs.length l[i].mc) l[i].msgs.length (l[i].msgs.flatMap DMsg.cells)) := (by have hq := H1.out.msg l[i] (List.getElem_mem hi); exact hq))
  go_region_held3 (fun w' => Below w1.heap.size w1 w' ∧ (∀ b o, b < w1.heap.size → w'.cell? ⟨b, o, none⟩ = w1.cell? ⟨b, o, none⟩)) (first | with_reducible exact sBeg _ | with_reducible exact sExt (by assumption) (by assumption)) ((go_at_call 75; refine (implPlaceOf_any l[i].name l[i].validity l[i].next l[i].msgs _ _ m.uid _ (Rd.of_Own (Own.ext HM1.out (show Below w1.heap.size w1 _ from bxt))) (p : Int) HPL).mono ?_; rintro e w3 ⟨rfl, hb3⟩; have hb13 : Below w1.heap.size w1 w3 := bxt; obtain ⟨v0, v1, v2, v3⟩ := (OwnBs.ext H1.out hb13).cells hi))
  go_wp2_with (go_at_call 76; refine (deleteMsgS_any l[i].msgs l[i].ma l[i].mc B p _ _ _ (by repeat' (first | with_reducible exact (H1.out.msg _ (List.getElem_mem hi)) | with_reducible refine Own.set_below ?_ smx _ | with_reducible refine Own.alloc1 ?_ _ | with_reducible refine Own.drew1 ?_ | with_reducible refine Own.drewN1 ?_ | with_reducible refine Own.ext ?_ (by assumption))) hpp rfl (by omega) (by omega) (l[i].msgs.eraseIdx p) rfl).mono ?_; rintro e w5 ⟨rfl, hown, hg⟩; obtain ⟨⟨u5, y5⟩, z5⟩ := OwnBs.slotx (OwnBs.ext H1.out (show Below w1.heap.size w1 _ from bxt)) hc hi 3 (by omega) hg; have HOW := Lib.hid hown; have HGG := Lib.hid hg; have HB5 : Hid (Chg (rowsB (some ⟨g, 0, none⟩) c l) w w5) := chg_foot (show Ext w _ from bxt) hg (fun k h => Or.inr ⟨l[i].key, List.mem_map_of_mem (List.getElem_mem hi), h⟩); clear hown hg)
  have HX : Hid (OwnBs (w5.setCell ⟨g, i * 4 + 3, none⟩ (.slice l[i].ma (l[i].msgs.eraseIdx p).length l[i].mc)) B 32 60 (some ⟨g, 0, none⟩) c (l.set i ⟨l[i].name, l[i].validity, l[i].next, l[i].msgs.eraseIdx p, l[i].ma, l[i].mc⟩)) :=
    OwnBs.msgs (OwnBs.ext H1.out (show Below w1.heap.size w1 _ from bxt)) hc hi _ rfl HGG.out HOW.out (fun k hk => Or.inl ((show foot l[i].key = foot (.slice l[i].ma (l[i].msgs.eraseIdx p).length l[i].mc) from foot_len _ _ _ _).trans hk))
  have HBL : Hid (Chg (rowsB (some ⟨g, 0, none⟩) c l) w (w5.setCell ⟨g, i * 4 + 3, none⟩ (.slice l[i].ma (l[i].msgs.eraseIdx p).length l[i].mc))) := Chg.set HB5.out (Or.inl (by simp [foot, hc])) _
  refine (sortB_any (l.set i ⟨l[i].name, l[i].validity, l[i].next, l[i].msgs.eraseIdx p, l[i].ma, l[i].mc⟩) g c B (l.length) _ HX.out hc (by simp; omega) (by simp)).mono ?_
  rintro e w9 ⟨rfl, l9, h9a, h9b, h9c, h9d⟩
  have H9 := Lib.hid (And.intro h9a (And.intro h9b (And.intro h9c h9d)))
  clear h9a h9b h9c h9d
  go_wp2_with fail
  go_ret
  exact perf_end HBL.out (by exact NewR.set hi (fun k hk => Or.inl (Or.inr ⟨l[i].key, List.mem_map_of_mem (List.getElem_mem hi), (foot_len _ _ _ _).trans hk⟩))) HX.out H9.out.1 H9.out.2.1 H9.out.2.2.1 (by simp) H9.out.2.2.2 (by rw [List.map_set]; rfl)
end Go.Proofs.YtemgabekckhckaaGreat

namespace Go.Proofs.YtemgabekckhckaaGreat
open Go.RowKit
set_option linter.unusedVariables false
set_option linter.unusedSimpArgs false

theorem kind_of {m : DCommit} (h : CommitP m) : m.kind = 1 ∨ m.kind = 2 ∨ m.kind = 3 ∨ m.kind = 4 ∨ m.kind = 5 ∨ m.kind = 6 := by
  unfold CommitP CommitK at h
  omega
theorem place_of {u : Int} {l : List DMsg} (h : 0 ≤ placeOf u l) : pl u l < l.length ∧ placeOf u l = (pl u l : Nat) := by
  have := firstI_range (fun m : DMsg => decide (m.uid = u)) l
  have h2 : placeOf u l < l.length := this.2
  unfold pl
  omega
theorem perform_chg (l : List PBox) (a : Option Addr) (c B : Nat) (m : DCommit) (w : World) (h : OwnBs w B 32 60 a c l) (hB : B ≤ w.heap.size) (hap : AppliesP (l.map PBox.box) m) :
    Calls Tryz.prog 43 #[.slice a l.length c, .agg #[.int .i64 m.kind, .int .i64 m.validity, .int .i64 m.uid, .int .i64 m.flags, .string m.name, .string m.text]] w fun e w' => ∃ g q l', e = .returned (.slice g l'.length q) ∧ OwnBs w' B 32 60 g q l' ∧ l'.map PBox.box = appD (l.map PBox.box) m ∧ Chg (rowsB a c l) w w' ∧ NewR (rowsB a c l) w g q l' := by
  obtain ⟨hb, hc, hf⟩ := hap
  have hl : l.length ≤ 4 := by simpa using hb.2
  have hp := appD_perm hb hf
  have hpost : Calls Tryz.prog 43 #[.slice a l.length c, .agg #[.int .i64 m.kind, .int .i64 m.validity, .int .i64 m.uid, .int .i64 m.flags, .string m.name, .string m.text]] w (PerfPost B 32 60 (rowsB a c l) w (perfD (l.map PBox.box) m)) := by
    by_cases h1 : m.kind = 1
    · have := perform1_any l a c B m w h hl hB h1
      unfold perfD
      rwa [if_pos h1]
    obtain ⟨i, hi, hz, h3, h4, h5⟩ := hf.2 h1
    have hi' : i < l.length := by simpa using hi
    have ha : atD (l.map PBox.box) m = i := by unfold atD; omega
    have ht : theD (l.map PBox.box) i = ⟨l[i].name, l[i].validity, l[i].next, l[i].msgs⟩ := by rw [theD_of hi]; simp [PBox.box]
    have hmsg : l[i].msgs.length ≤ 6 := by
      obtain ⟨h0, h6, -⟩ := hb.1 i hi
      simpa [PBox.box] using h6.2.2.2.1
    have hnx : 1 ≤ l[i].next ∧ l[i].next ≤ 999999999 := by
      obtain ⟨h0, h6, -⟩ := hb.1 i hi
      simpa [PBox.box] using h6.2.2.1
    unfold perfD
    rw [if_neg h1, ha, ht]
    by_cases h2 : m.kind = 2
    · rw [if_pos h2]
      exact perform2_any l a c B i m w h hl hB h2 hi' hz
    rw [if_neg h2]
    unfold newD
    by_cases h3k : m.kind = 3
    · rw [if_pos h3k]
      exact perform3_any l a c B i m w h hl hB h3k hi' hz
    rw [if_neg h3k]
    by_cases h4k : m.kind = 4
    · rw [if_pos h4k]
      exact perform4_any l a c B i m w h hl hB h4k hi' hz (by omega) (by omega)
    rw [if_neg h4k]
    by_cases h5k : m.kind = 5
    · rw [if_pos h5k]
      have h7 : 0 ≤ placeOf m.uid l[i].msgs := by simpa [PBox.box] using h5 (Or.inl h5k)
      obtain ⟨h8, h9⟩ := place_of h7
      have := perform5_any l a c B i m w h hl hB h5k hi' hz (pl m.uid l[i].msgs) h8 h9 (by omega)
      rwa [theM_of h8]
    rw [if_neg h5k]
    have h6k : m.kind = 6 := by have := kind_of hc; omega
    have h7 : 0 ≤ placeOf m.uid l[i].msgs := by simpa [PBox.box] using h5 (Or.inr h6k)
    obtain ⟨h8, h9⟩ := place_of h7
    exact perform6_any l a c B i m w h hl hB h6k hi' hz (pl m.uid l[i].msgs) h8 h9 (by omega)
  refine hpost.mono ?_
  rintro e w' ⟨g, q, l', rfl, ho, hpm, hs, hbl⟩
  exact ⟨g, q, l', rfl, ho, rise_unique hpm hp.1 hp.2 (sort_pair hs), hbl⟩
theorem perform_any (l : List PBox) (a : Option Addr) (c B : Nat) (m : DCommit) (w : World) (h : OwnBs w B 32 60 a c l) (hB : B ≤ w.heap.size) (hap : AppliesP (l.map PBox.box) m) :
    Calls Tryz.prog 43 #[.slice a l.length c, .agg #[.int .i64 m.kind, .int .i64 m.validity, .int .i64 m.uid, .int .i64 m.flags, .string m.name, .string m.text]] w fun e w' => ∃ g q l', e = .returned (.slice g l'.length q) ∧ OwnBs w' B 32 60 g q l' ∧ l'.map PBox.box = appD (l.map PBox.box) m ∧ Below B w w' :=
  (perform_chg l a c B m w h hB hap).mono fun e w' ⟨g, q, l', he, ho, hd, hc, hn⟩ => ⟨g, q, l', he, ho, hd, hc.below (fun k hk => (h.rows_lt k hk).1) hB⟩
end Go.Proofs.YtemgabekckhckaaGreat
