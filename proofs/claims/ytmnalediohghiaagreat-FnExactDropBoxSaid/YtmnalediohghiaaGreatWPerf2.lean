/-
  The program's perform at an appended message.
-/
import Derived.Test.YtmnalediohghiaaGreatWPerf
import Derived.Test.YtmnalediohghiaaGreatXOwn
import Derived.IntWalk
namespace Go.Proofs.YtmnalediohghiaaGreat
open Go.RowKit
set_option linter.unusedVariables false
set_option linter.unusedSimpArgs false

set_option maxRecDepth 100000 in
set_option maxHeartbeats 8000000 in
theorem perform4_any (l : List PBox) (a : Option Addr) (c B i : Nat) (m : DCommit) (w : World) (h : OwnBs w B 73 78 a c l) (hl : l.length ≤ 4) (hB : B ≤ w.heap.size) (hk : m.kind = 4) (hi : i < l.length) (hz : boxWith m.validity (l.map PBox.box) = i) (hml : l[i].msgs.length ≤ 1048576) (hnx : -9223372036854775808 ≤ l[i].next ∧ l[i].next < 9223372036854775807) :
    Calls Tryz.prog 91 #[.slice a l.length c, .agg #[.int .i64 m.kind, .int .i64 m.validity, .int .i64 m.uid, .int .i64 m.flags, .string m.name, .string m.text]] w (PerfPost B 73 78 (rowsB a c l) w ((l.map PBox.box).set i ⟨l[i].name, l[i].validity, l[i].next + 1, l[i].msgs ++ [⟨m.uid, m.flags, m.text⟩]⟩)) := by
  obtain ⟨i0, hi0, hz0, hz1, hz2⟩ := info_parts info_Box
  obtain ⟨j0, hj0, hy0, hy1, hy2⟩ := info_parts info_Msg
  obtain ⟨hnc, hcm⟩ := h.row.cap
  have hc : c ≠ 0 := by omega
  obtain ⟨g, rfl, -⟩ := h.row.row hc
  have hgw : g < w.heap.size := (h.row.lt g (by simp [foot, hc])).2
  have H := Lib.hid h
  have HZ := Lib.hid hz
  have k1 : (m.kind == 1) = false := by rw [hk]; rfl
  have k2 : (m.kind == 2) = false := by rw [hk]; rfl
  have k3 : (m.kind == 3) = false := by rw [hk]; rfl
  have k4 : (m.kind == 4) = true := by rw [hk]; rfl
  have HK := Lib.hid hk
  have h10 : IntKind.i64.wrap ((i : Int) + 1) = (i : Int) + 1 := IntWalk.i64_in _ (by omega)
  have h11 : (i : Int) < (l.length : Int) := by omega
  have h12 : (0 : Int) ≤ (i : Int) := by omega
  have h13 : IntKind.i64.wrap (l[i].next + 1) = l[i].next + 1 := IntWalk.i64_in _ (by omega)
  clear h hk hz
  go_enter Tryz.func91, Tryz.ntmps91
  go_wp2_with (go_at_call 64; refine (implBoxWith_any l _ _ m.validity _ (H.out.rd.ext bxt) (i : Int) HZ).mono ?_; rintro e w1 ⟨rfl, hb1⟩; have cl0_0 : w1.cell? ⟨w.heap.size, 0, none⟩ = some (.int .i64 m.kind) := (hb1.cell (p := ⟨w.heap.size, 0, none⟩) smx).trans kpx; have cl0_1 : w1.cell? ⟨w.heap.size, 1, none⟩ = some (.int .i64 m.validity) := (hb1.cell (p := ⟨w.heap.size, 1, none⟩) smx).trans kpx; have cl0_2 : w1.cell? ⟨w.heap.size, 2, none⟩ = some (.int .i64 m.uid) := (hb1.cell (p := ⟨w.heap.size, 2, none⟩) smx).trans kpx; have cl0_3 : w1.cell? ⟨w.heap.size, 3, none⟩ = some (.int .i64 m.flags) := (hb1.cell (p := ⟨w.heap.size, 3, none⟩) smx).trans kpx; have cl0_4 : w1.cell? ⟨w.heap.size, 4, none⟩ = some (.string m.name) := (hb1.cell (p := ⟨w.heap.size, 4, none⟩) smx).trans kpx; have cl0_5 : w1.cell? ⟨w.heap.size, 5, none⟩ = some (.string m.text) := (hb1.cell (p := ⟨w.heap.size, 5, none⟩) smx).trans kpx; have sl0 : w.heap.size < w1.heap.size := (by have hss := hb1.size; first | omega | (simp at hss; omega)); have hgw1 : g < w1.heap.size := (by have := hb1.size; first | omega | (simp at this; omega)); have H1 : Hid (OwnBs w1 B 73 78 (some ⟨g, 0, none⟩) c l) := OwnBs.ext H.out (show Below w.heap.size w w1 from bxt); obtain ⟨x0, x1, x2, x3⟩ := H1.out.cells hi)
  go_upto_region 10 with fail
  go_cut [] (RefillC B 73 78 g c (rowsB (some ⟨g, 0, none⟩) c l) l i l[i].name l[i].validity l[i].next (l[i].msgs ++ [⟨m.uid, m.flags, m.text⟩]) w)
  case first =>
    first
    | go_region_law (((refine step_appL (B := B) (v := .slice l[i].ma l[i].msgs.length l[i].mc) (n := l[i].msgs.length) (xs := l[i].msgs.flatMap DMsg.cells) (s := 3) rfl (.tmp 46) (.tmp 54) 71 rfl 78 j0 _ _ Tryz.underlying71 hj0 hy0 hy1 hy2 rfl (by decide) rfl (by repeat' (first | with_reducible exact (H1.out.msg _ (List.getElem_mem hi)) | with_reducible refine Own.set_below ?_ smx _ | with_reducible refine Own.alloc1 ?_ _ | with_reducible refine Own.drew1 ?_ | with_reducible refine Own.drewN1 ?_ | with_reducible refine Own.ext ?_ (by assumption))) _ 1 1 [.int .i64 m.uid, .int .i64 m.flags, .string m.text] rfl (Rd.lit w1.drew #[.int .i64 m.uid, .int .i64 m.flags, .string m.text] 78 1 3 w1.heap.size rfl rfl (by omega)) (by simp [Value.oneCell']) (by omega) (by omega) smx ?_; intro g2 q2 w5 hown hg hw; obtain ⟨⟨u3, y3⟩, z3⟩ := OwnBs.slotx (OwnBs.ext H1.out (show Below w1.heap.size w1 _ from bxt)) hc hi 3 (by omega) hg)))
    | fail
    all_goals go_wp2_with fail
    all_goals go_meet
    all_goals exact ⟨g2, q2, OwnBs.msgs (OwnBs.ext H1.out (show Below w1.heap.size w1 _ from bxt)) hc hi _ (by simp) hg (by rw [List.flatMap_append]; exact hown) (fun k hk => (hw k hk).imp_right (fun h => Nat.le_of_eq h.symm)), Chg.set (chg_foot (show Ext w _ from bxt) hg (fun k h => Or.inr ⟨l[i].key, List.mem_map_of_mem (List.getElem_mem hi), h⟩)) (Or.inl (by simp [foot, hc])) _, fun k hk => (hw k ((foot_len _ _ _ _).trans hk)).elim (fun h => Or.inl (Or.inr ⟨l[i].key, List.mem_map_of_mem (List.getElem_mem hi), h⟩)) (fun h => Or.inr (by rw [h]; exact (show Ext w _ from bxt).size))⟩
  case rest =>
    obtain ⟨g2, q2, hx, hbl, hnw⟩ := hcut
    have HNW := Lib.hid hnw
    clear hnw
    have H2 := Lib.hid hx
    have hi2 : i < (l.set i ⟨l[i].name, l[i].validity, l[i].next, l[i].msgs ++ [⟨m.uid, m.flags, m.text⟩], g2, q2⟩).length := by simpa using hi
    obtain ⟨v0, v1, v2, v3⟩ := hx.cells hi2
    obtain ⟨-, z3⟩ := hx.slot hc hi2 2 (by omega)
    simp only [List.getElem_set_self] at v0 v1 v2 v3
    have HBL := Lib.hid hbl
    clear hx hbl
    go_wp2_with fail
    have HX : Hid (OwnBs (wc.setCell ⟨g, i * 4 + 2, none⟩ (.int .i64 (l[i].next + 1))) B 73 78 (some ⟨g, 0, none⟩) c (l.set i ⟨l[i].name, l[i].validity, l[i].next + 1, l[i].msgs ++ [⟨m.uid, m.flags, m.text⟩], g2, q2⟩)) := by
      have h := H2.out.one hc hi2 (z := ⟨l[i].name, l[i].validity, l[i].next + 1, l[i].msgs ++ [⟨m.uid, m.flags, m.text⟩], g2, q2⟩) (o := 2) (u := .int .i64 (l[i].next + 1)) (by omega) (by simp [PBox.cells]) (by simp [PBox.key]) (by simp)
      rwa [List.set_set] at h
    have HBL2 : Hid (Chg (rowsB (some ⟨g, 0, none⟩) c l) w (wc.setCell ⟨g, i * 4 + 2, none⟩ (.int .i64 (l[i].next + 1)))) := Chg.set HBL.out (Or.inl (by simp [foot, hc])) _
    refine (sortB_any (l.set i ⟨l[i].name, l[i].validity, l[i].next + 1, l[i].msgs ++ [⟨m.uid, m.flags, m.text⟩], g2, q2⟩) g c B (l.length) _ HX.out hc (by simp; omega) (by simp)).mono ?_
    rintro e w9 ⟨rfl, l9, h9a, h9b, h9c, h9d⟩
    have H9 := Lib.hid (And.intro h9a (And.intro h9b (And.intro h9c h9d)))
    clear h9a h9b h9c h9d
    go_wp2_with fail
    go_ret
    exact perf_end HBL2.out (by exact NewR.set hi (fun k hk => HNW.out k hk)) HX.out H9.out.1 H9.out.2.1 H9.out.2.2.1 (by simp) H9.out.2.2.2 (by rw [List.map_set]; rfl)
end Go.Proofs.YtmnalediohghiaaGreat
