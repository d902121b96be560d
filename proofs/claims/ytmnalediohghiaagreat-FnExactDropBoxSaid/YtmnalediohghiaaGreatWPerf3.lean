/-
  The program's perform at changed flags and at a message removed.
-/
import Derived.Test.YtmnalediohghiaaGreatWPerf
import Derived.Test.YtmnalediohghiaaGreatXOwn
import Derived.IntWalk
namespace Go.Proofs.YtmnalediohghiaaGreat
open Go.RowKit
set_option linter.unusedVariables false
set_option linter.unusedSimpArgs false

theorem wp_then {P : Program} {c : Code} {Q : Exit → Act → World → Prop} {a : Act} {w : World} (h : ∀ K : Act → World → Prop, K = (fun a w => Q .normal a w) → Code.wp P c (Exit.then K Q) a w) : Code.wp P c Q a w :=
  Code.wp_mono (fun e a w hq => by cases e <;> exact hq) (h _ rfl)

set_option maxRecDepth 100000 in
set_option maxHeartbeats 8000000 in
theorem perform5_any (l : List PBox) (a : Option Addr) (c B i : Nat) (m : DCommit) (w : World) (h : OwnBs w B 73 78 a c l) (hl : l.length ≤ 4) (hB : B ≤ w.heap.size) (hk : m.kind = 5) (hi : i < l.length) (hz : boxWith m.validity (l.map PBox.box) = i) (p : Nat) (hpp : p < l[i].msgs.length) (hplc : placeOf m.uid l[i].msgs = (p : Int)) (hml : l[i].msgs.length ≤ 1048576) :
    Calls Tryz.prog 91 #[.slice a l.length c, .agg #[.int .i64 m.kind, .int .i64 m.validity, .int .i64 m.uid, .int .i64 m.flags, .string m.name, .string m.text]] w (PerfPost B 73 78 (rowsB a c l) w ((l.map PBox.box).set i ⟨l[i].name, l[i].validity, l[i].next, l[i].msgs.set p ⟨l[i].msgs[p].uid, m.flags, l[i].msgs[p].text⟩⟩)) := by
  obtain ⟨i0, hi0, hz0, hz1, hz2⟩ := info_parts info_Box
  obtain ⟨j0, hj0, hy0, hy1, hy2⟩ := info_parts info_Msg
  obtain ⟨hnc, hcm⟩ := h.row.cap
  have hc : c ≠ 0 := by omega
  obtain ⟨g, rfl, -⟩ := h.row.row hc
  have hgw : g < w.heap.size := (h.row.lt g (by simp [foot, hc])).2
  have H := Lib.hid h
  have HZ := Lib.hid hz
  have k1 : (m.kind == 1) = false := by rw [hk]; rfl
  have k2 : (m.kind == 2) = false := by rw [hk]; rfl
  have k3 : (m.kind == 3) = false := by rw [hk]; rfl
  have k4 : (m.kind == 4) = false := by rw [hk]; rfl
  have k5 : (m.kind == 5) = true := by rw [hk]; rfl
  have HK := Lib.hid hk
  have h10 : IntKind.i64.wrap ((i : Int) + 1) = (i : Int) + 1 := IntWalk.i64_in _ (by omega)
  have h11 : (i : Int) < (l.length : Int) := by omega
  have h12 : (0 : Int) ≤ (i : Int) := by omega
  have hmr := h.msg _ (List.getElem_mem hi)
  obtain ⟨hmn, hmm⟩ := hmr.cap
  have hmc : l[i].mc ≠ 0 := by omega
  obtain ⟨gm, hgm, -⟩ := hmr.row hmc
  have hgml := hmr.lt gm (by simp [foot, hgm, hmc])
  have HPL := Lib.hid hplc
  clear hmr hplc
  have h14 : IntKind.i64.wrap ((p : Int) + 1) = (p : Int) + 1 := IntWalk.i64_in _ (by omega)
  have h15 : (p : Int) < (l[i].msgs.length : Int) := by omega
  have h16 : (0 : Int) ≤ (p : Int) := by omega
  clear h hk hz
  go_enter Tryz.func91, Tryz.ntmps91
  go_wp2_with (go_at_call 64; refine (implBoxWith_any l _ _ m.validity _ (H.out.rd.ext bxt) (i : Int) HZ).mono ?_; rintro e w1 ⟨rfl, hb1⟩; have cl0_0 : w1.cell? ⟨w.heap.size, 0, none⟩ = some (.int .i64 m.kind) := (hb1.cell (p := ⟨w.heap.size, 0, none⟩) smx).trans kpx; have cl0_1 : w1.cell? ⟨w.heap.size, 1, none⟩ = some (.int .i64 m.validity) := (hb1.cell (p := ⟨w.heap.size, 1, none⟩) smx).trans kpx; have cl0_2 : w1.cell? ⟨w.heap.size, 2, none⟩ = some (.int .i64 m.uid) := (hb1.cell (p := ⟨w.heap.size, 2, none⟩) smx).trans kpx; have cl0_3 : w1.cell? ⟨w.heap.size, 3, none⟩ = some (.int .i64 m.flags) := (hb1.cell (p := ⟨w.heap.size, 3, none⟩) smx).trans kpx; have cl0_4 : w1.cell? ⟨w.heap.size, 4, none⟩ = some (.string m.name) := (hb1.cell (p := ⟨w.heap.size, 4, none⟩) smx).trans kpx; have cl0_5 : w1.cell? ⟨w.heap.size, 5, none⟩ = some (.string m.text) := (hb1.cell (p := ⟨w.heap.size, 5, none⟩) smx).trans kpx; have sl0 : w.heap.size < w1.heap.size := (by have hss := hb1.size; first | omega | (simp at hss; omega)); have hgw1 : g < w1.heap.size := (by have := hb1.size; first | omega | (simp at this; omega)); have H1 : Hid (OwnBs w1 B 73 78 (some ⟨g, 0, none⟩) c l) := OwnBs.ext H.out (show Below w.heap.size w w1 from bxt); obtain ⟨x0, x1, x2, x3⟩ := H1.out.cells hi; have HM1 : Hid (Own w1 B 78 3 (.slice (some ⟨gm, 0, none⟩) l[i].msgs.length l[i].mc) l[i].msgs.length (l[i].msgs.flatMap DMsg.cells)) := (by have hq := H1.out.msg l[i] (List.getElem_mem hi); rw [hgm] at hq; exact hq); rw [hgm] at x3)
  go_upto_region 13 with fail
  refine wp_then (fun K0 hK0 => ?_)
  go_cut [] (RefillC B 73 78 g c (rowsB (some ⟨g, 0, none⟩) c l) l i l[i].name l[i].validity l[i].next (l[i].msgs.set p ⟨l[i].msgs[p].uid, m.flags, l[i].msgs[p].text⟩) w)
  case first =>
    first
    | go_region_law ((go_simp; (go_at_call 68; refine (implPlaceOf_any l[i].name l[i].validity l[i].next l[i].msgs _ _ m.uid _ (Rd.of_Own (Own.ext HM1.out (show Below w1.heap.size w1 _ from bxt))) (p : Int) HPL).mono ?_; rintro e w3 ⟨rfl, hb3⟩; have hb13 : Below w1.heap.size w1 w3 := bxt; obtain ⟨⟨u3, y3⟩, z3⟩ := (Own.ext HM1.out hb13).slot (p * 3 + 1) (by omega); have HM3 := Lib.hid (Own.ext HM1.out hb13); have HB3 := Lib.hid hb13; have hb13f : Below w1.heap.size w1 w3 := hb13; obtain ⟨v0, v1, v2, v3⟩ := (OwnBs.ext H1.out hb13).cells hi; rw [hgm] at v3; have cn0_0 : w3.cell? ⟨w.heap.size, 0, none⟩ = some (.int .i64 m.kind) := (hb13f.cell (p := ⟨w.heap.size, 0, none⟩) smx).trans kpx; have cn0_1 : w3.cell? ⟨w.heap.size, 1, none⟩ = some (.int .i64 m.validity) := (hb13f.cell (p := ⟨w.heap.size, 1, none⟩) smx).trans kpx; have cn0_2 : w3.cell? ⟨w.heap.size, 2, none⟩ = some (.int .i64 m.uid) := (hb13f.cell (p := ⟨w.heap.size, 2, none⟩) smx).trans kpx; have cn0_3 : w3.cell? ⟨w.heap.size, 3, none⟩ = some (.int .i64 m.flags) := (hb13f.cell (p := ⟨w.heap.size, 3, none⟩) smx).trans kpx; have cn0_4 : w3.cell? ⟨w.heap.size, 4, none⟩ = some (.string m.name) := (hb13f.cell (p := ⟨w.heap.size, 4, none⟩) smx).trans kpx; have cn0_5 : w3.cell? ⟨w.heap.size, 5, none⟩ = some (.string m.text) := (hb13f.cell (p := ⟨w.heap.size, 5, none⟩) smx).trans kpx; have sn0 : w.heap.size < w3.heap.size := (by have hss := hb13f.size; first | omega | (simp at hss; omega)))))
    | fail
    all_goals go_wp2_with fail
    all_goals go_meet
    all_goals exact ⟨l[i].ma, l[i].mc, OwnBs.tail (OwnBs.ext H1.out HB3.out) hi _ (by simp) (by rw [hgm]; exact Own.put1 HM3.out hmc (flat_set1 DMsg.cells_len l[i].msgs p 1 hpp (by omega) (.int .i64 m.flags) ⟨l[i].msgs[p].uid, m.flags, l[i].msgs[p].text⟩ (by simp [DMsg.cells]))) (grown_so (World.grownBy.refl _ _) (by simp [PBox.key, foot, hgm, hmc]) _), Chg.set (Chg.ext (show Ext w _ from bxt)) (Or.inr ⟨l[i].key, List.mem_map_of_mem (List.getElem_mem hi), by simp [PBox.key, foot, hgm, hmc]⟩) _, fun k hk => Or.inl (Or.inr ⟨l[i].key, List.mem_map_of_mem (List.getElem_mem hi), (foot_len _ _ _ _).trans hk⟩)⟩
  case rest =>
    subst hK0
    obtain ⟨g2, q2, hx, hbl, hnw⟩ := hcut
    have HNW := Lib.hid hnw
    clear hnw
    have H2 := Lib.hid hx
    have HBL := Lib.hid hbl
    clear hx hbl
    simp only [Exit.inBlock, Exit.then]
    go_wp2_with fail
    refine (sortB_any (l.set i ⟨l[i].name, l[i].validity, l[i].next, l[i].msgs.set p ⟨l[i].msgs[p].uid, m.flags, l[i].msgs[p].text⟩, g2, q2⟩) g c B (l.length) _ H2.out hc (by simp; omega) (by simp)).mono ?_
    rintro e w9 ⟨rfl, l9, h9a, h9b, h9c, h9d⟩
    have H9 := Lib.hid (And.intro h9a (And.intro h9b (And.intro h9c h9d)))
    clear h9a h9b h9c h9d
    go_wp2_with fail
    go_ret
    exact perf_end HBL.out (by exact NewR.set hi (fun k hk => HNW.out k hk)) H2.out H9.out.1 H9.out.2.1 H9.out.2.2.1 (by simp) H9.out.2.2.2 (by rw [List.map_set]; rfl)
end Go.Proofs.YtmnalediohghiaaGreat
