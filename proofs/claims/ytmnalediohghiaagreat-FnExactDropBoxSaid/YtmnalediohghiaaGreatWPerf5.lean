/-
  The program's perform at a message removed.
-/
import Derived.Test.YtmnalediohghiaaGreatWPerf
import Derived.Test.YtmnalediohghiaaGreatXOwn
import Derived.IntWalk
namespace Go.Proofs.YtmnalediohghiaaGreat
open Go.RowKit
set_option linter.unusedVariables false
set_option linter.unusedSimpArgs false

set_option maxRecDepth 100000 in
set_option maxHeartbeats 8000000 in
theorem perform6_any (l : List PBox) (a : Option Addr) (c B i : Nat) (m : DCommit) (w : World) (h : OwnBs w B 73 78 a c l) (hl : l.length ≤ 4) (hB : B ≤ w.heap.size) (hk : m.kind = 6) (hi : i < l.length) (hz : boxWith m.validity (l.map PBox.box) = i) (p : Nat) (hpp : p < l[i].msgs.length) (hplc : placeOf m.uid l[i].msgs = (p : Int)) (hml : l[i].msgs.length ≤ 1048576) :
    Calls Tryz.prog 91 #[.slice a l.length c, .agg #[.int .i64 m.kind, .int .i64 m.validity, .int .i64 m.uid, .int .i64 m.flags, .string m.name, .string m.text]] w (PerfPost B 73 78 (rowsB a c l) w ((l.map PBox.box).set i ⟨l[i].name, l[i].validity, l[i].next, l[i].msgs.eraseIdx p⟩)) := by
  obtain ⟨i0, hi0, hz0, hz1, hz2⟩ := info_parts info_Box
  obtain ⟨j0, hj0, hy0, hy1, hy2⟩ := info_parts info_Msg
  obtain ⟨hnc, hcm⟩ := h.row.cap
  have hc : c ≠ 0 := by omega
  obtain ⟨g, rfl, -⟩ := h.row.row hc
  have hgw : g < w.heap.size := (h.row.lt g (by simp [foot, hc])).2
  have H := Lib.hid h
  have HZ := Lib.hid hz
  have k1 : (m.kind == 1) = false := by rw [hk]; rfl
  have k2 : (m.kind == 2) = false := by rw [hk]; rfl
  have k3 : (m.kind == 3) = false := by rw [hk]; rfl
  have k4 : (m.kind == 4) = false := by rw [hk]; rfl
  have k5 : (m.kind == 5) = false := by rw [hk]; rfl
  have k6 : (m.kind == 6) = true := by rw [hk]; rfl
  have HK := Lib.hid hk
  have h10 : IntKind.i64.wrap ((i : Int) + 1) = (i : Int) + 1 := IntWalk.i64_in _ (by omega)
  have h11 : (i : Int) < (l.length : Int) := by omega
  have h12 : (0 : Int) ≤ (i : Int) := by omega
  have hmr := h.msg _ (List.getElem_mem hi)
  obtain ⟨hmn, hmm⟩ := hmr.cap
  have hmc : l[i].mc ≠ 0 := by omega
  obtain ⟨gm, hgm, -⟩ := hmr.row hmc
  have hgml := hmr.lt gm (by simp [foot, hgm, hmc])
  have HPL := Lib.hid hplc
  clear hmr hplc
  have h14 : IntKind.i64.wrap ((p : Int) + 1) = (p : Int) + 1 := IntWalk.i64_in _ (by omega)
  have h15 : (p : Int) < (l[i].msgs.length : Int) := by omega
  have h16 : (0 : Int) ≤ (p : Int) := by omega
  clear hgml hgm
  clear h hk hz
  go_enter Tryz.func91, Tryz.ntmps91
  go_wp2_with (go_at_call 64; refine (implBoxWith_any l _ _ m.validity _ (H.out.rd.ext bxt) (i : Int) HZ).mono ?_; rintro e w1 ⟨rfl, hb1⟩; have cl0_0 : w1.cell? ⟨w.heap.size, 0, none⟩ = some (.int .i64 m.kind) := (hb1.cell (p := ⟨w.heap.size, 0, none⟩) smx).trans kpx; have cl0_1 : w1.cell? ⟨w.heap.size, 1, none⟩ = some (.int .i64 m.validity) := (hb1.cell (p := ⟨w.heap.size, 1, none⟩) smx).trans kpx; have cl0_2 : w1.cell? ⟨w.heap.size, 2, none⟩ = some (.int .i64 m.uid) := (hb1.cell (p := ⟨w.heap.size, 2, none⟩) smx).trans kpx; have cl0_3 : w1.cell? ⟨w.heap.size, 3, none⟩ = some (.int .i64 m.flags) := (hb1.cell (p := ⟨w.heap.size, 3, none⟩) smx).trans kpx; have cl0_4 : w1.cell? ⟨w.heap.size, 4, none⟩ = some (.string m.name) := (hb1.cell (p := ⟨w.heap.size, 4, none⟩) smx).trans kpx; have cl0_5 : w1.cell? ⟨w.heap.size, 5, none⟩ = some (.string m.text) := (hb1.cell (p := ⟨w.heap.size, 5, none⟩) smx).trans kpx; have sl0 : w.heap.size < w1.heap.size := (by have hss := hb1.size; first | omega | (simp at hss; omega)); have hgw1 : g < w1.heap.size := (by have := hb1.size; first | omega | (simp at this; omega)); have H1 : Hid (OwnBs w1 B 73 78 (some ⟨g, 0, none⟩) c l) := OwnBs.ext H.out (show Below w.heap.size w w1 from bxt); obtain ⟨x0, x1, x2, x3⟩ := H1.out.cells hi; have HM1 : Hid (Own w1 B 78 3 (.slice l[i].ma l[i].msgs.length l[i].mc) l[i].msgs.length (l[i].msgs.flatMap DMsg.cells)) := (by have hq := H1.out.msg l[i] (List.getElem_mem hi); exact hq))
  go_region_held3 (fun w' => Below w1.heap.size w1 w' ∧ (∀ b o, b < w1.heap.size → w'.cell? ⟨b, o, none⟩ = w1.cell? ⟨b, o, none⟩)) (first | with_reducible exact sBeg _ | with_reducible exact sExt (by assumption) (by assumption)) ((go_at_call 68; refine (implPlaceOf_any l[i].name l[i].validity l[i].next l[i].msgs _ _ m.uid _ (Rd.of_Own (Own.ext HM1.out (show Below w1.heap.size w1 _ from bxt))) (p : Int) HPL).mono ?_; rintro e w3 ⟨rfl, hb3⟩; have hb13 : Below w1.heap.size w1 w3 := bxt; obtain ⟨v0, v1, v2, v3⟩ := (OwnBs.ext H1.out hb13).cells hi))
  go_wp2_with (go_at_call 115; refine (deleteMsgS_any l[i].msgs l[i].ma l[i].mc B p _ _ _ (by repeat' (first | with_reducible exact (H1.out.msg _ (List.getElem_mem hi)) | with_reducible refine Own.set_below ?_ smx _ | with_reducible refine Own.alloc1 ?_ _ | with_reducible refine Own.drew1 ?_ | with_reducible refine Own.drewN1 ?_ | with_reducible refine Own.ext ?_ (by assumption))) hpp rfl (by omega) (by omega) (l[i].msgs.eraseIdx p) rfl).mono ?_; rintro e w5 ⟨rfl, hown, hg⟩; obtain ⟨⟨u5, y5⟩, z5⟩ := OwnBs.slotx (OwnBs.ext H1.out (show Below w1.heap.size w1 _ from bxt)) hc hi 3 (by omega) hg; have HOW := Lib.hid hown; have HGG := Lib.hid hg; have HB5 : Hid (Chg (rowsB (some ⟨g, 0, none⟩) c l) w w5) := chg_foot (show Ext w _ from bxt) hg (fun k h => Or.inr ⟨l[i].key, List.mem_map_of_mem (List.getElem_mem hi), h⟩); clear hown hg)
  have HX : Hid (OwnBs (w5.setCell ⟨g, i * 4 + 3, none⟩ (.slice l[i].ma (l[i].msgs.eraseIdx p).length l[i].mc)) B 73 78 (some ⟨g, 0, none⟩) c (l.set i ⟨l[i].name, l[i].validity, l[i].next, l[i].msgs.eraseIdx p, l[i].ma, l[i].mc⟩)) :=
    OwnBs.msgs (OwnBs.ext H1.out (show Below w1.heap.size w1 _ from bxt)) hc hi _ rfl HGG.out HOW.out (fun k hk => Or.inl ((show foot l[i].key = foot (.slice l[i].ma (l[i].msgs.eraseIdx p).length l[i].mc) from foot_len _ _ _ _).trans hk))
  have HBL : Hid (Chg (rowsB (some ⟨g, 0, none⟩) c l) w (w5.setCell ⟨g, i * 4 + 3, none⟩ (.slice l[i].ma (l[i].msgs.eraseIdx p).length l[i].mc))) := Chg.set HB5.out (Or.inl (by simp [foot, hc])) _
  refine (sortB_any (l.set i ⟨l[i].name, l[i].validity, l[i].next, l[i].msgs.eraseIdx p, l[i].ma, l[i].mc⟩) g c B (l.length) _ HX.out hc (by simp; omega) (by simp)).mono ?_
  rintro e w9 ⟨rfl, l9, h9a, h9b, h9c, h9d⟩
  have H9 := Lib.hid (And.intro h9a (And.intro h9b (And.intro h9c h9d)))
  clear h9a h9b h9c h9d
  go_wp2_with fail
  go_ret
  exact perf_end HBL.out (by exact NewR.set hi (fun k hk => Or.inl (Or.inr ⟨l[i].key, List.mem_map_of_mem (List.getElem_mem hi), (foot_len _ _ _ _).trans hk⟩))) HX.out H9.out.1 H9.out.2.1 H9.out.2.2.1 (by simp) H9.out.2.2.2 (by rw [List.map_set]; rfl)
end Go.Proofs.YtmnalediohghiaaGreat
