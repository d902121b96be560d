/-
  The reference's Applied at an appended message.
-/
import Derived.Test.YtmnalediohghiaaGreatXApp
import Derived.Test.YtmnalediohghiaaGreatWPerf
namespace Go.Proofs.YtmnalediohghiaaGreat
open Go.RowKit
set_option linter.unusedVariables false
set_option linter.unusedSimpArgs false

set_option maxRecDepth 100000 in
set_option maxHeartbeats 8000000 in
theorem specApplied4_any (l : List PBox) (a : Option Addr) (c i : Nat) (m : DCommit) (w : World) (R : Rd w a c 4 l.length (l.flatMap PBox.cells)) (M : RdM w l) (hl : l.length ≤ 4) (hlm : ∀ y ∈ l, y.msgs.length ≤ 6) (gn : ∀ y ∈ l, y.name.size ≤ 9223372036854775807) (gt : ∀ y ∈ l, ∀ m ∈ y.msgs, m.text.size ≤ 9223372036854775807) (g1 : m.name.size ≤ 9223372036854775807) (g2 : m.text.size ≤ 9223372036854775807) (hap : AppliesP (l.map PBox.box) m) (hk : m.kind = 4) (hi : i < l.length) (hz : boxWith m.validity (l.map PBox.box) = (i : Int)) (hnx : -9223372036854775808 ≤ m.uid ∧ m.uid < 9223372036854775807) :
    Calls Tryz.prog 97 #[.slice a l.length c, .agg #[.int .i64 m.kind, .int .i64 m.validity, .int .i64 m.uid, .int .i64 m.flags, .string m.name, .string m.text]] w (AppPost 73 78 w ((l.map PBox.box).set i ⟨l[i].name, l[i].validity, m.uid + 1, l[i].msgs ++ [⟨m.uid, m.flags, m.text⟩]⟩) true) := by
  obtain ⟨i0, hi0, hz0, hz1, hz2⟩ := info_parts info_Box
  obtain ⟨j0, hj0, hy0, hy1, hy2⟩ := info_parts info_Msg
  have HR := Lib.hid R
  have HM := Lib.hid M
  have HLM := Lib.hid hlm
  have HT : Hid (Tells true (AppliesP (l.map PBox.box) m)) := Lib.hid ⟨fun _ => hap, fun _ => rfl⟩
  have HGN := Lib.hid gn
  have HGT := Lib.hid gt
  have HZ := Lib.hid hz
  have k1 : (m.kind == 1) = false := by rw [hk]; rfl
  have k2 : (m.kind == 2) = false := by rw [hk]; rfl
  have k3 : (m.kind == 3) = false := by rw [hk]; rfl
  have k4 : (m.kind == 4) = true := by rw [hk]; rfl
  have HK := Lib.hid hk
  have h13 : IntKind.i64.wrap (m.uid + 1) = m.uid + 1 := IntWalk.i64_in _ (by omega)
  clear R M hlm hap gn gt hz hk
  go_enter Tryz.func97, Tryz.ntmps97
  go_wp2_with (first | (go_at_call 80; refine (specCopies_any l a c _ (HR.out.ext bxt) (RdM.ext HM.out (show Below w.heap.size w _ from bxt)) (by omega) (fun y hy => by have := HLM.out y hy; omega)).mono ?_; rintro e w1 ⟨gb, q, zs, rfl, hown, hzb, hb1⟩; have cl0_0 : w1.cell? ⟨w.heap.size, 0, none⟩ = some (.int .i64 m.kind) := (hb1.cell (p := ⟨w.heap.size, 0, none⟩) smx).trans kpx; have cl0_1 : w1.cell? ⟨w.heap.size, 1, none⟩ = some (.int .i64 m.validity) := (hb1.cell (p := ⟨w.heap.size, 1, none⟩) smx).trans kpx; have cl0_2 : w1.cell? ⟨w.heap.size, 2, none⟩ = some (.int .i64 m.uid) := (hb1.cell (p := ⟨w.heap.size, 2, none⟩) smx).trans kpx; have cl0_3 : w1.cell? ⟨w.heap.size, 3, none⟩ = some (.int .i64 m.flags) := (hb1.cell (p := ⟨w.heap.size, 3, none⟩) smx).trans kpx; have cl0_4 : w1.cell? ⟨w.heap.size, 4, none⟩ = some (.string m.name) := (hb1.cell (p := ⟨w.heap.size, 4, none⟩) smx).trans kpx; have cl0_5 : w1.cell? ⟨w.heap.size, 5, none⟩ = some (.string m.text) := (hb1.cell (p := ⟨w.heap.size, 5, none⟩) smx).trans kpx; have sl0 : w.heap.size < w1.heap.size := (by have hss := hb1.size; first | omega | (simp at hss; omega)); have HO1 : Hid (OwnBs w1 (w.heap.size + 1) 73 78 (some ⟨gb, 0, none⟩) q zs) := OwnBs.le hown (by first | (simp; done) | (simp; omega)); have HO : Hid (OwnBs w1 w.heap.size 73 78 (some ⟨gb, 0, none⟩) q zs) := OwnBs.le HO1.out (by omega); have hs1 : w.heap.size + 1 ≤ w1.heap.size := (by have hss := hb1.size; first | omega | (simp at hss; omega)); have HZB := Lib.hid hzb; have HZL := Lib.hid (box_len hzb); have hzs : zs.length ≤ 4 := (by rw [HZL.out]; exact hl); have hiz : i < zs.length := (by rw [HZL.out]; exact hi); have hq : q ≠ 0 := (by have := HO.out.row.cap; omega); have h11 : (i : Int) < (zs.length : Int) := (by omega); have h12 : (0 : Int) ≤ (i : Int) := (by omega); have hgb1 : gb < w1.heap.size := (HO.out.row.lt gb (by simp [foot, hq])).2; clear hown hzb) | (go_at_call 120; refine (specApplies_any l a c m _ (HR.out.ext bxt) (RdM.ext HM.out (show Below w.heap.size w _ from bxt)) HGN.out HGT.out g1 g2 true HT).mono ?_; rintro e w2 ⟨rfl, hb2⟩; have cm0_0 : w2.cell? ⟨w.heap.size, 0, none⟩ = some (.int .i64 m.kind) := (hb2.cell (p := ⟨w.heap.size, 0, none⟩) smx).trans kpx; have cm0_1 : w2.cell? ⟨w.heap.size, 1, none⟩ = some (.int .i64 m.validity) := (hb2.cell (p := ⟨w.heap.size, 1, none⟩) smx).trans kpx; have cm0_2 : w2.cell? ⟨w.heap.size, 2, none⟩ = some (.int .i64 m.uid) := (hb2.cell (p := ⟨w.heap.size, 2, none⟩) smx).trans kpx; have cm0_3 : w2.cell? ⟨w.heap.size, 3, none⟩ = some (.int .i64 m.flags) := (hb2.cell (p := ⟨w.heap.size, 3, none⟩) smx).trans kpx; have cm0_4 : w2.cell? ⟨w.heap.size, 4, none⟩ = some (.string m.name) := (hb2.cell (p := ⟨w.heap.size, 4, none⟩) smx).trans kpx; have cm0_5 : w2.cell? ⟨w.heap.size, 5, none⟩ = some (.string m.text) := (hb2.cell (p := ⟨w.heap.size, 5, none⟩) smx).trans kpx; have sm0 : w.heap.size < w2.heap.size := (by have hss := hb2.size; first | omega | (simp at hss; omega)); obtain ⟨x0, x1, x2, x3⟩ := (OwnBs.ext HO.out (show Below w1.heap.size w1 w2 from bxt)).cells hiz; have hgb2 : gb < w2.heap.size := (by have hss := hb2.size; first | omega | (simp at hss; omega)); have hs12 : w1.heap.size ≤ w2.heap.size := (by have hss := hb2.size; first | omega | (simp at hss; omega)); have H2 : Hid (OwnBs w2 (w.heap.size + 1) 73 78 (some ⟨gb, 0, none⟩) q zs) := OwnBs.ext HO1.out (show Below w1.heap.size w1 w2 from bxt); have HM2 : Hid (Own w2 (w.heap.size + 1) 78 3 (.slice zs[i].ma zs[i].msgs.length zs[i].mc) zs[i].msgs.length (zs[i].msgs.flatMap DMsg.cells)) := (by have hq := H2.out.msg zs[i] (List.getElem_mem hiz); exact hq); have hs2 : w.heap.size + 1 ≤ w2.heap.size := (by omega)) | (go_at_call 60; refine (specBoxWith_any l _ _ m.validity _ (HR.out.ext bxt) (i : Int) HZ).mono ?_; rintro e wx ⟨rfl, hwx⟩; subst wx))
  have hzm : zs[i].msgs.length ≤ 6 := by (have h := box_at HZB.out i hiz hi; simp only [PBox.box, DBox.mk.injEq] at h; rw [h.2.2.2]; exact HLM.out _ (List.getElem_mem hi))
  go_upto_region 15 with fail
  go_cut [] (Refilled (w.heap.size + 1) 73 78 gb q zs i zs[i].name zs[i].validity zs[i].next (zs[i].msgs ++ [⟨m.uid, m.flags, m.text⟩]) w1)
  case first =>
    first
    | go_region_law (((refine step_appL (B := (w.heap.size + 1)) (v := .slice zs[i].ma zs[i].msgs.length zs[i].mc) (n := zs[i].msgs.length) (xs := zs[i].msgs.flatMap DMsg.cells) (s := 3) rfl (.tmp 59) (.tmp 67) 71 rfl 78 j0 _ _ Tryz.underlying71 hj0 hy0 hy1 hy2 rfl (by decide) rfl (by repeat' (first | with_reducible exact HM2.out | with_reducible refine Own.set_below ?_ smx _ | with_reducible refine Own.alloc1 ?_ _ | with_reducible refine Own.drew1 ?_ | with_reducible refine Own.drewN1 ?_ | with_reducible refine Own.ext ?_ (by assumption))) _ 1 1 [.int .i64 m.uid, .int .i64 m.flags, .string m.text] rfl (Rd.lit w2.drew #[.int .i64 m.uid, .int .i64 m.flags, .string m.text] 78 1 3 w2.heap.size rfl rfl (by omega)) (by simp [Value.oneCell']) (by omega) (by omega) smx ?_; intro g2 q2 w5 hown hg hw; obtain ⟨⟨u3, y3⟩, z3⟩ := OwnBs.slotx (OwnBs.ext H2.out (show Below w2.heap.size w2 _ from bxt)) hq hiz 3 (by omega) hg)))
    | fail
    all_goals go_wp2_with fail
    all_goals go_meet
    all_goals exact ⟨g2, q2, OwnBs.msgs (OwnBs.ext H2.out (show Below w2.heap.size w2 _ from bxt)) hq hiz _ (by simp) hg (by rw [List.flatMap_append]; exact hown) (fun k hk => (hw k hk).imp_right (fun h => Nat.le_of_eq h.symm)), Below.setCell (below_foot2 hs1 (show Ext w1 _ from bxt) (show Own _ (w.heap.size + 1) 78 3 (.slice zs[i].ma zs[i].msgs.length zs[i].mc) zs[i].msgs.length (zs[i].msgs.flatMap DMsg.cells) from (by repeat' (first | with_reducible exact HM2.out | with_reducible refine Own.set_below ?_ smx _ | with_reducible refine Own.alloc1 ?_ _ | with_reducible refine Own.drew1 ?_ | with_reducible refine Own.drewN1 ?_ | with_reducible refine Own.ext ?_ (by assumption)))) hg) (H2.out.row.lt gb (by simp [foot, hq])).1 _⟩
  case rest =>
    obtain ⟨g3, q3, hx, hbl⟩ := hcut
    have HX := Lib.hid hx
    have hi2 : i < (zs.set i ⟨zs[i].name, zs[i].validity, zs[i].next, zs[i].msgs ++ [⟨m.uid, m.flags, m.text⟩], g3, q3⟩).length := by simpa using hiz
    obtain ⟨⟨u2, z2⟩, z3⟩ := hx.slot hq hi2 2 (by omega)
    have cc0 : wc.cell? ⟨w.heap.size, 0, none⟩ = some (.int .i64 m.kind) := (hbl.cell (p := ⟨w.heap.size, 0, none⟩) (by simp)).trans (by first | assumption | simp [*])
    have cc1 : wc.cell? ⟨w.heap.size, 1, none⟩ = some (.int .i64 m.validity) := (hbl.cell (p := ⟨w.heap.size, 1, none⟩) (by simp)).trans (by first | assumption | simp [*])
    have cc2 : wc.cell? ⟨w.heap.size, 2, none⟩ = some (.int .i64 m.uid) := (hbl.cell (p := ⟨w.heap.size, 2, none⟩) (by simp)).trans (by first | assumption | simp [*])
    have cc3 : wc.cell? ⟨w.heap.size, 3, none⟩ = some (.int .i64 m.flags) := (hbl.cell (p := ⟨w.heap.size, 3, none⟩) (by simp)).trans (by first | assumption | simp [*])
    have cc4 : wc.cell? ⟨w.heap.size, 4, none⟩ = some (.string m.name) := (hbl.cell (p := ⟨w.heap.size, 4, none⟩) (by simp)).trans (by first | assumption | simp [*])
    have cc5 : wc.cell? ⟨w.heap.size, 5, none⟩ = some (.string m.text) := (hbl.cell (p := ⟨w.heap.size, 5, none⟩) (by simp)).trans (by first | assumption | simp [*])
    have HBL := Lib.hid hbl
    clear hx hbl
    go_wp2_with fail
    have HX2 : Hid (OwnBs (wc.setCell ⟨gb, i * 4 + 2, none⟩ (.int .i64 (m.uid + 1))) (w.heap.size + 1) 73 78 (some ⟨gb, 0, none⟩) q (zs.set i ⟨zs[i].name, zs[i].validity, m.uid + 1, zs[i].msgs ++ [⟨m.uid, m.flags, m.text⟩], g3, q3⟩)) := by
      have h := HX.out.one hq hi2 (z := ⟨zs[i].name, zs[i].validity, m.uid + 1, zs[i].msgs ++ [⟨m.uid, m.flags, m.text⟩], g3, q3⟩) (o := 2) (u := .int .i64 (m.uid + 1)) (by omega) (by simp [PBox.cells]) (by simp [PBox.key]) (by simp)
      rwa [List.set_set] at h
    have HBL2 : Hid (Below (w.heap.size + 1) w1 (wc.setCell ⟨gb, i * 4 + 2, none⟩ (.int .i64 (m.uid + 1)))) := Below.setCell HBL.out (H2.out.row.lt gb (by simp [foot, hq])).1 _
    refine bodyPost_ret (v := .tuple #[.slice (some ⟨gb, 0, none⟩) zs.length q, .bool true]) (by simp [results, Tryz.results97, go_sem, *]) rfl ⟨(some ⟨gb, 0, none⟩), q, zs.set i ⟨zs[i].name, zs[i].validity, m.uid + 1, zs[i].msgs ++ [⟨m.uid, m.flags, m.text⟩], g3, q3⟩, by simp, OwnBs.le HX2.out (by omega), ?_, Below.trans (show Below w.heap.size w w1 from bxt) (Below.mono HBL2.out (by omega))⟩
    have hbi : zs[i].box = l[i].box := box_at HZB.out i hiz hi
    simp only [PBox.box, DBox.mk.injEq] at hbi
    rw [List.map_set, HZB.out]
    simp only [PBox.box, hbi.1, hbi.2.1, hbi.2.2.1, hbi.2.2.2]
end Go.Proofs.YtmnalediohghiaaGreat
