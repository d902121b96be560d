/-
  The reference's Applied at changed flags.
-/
import Derived.Test.YtmnalediohghiaaGreatXApp
import Derived.Test.YtmnalediohghiaaGreatWPerf
namespace Go.Proofs.YtmnalediohghiaaGreat
open Go.RowKit
set_option linter.unusedVariables false
set_option linter.unusedSimpArgs false

set_option maxRecDepth 100000 in
set_option maxHeartbeats 8000000 in
theorem specApplied5_any (l : List PBox) (a : Option Addr) (c i : Nat) (m : DCommit) (w : World) (R : Rd w a c 4 l.length (l.flatMap PBox.cells)) (M : RdM w l) (hl : l.length ≤ 4) (hlm : ∀ y ∈ l, y.msgs.length ≤ 6) (gn : ∀ y ∈ l, y.name.size ≤ 9223372036854775807) (gt : ∀ y ∈ l, ∀ m ∈ y.msgs, m.text.size ≤ 9223372036854775807) (g1 : m.name.size ≤ 9223372036854775807) (g2 : m.text.size ≤ 9223372036854775807) (hap : AppliesP (l.map PBox.box) m) (hk : m.kind = 5) (hi : i < l.length) (hz : boxWith m.validity (l.map PBox.box) = (i : Int)) (p : Nat) (hpp : p < l[i].msgs.length) (hplc : placeOf m.uid l[i].msgs = (p : Int)) :
    Calls Tryz.prog 97 #[.slice a l.length c, .agg #[.int .i64 m.kind, .int .i64 m.validity, .int .i64 m.uid, .int .i64 m.flags, .string m.name, .string m.text]] w (AppPost 73 78 w ((l.map PBox.box).set i ⟨l[i].name, l[i].validity, l[i].next, l[i].msgs.set p ⟨l[i].msgs[p].uid, m.flags, l[i].msgs[p].text⟩⟩) true) := by
  obtain ⟨i0, hi0, hz0, hz1, hz2⟩ := info_parts info_Box
  obtain ⟨j0, hj0, hy0, hy1, hy2⟩ := info_parts info_Msg
  have HR := Lib.hid R
  have HM := Lib.hid M
  have HLM := Lib.hid hlm
  have HT : Hid (Tells true (AppliesP (l.map PBox.box) m)) := Lib.hid ⟨fun _ => hap, fun _ => rfl⟩
  have HGN := Lib.hid gn
  have HGT := Lib.hid gt
  have HZ := Lib.hid hz
  have k1 : (m.kind == 1) = false := by rw [hk]; rfl
  have k2 : (m.kind == 2) = false := by rw [hk]; rfl
  have k3 : (m.kind == 3) = false := by rw [hk]; rfl
  have k4 : (m.kind == 4) = false := by rw [hk]; rfl
  have k5 : (m.kind == 5) = true := by rw [hk]; rfl
  have HK := Lib.hid hk
  have HPL := Lib.hid hplc
  clear hplc
  have h14 : IntKind.i64.wrap ((p : Int) + 1) = (p : Int) + 1 := IntWalk.i64_in _ (by have := hlm l[i] (List.getElem_mem hi); omega)
  have h16 : (0 : Int) ≤ (p : Int) := by omega
  clear R M hlm hap gn gt hz hk
  go_enter Tryz.func97, Tryz.ntmps97
  go_wp2_with (first | (go_at_call 80; refine (specCopies_any l a c _ (HR.out.ext bxt) (RdM.ext HM.out (show Below w.heap.size w _ from bxt)) (by omega) (fun y hy => by have := HLM.out y hy; omega)).mono ?_; rintro e w1 ⟨gb, q, zs, rfl, hown, hzb, hb1⟩; have cl0_0 : w1.cell? ⟨w.heap.size, 0, none⟩ = some (.int .i64 m.kind) := (hb1.cell (p := ⟨w.heap.size, 0, none⟩) smx).trans kpx; have cl0_1 : w1.cell? ⟨w.heap.size, 1, none⟩ = some (.int .i64 m.validity) := (hb1.cell (p := ⟨w.heap.size, 1, none⟩) smx).trans kpx; have cl0_2 : w1.cell? ⟨w.heap.size, 2, none⟩ = some (.int .i64 m.uid) := (hb1.cell (p := ⟨w.heap.size, 2, none⟩) smx).trans kpx; have cl0_3 : w1.cell? ⟨w.heap.size, 3, none⟩ = some (.int .i64 m.flags) := (hb1.cell (p := ⟨w.heap.size, 3, none⟩) smx).trans kpx; have cl0_4 : w1.cell? ⟨w.heap.size, 4, none⟩ = some (.string m.name) := (hb1.cell (p := ⟨w.heap.size, 4, none⟩) smx).trans kpx; have cl0_5 : w1.cell? ⟨w.heap.size, 5, none⟩ = some (.string m.text) := (hb1.cell (p := ⟨w.heap.size, 5, none⟩) smx).trans kpx; have sl0 : w.heap.size < w1.heap.size := (by have hss := hb1.size; first | omega | (simp at hss; omega)); have HO1 : Hid (OwnBs w1 (w.heap.size + 1) 73 78 (some ⟨gb, 0, none⟩) q zs) := OwnBs.le hown (by first | (simp; done) | (simp; omega)); have HO : Hid (OwnBs w1 w.heap.size 73 78 (some ⟨gb, 0, none⟩) q zs) := OwnBs.le HO1.out (by omega); have hs1 : w.heap.size + 1 ≤ w1.heap.size := (by have hss := hb1.size; first | omega | (simp at hss; omega)); have HZB := Lib.hid hzb; have HZL := Lib.hid (box_len hzb); have hzs : zs.length ≤ 4 := (by rw [HZL.out]; exact hl); have hiz : i < zs.length := (by rw [HZL.out]; exact hi); have hq : q ≠ 0 := (by have := HO.out.row.cap; omega); have h11 : (i : Int) < (zs.length : Int) := (by omega); have h12 : (0 : Int) ≤ (i : Int) := (by omega); have hgb1 : gb < w1.heap.size := (HO.out.row.lt gb (by simp [foot, hq])).2; clear hown hzb) | (go_at_call 120; refine (specApplies_any l a c m _ (HR.out.ext bxt) (RdM.ext HM.out (show Below w.heap.size w _ from bxt)) HGN.out HGT.out g1 g2 true HT).mono ?_; rintro e w2 ⟨rfl, hb2⟩; have cm0_0 : w2.cell? ⟨w.heap.size, 0, none⟩ = some (.int .i64 m.kind) := (hb2.cell (p := ⟨w.heap.size, 0, none⟩) smx).trans kpx; have cm0_1 : w2.cell? ⟨w.heap.size, 1, none⟩ = some (.int .i64 m.validity) := (hb2.cell (p := ⟨w.heap.size, 1, none⟩) smx).trans kpx; have cm0_2 : w2.cell? ⟨w.heap.size, 2, none⟩ = some (.int .i64 m.uid) := (hb2.cell (p := ⟨w.heap.size, 2, none⟩) smx).trans kpx; have cm0_3 : w2.cell? ⟨w.heap.size, 3, none⟩ = some (.int .i64 m.flags) := (hb2.cell (p := ⟨w.heap.size, 3, none⟩) smx).trans kpx; have cm0_4 : w2.cell? ⟨w.heap.size, 4, none⟩ = some (.string m.name) := (hb2.cell (p := ⟨w.heap.size, 4, none⟩) smx).trans kpx; have cm0_5 : w2.cell? ⟨w.heap.size, 5, none⟩ = some (.string m.text) := (hb2.cell (p := ⟨w.heap.size, 5, none⟩) smx).trans kpx; have sm0 : w.heap.size < w2.heap.size := (by have hss := hb2.size; first | omega | (simp at hss; omega)); obtain ⟨x0, x1, x2, x3⟩ := (OwnBs.ext HO.out (show Below w1.heap.size w1 w2 from bxt)).cells hiz; have hgb2 : gb < w2.heap.size := (by have hss := hb2.size; first | omega | (simp at hss; omega)); have hs12 : w1.heap.size ≤ w2.heap.size := (by have hss := hb2.size; first | omega | (simp at hss; omega)); have H2 : Hid (OwnBs w2 (w.heap.size + 1) 73 78 (some ⟨gb, 0, none⟩) q zs) := OwnBs.ext HO1.out (show Below w1.heap.size w1 w2 from bxt); have HM2 : Hid (Own w2 (w.heap.size + 1) 78 3 (.slice zs[i].ma zs[i].msgs.length zs[i].mc) zs[i].msgs.length (zs[i].msgs.flatMap DMsg.cells)) := (by have hq := H2.out.msg zs[i] (List.getElem_mem hiz); exact hq); have hs2 : w.heap.size + 1 ≤ w2.heap.size := (by omega); have HMS : Hid (zs[i].msgs = l[i].msgs) := Lib.hid (by have h := box_at HZB.out i hiz hi; simp only [PBox.box, DBox.mk.injEq] at h; exact h.2.2.2); have HPZ : Hid (placeOf m.uid zs[i].msgs = (p : Int)) := Lib.hid (by rw [HMS.out]; exact HPL.out); have hpz : p < zs[i].msgs.length := (by rw [HMS.out]; exact hpp); have hzm : zs[i].msgs.length ≤ 6 := (by rw [HMS.out]; exact HLM.out _ (List.getElem_mem hi)); have hmc : zs[i].mc ≠ 0 := (by have := HM2.out.cap; omega); obtain ⟨gm, hgm, -⟩ := HM2.out.row hmc; have hgml := HM2.out.lt gm (by simp [foot, hgm, hmc]); have h15 : (p : Int) < (zs[i].msgs.length : Int) := (by omega); have HM2' : Hid (Own w2 (w.heap.size + 1) 78 3 (.slice (some ⟨gm, 0, none⟩) zs[i].msgs.length zs[i].mc) zs[i].msgs.length (zs[i].msgs.flatMap DMsg.cells)) := Lib.hid (by have hq := HM2.out; rw [hgm] at hq; exact hq); rw [hgm] at x3) | (go_at_call 60; refine (specBoxWith_any l _ _ m.validity _ (HR.out.ext bxt) (i : Int) HZ).mono ?_; rintro e wx ⟨rfl, hwx⟩; subst wx))
  go_region_held3 (fun w' => Below w2.heap.size w2 w' ∧ (∀ b o, b < w2.heap.size → w'.cell? ⟨b, o, none⟩ = w2.cell? ⟨b, o, none⟩)) (first | with_reducible exact sBeg _ | with_reducible exact sExt (by assumption) (by assumption)) ((go_at_call 61; refine (specPlaceOf_any zs[i].name zs[i].validity zs[i].next zs[i].msgs _ _ m.uid _ (Rd.of_Own (Own.ext HM2'.out (show Below w2.heap.size w2 _ from bxt))) (p : Int) HPZ).mono ?_; rintro e w3 ⟨rfl, hb3⟩; have hb23 : Below w2.heap.size w2 w3 := bxt; obtain ⟨v0, v1, v2, v3⟩ := (OwnBs.ext H2.out hb23).cells hiz; rw [hgm] at v3; have cn0_0 : w3.cell? ⟨w.heap.size, 0, none⟩ = some (.int .i64 m.kind) := (hb23.cell (p := ⟨w.heap.size, 0, none⟩) smx).trans kpx; have cn0_1 : w3.cell? ⟨w.heap.size, 1, none⟩ = some (.int .i64 m.validity) := (hb23.cell (p := ⟨w.heap.size, 1, none⟩) smx).trans kpx; have cn0_2 : w3.cell? ⟨w.heap.size, 2, none⟩ = some (.int .i64 m.uid) := (hb23.cell (p := ⟨w.heap.size, 2, none⟩) smx).trans kpx; have cn0_3 : w3.cell? ⟨w.heap.size, 3, none⟩ = some (.int .i64 m.flags) := (hb23.cell (p := ⟨w.heap.size, 3, none⟩) smx).trans kpx; have cn0_4 : w3.cell? ⟨w.heap.size, 4, none⟩ = some (.string m.name) := (hb23.cell (p := ⟨w.heap.size, 4, none⟩) smx).trans kpx; have cn0_5 : w3.cell? ⟨w.heap.size, 5, none⟩ = some (.string m.text) := (hb23.cell (p := ⟨w.heap.size, 5, none⟩) smx).trans kpx; have sn0 : w.heap.size < w3.heap.size := (by have hss := hb23.size; first | omega | (simp at hss; omega)); obtain ⟨⟨u3, y3⟩, z3⟩ := (Own.ext HM2'.out hb23).slot (p * 3 + 1) (by omega); have HB23 := Lib.hid hb23))
  go_wp2_with fail
  have HT5 : Hid (OwnBs (w3.setCell ⟨gm, p * 3 + 1, none⟩ (.int .i64 m.flags)) (w.heap.size + 1) 73 78 (some ⟨gb, 0, none⟩) q (zs.set i ⟨zs[i].name, zs[i].validity, zs[i].next, zs[i].msgs.set p ⟨zs[i].msgs[p].uid, m.flags, zs[i].msgs[p].text⟩, zs[i].ma, zs[i].mc⟩)) :=
    OwnBs.tail (OwnBs.ext H2.out HB23.out) hiz _ (by simp) (by rw [hgm]; exact Own.put1 (Own.ext HM2'.out HB23.out) hmc (flat_set1 DMsg.cells_len zs[i].msgs p 1 hpz (by omega) (.int .i64 m.flags) ⟨zs[i].msgs[p].uid, m.flags, zs[i].msgs[p].text⟩ (by simp [DMsg.cells]))) (grown_so (World.grownBy.refl _ _) (by simp [PBox.key, foot, hgm, hmc]) _)
  have HL5 : Hid (Below (w.heap.size + 1) w1 (w3.setCell ⟨gm, p * 3 + 1, none⟩ (.int .i64 m.flags))) := Below.setCell (Below.mono (show Ext w1 w3 from bxt) hs1) hgml.1 _
  go_upto_region 20 with fail
  go_cut [] (Refilled (w.heap.size + 1) 73 78 gb q zs i zs[i].name zs[i].validity zs[i].next (zs[i].msgs.set p ⟨zs[i].msgs[p].uid, m.flags, zs[i].msgs[p].text⟩) w1)
  case first =>
    first
    | go_region_law (fail)
    | fail
    all_goals go_wp2_with fail
    all_goals go_meet
    all_goals first | exact ⟨zs[i].ma, zs[i].mc, HT5.out.ext ((Below.refl _ _).drew), HL5.out.drew⟩ | exact ⟨zs[i].ma, zs[i].mc, HT5.out, HL5.out⟩
  case rest =>
    obtain ⟨g3, q3, hx, hbl⟩ := hcut
    have HX := Lib.hid hx
    have HBL := Lib.hid hbl
    clear hx hbl
    go_wp2_with fail
    refine bodyPost_ret (v := .tuple #[.slice (some ⟨gb, 0, none⟩) zs.length q, .bool true]) (by simp [results, Tryz.results97, go_sem, *]) rfl ⟨(some ⟨gb, 0, none⟩), q, zs.set i ⟨zs[i].name, zs[i].validity, zs[i].next, zs[i].msgs.set p ⟨zs[i].msgs[p].uid, m.flags, zs[i].msgs[p].text⟩, g3, q3⟩, by simp, OwnBs.le HX.out (by omega), ?_, Below.trans (show Below w.heap.size w w1 from bxt) (Below.mono HBL.out (by omega))⟩
    have hbi : zs[i].box = l[i].box := box_at HZB.out i hiz hi
    simp only [PBox.box, DBox.mk.injEq] at hbi
    rw [List.map_set, HZB.out]
    simp only [PBox.box, hbi.1, hbi.2.1, hbi.2.2.1, hbi.2.2.2]
end Go.Proofs.YtmnalediohghiaaGreat
