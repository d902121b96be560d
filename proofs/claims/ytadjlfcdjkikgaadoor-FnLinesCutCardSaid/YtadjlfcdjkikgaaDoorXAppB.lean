/-
  The reference's Applied at an appended message.
  The reference's Applied at changed flags.
  The reference's Applied at a message removed.
  Applied: the program's function and the reference's.
-/
import Derived.Test.YtadjlfcdjkikgaaDoorXApp
import Derived.Test.YtadjlfcdjkikgaaDoorWPerf
import Derived.Test.YtadjlfcdjkikgaaDoorXPerf
namespace Go.Proofs.YtadjlfcdjkikgaaDoor
open Go.RowKit
set_option linter.unusedVariables false
set_option linter.unusedSimpArgs false

set_option maxRecDepth 100000 in
set_option maxHeartbeats 8000000 in
theorem specApplied4_any (l : List PBox) (a : Option Addr) (c i : Nat) (m : DCommit) (w : World) (R : Rd w a c 4 l.length (l.flatMap PBox.cells)) (M : RdM w l) (hl : l.length ≤ 4) (hlm : ∀ y ∈ l, y.msgs.length ≤ 6) (gn : ∀ y ∈ l, y.name.size ≤ 9223372036854775807) (gt : ∀ y ∈ l, ∀ m ∈ y.msgs, m.text.size ≤ 9223372036854775807) (g1 : m.name.size ≤ 9223372036854775807) (g2 : m.text.size ≤ 9223372036854775807) (hap : AppliesP (l.map PBox.box) m) (hk : m.kind = 4) (hi : i < l.length) (hz : boxWith m.validity (l.map PBox.box) = (i : Int)) (hnx : -9223372036854775808 ≤ m.uid ∧ m.uid < 9223372036854775807) :
    Calls Tryd.prog 81 #[.slice a l.length c, .agg #[.int .i64 m.kind, .int .i64 m.validity, .int .i64 m.uid, .int .i64 m.flags, .string m.name, .string m.text]] w (AppPost 85 111 w ((l.map PBox.box).set i ⟨l[i].name, l[i].validity, m.uid + 1, l[i].msgs ++ [⟨m.uid, m.flags, m.text⟩]⟩) true) := by
  obtain ⟨i0, hi0, hz0, hz1, hz2⟩ := info_parts info_Box
  obtain ⟨j0, hj0, hy0, hy1, hy2⟩ := info_parts info_Msg
  have HR := Lib.hid R
  have HM := Lib.hid M
  have HLM := Lib.hid hlm
  have HT : Hid (Tells true (AppliesP (l.map PBox.box) m)) := Lib.hid ⟨fun _ => hap, fun _ => rfl⟩
  have HGN := Lib.hid gn
  have HGT := Lib.hid gt
  have HZ := Lib.hid hz
  have k1 : (m.kind == 1) = false := by rw [hk]; rfl
  have k2 : (m.kind == 2) = false := by rw [hk]; rfl
  have k3 : (m.kind == 3) = false := by rw [hk]; rfl
  have k4 : (m.kind == 4) = true := by rw [hk]; rfl
  have HK := Lib.hid hk
  have h13 : IntKind.i64.wrap (m.uid + 1) = m.uid + 1 := IntWalk.i64_in _ (by omega)
  clear R M hlm hap gn gt hz hk
  go_enter Tryd.func81, Tryd.ntmps81
  go_wp2_with (first | (go_at_call 96; refine (specCopies_any l a c _ (HR.out.ext bxt) (RdM.ext HM.out (show Below w.heap.size w _ from bxt)) (by omega) (fun y hy => by have := HLM.out y hy; omega)).mono ?_; rintro e w1 ⟨gb, q, zs, rfl, hown, hzb, hb1⟩; have cl0_0 : w1.cell? ⟨w.heap.size, 0, none⟩ = some (.int .i64 m.kind) := (hb1.cell (p := ⟨w.heap.size, 0, none⟩) smx).trans kpx; have cl0_1 : w1.cell? ⟨w.heap.size, 1, none⟩ = some (.int .i64 m.validity) := (hb1.cell (p := ⟨w.heap.size, 1, none⟩) smx).trans kpx; have cl0_2 : w1.cell? ⟨w.heap.size, 2, none⟩ = some (.int .i64 m.uid) := (hb1.cell (p := ⟨w.heap.size, 2, none⟩) smx).trans kpx; have cl0_3 : w1.cell? ⟨w.heap.size, 3, none⟩ = some (.int .i64 m.flags) := (hb1.cell (p := ⟨w.heap.size, 3, none⟩) smx).trans kpx; have cl0_4 : w1.cell? ⟨w.heap.size, 4, none⟩ = some (.string m.name) := (hb1.cell (p := ⟨w.heap.size, 4, none⟩) smx).trans kpx; have cl0_5 : w1.cell? ⟨w.heap.size, 5, none⟩ = some (.string m.text) := (hb1.cell (p := ⟨w.heap.size, 5, none⟩) smx).trans kpx; have sl0 : w.heap.size < w1.heap.size := (by have hss := hb1.size; first | omega | (simp at hss; omega)); have HO1 : Hid (OwnBs w1 (w.heap.size + 1) 85 111 (some ⟨gb, 0, none⟩) q zs) := OwnBs.le hown (by first | (simp; done) | (simp; omega)); have HO : Hid (OwnBs w1 w.heap.size 85 111 (some ⟨gb, 0, none⟩) q zs) := OwnBs.le HO1.out (by omega); have hs1 : w.heap.size + 1 ≤ w1.heap.size := (by have hss := hb1.size; first | omega | (simp at hss; omega)); have HZB := Lib.hid hzb; have HZL := Lib.hid (box_len hzb); have hzs : zs.length ≤ 4 := (by rw [HZL.out]; exact hl); have hiz : i < zs.length := (by rw [HZL.out]; exact hi); have hq : q ≠ 0 := (by have := HO.out.row.cap; omega); have h11 : (i : Int) < (zs.length : Int) := (by omega); have h12 : (0 : Int) ≤ (i : Int) := (by omega); have hgb1 : gb < w1.heap.size := (HO.out.row.lt gb (by simp [foot, hq])).2; clear hown hzb) | (go_at_call 97; refine (specApplies_any l a c m _ (HR.out.ext bxt) (RdM.ext HM.out (show Below w.heap.size w _ from bxt)) HGN.out HGT.out g1 g2 true HT).mono ?_; rintro e w2 ⟨rfl, hb2⟩; have cm0_0 : w2.cell? ⟨w.heap.size, 0, none⟩ = some (.int .i64 m.kind) := (hb2.cell (p := ⟨w.heap.size, 0, none⟩) smx).trans kpx; have cm0_1 : w2.cell? ⟨w.heap.size, 1, none⟩ = some (.int .i64 m.validity) := (hb2.cell (p := ⟨w.heap.size, 1, none⟩) smx).trans kpx; have cm0_2 : w2.cell? ⟨w.heap.size, 2, none⟩ = some (.int .i64 m.uid) := (hb2.cell (p := ⟨w.heap.size, 2, none⟩) smx).trans kpx; have cm0_3 : w2.cell? ⟨w.heap.size, 3, none⟩ = some (.int .i64 m.flags) := (hb2.cell (p := ⟨w.heap.size, 3, none⟩) smx).trans kpx; have cm0_4 : w2.cell? ⟨w.heap.size, 4, none⟩ = some (.string m.name) := (hb2.cell (p := ⟨w.heap.size, 4, none⟩) smx).trans kpx; have cm0_5 : w2.cell? ⟨w.heap.size, 5, none⟩ = some (.string m.text) := (hb2.cell (p := ⟨w.heap.size, 5, none⟩) smx).trans kpx; have sm0 : w.heap.size < w2.heap.size := (by have hss := hb2.size; first | omega | (simp at hss; omega)); obtain ⟨x0, x1, x2, x3⟩ := (OwnBs.ext HO.out (show Below w1.heap.size w1 w2 from bxt)).cells hiz; have hgb2 : gb < w2.heap.size := (by have hss := hb2.size; first | omega | (simp at hss; omega)); have hs12 : w1.heap.size ≤ w2.heap.size := (by have hss := hb2.size; first | omega | (simp at hss; omega)); have H2 : Hid (OwnBs w2 (w.heap.size + 1) 85 111 (some ⟨gb, 0, none⟩) q zs) := OwnBs.ext HO1.out (show Below w1.heap.size w1 w2 from bxt); have HM2 : Hid (Own w2 (w.heap.size + 1) 111 3 (.slice zs[i].ma zs[i].msgs.length zs[i].mc) zs[i].msgs.length (zs[i].msgs.flatMap DMsg.cells)) := (by have hq := H2.out.msg zs[i] (List.getElem_mem hiz); exact hq); have hs2 : w.heap.size + 1 ≤ w2.heap.size := (by omega)) | (go_at_call 98; refine (specBoxWith_any l _ _ m.validity _ (HR.out.ext bxt) (i : Int) HZ).mono ?_; rintro e wx ⟨rfl, hwx⟩; subst wx))
  have hzm : zs[i].msgs.length ≤ 6 := by (have h := box_at HZB.out i hiz hi; simp only [PBox.box, DBox.mk.injEq] at h; rw [h.2.2.2]; exact HLM.out _ (List.getElem_mem hi))
  go_upto_region 15 with fail
  go_cut [] (Refilled (w.heap.size + 1) 85 111 gb q zs i zs[i].name zs[i].validity zs[i].next (zs[i].msgs ++ [⟨m.uid, m.flags, m.text⟩]) w1)
  case first =>
    first
    | go_region_law (((refine step_appL (B := (w.heap.size + 1)) (v := .slice zs[i].ma zs[i].msgs.length zs[i].mc) (n := zs[i].msgs.length) (xs := zs[i].msgs.flatMap DMsg.cells) (s := 3) rfl (.tmp 59) (.tmp 67) 83 rfl 111 j0 _ _ Tryd.underlying83 hj0 hy0 hy1 hy2 rfl (by decide) rfl (by repeat' (first | with_reducible exact HM2.out | with_reducible refine Own.set_below ?_ smx _ | with_reducible refine Own.alloc1 ?_ _ | with_reducible refine Own.drew1 ?_ | with_reducible refine Own.drewN1 ?_ | with_reducible refine Own.ext ?_ (by assumption))) _ 1 1 [.int .i64 m.uid, .int .i64 m.flags, .string m.text] rfl (Rd.lit w2.drew #[.int .i64 m.uid, .int .i64 m.flags, .string m.text] 111 1 3 w2.heap.size rfl rfl (by omega)) (by simp [Value.oneCell']) (by omega) (by omega) smx ?_; intro g2 q2 w5 hown hg hw; obtain ⟨⟨u3, y3⟩, z3⟩ := OwnBs.slotx (OwnBs.ext H2.out (show Below w2.heap.size w2 _ from bxt)) hq hiz 3 (by omega) hg)))
    | fail
    all_goals go_wp2_with fail
    all_goals go_meet
    all_goals exact ⟨g2, q2, OwnBs.msgs (OwnBs.ext H2.out (show Below w2.heap.size w2 _ from bxt)) hq hiz _ (by simp) hg (by rw [List.flatMap_append]; exact hown) (fun k hk => (hw k hk).imp_right (fun h => Nat.le_of_eq h.symm)), Below.setCell (below_foot2 hs1 (show Ext w1 _ from bxt) (show Own _ (w.heap.size + 1) 111 3 (.slice zs[i].ma zs[i].msgs.length zs[i].mc) zs[i].msgs.length (zs[i].msgs.flatMap DMsg.cells) from (by repeat' (first | with_reducible exact HM2.out | with_reducible refine Own.set_below ?_ smx _ | with_reducible refine Own.alloc1 ?_ _ | with_reducible refine Own.drew1 ?_ | with_reducible refine Own.drewN1 ?_ | with_reducible refine Own.ext ?_ (by assumption)))) hg) (H2.out.row.lt gb (by simp [foot, hq])).1 _⟩
  case rest =>
    obtain ⟨g3, q3, hx, hbl⟩ := hcut
    have HX := Lib.hid hx
    have hi2 : i < (zs.set i ⟨zs[i].name, zs[i].validity, zs[i].next, zs[i].msgs ++ [⟨m.uid, m.flags, m.text⟩], g3, q3⟩).length := by simpa using hiz
    obtain ⟨⟨u2, z2⟩, z3⟩ := hx.slot hq hi2 2 (by omega)
    have cc0 : wc.cell? ⟨w.heap.size, 0, none⟩ = some (.int .i64 m.kind) := (hbl.cell (p := ⟨w.heap.size, 0, none⟩) (by simp)).trans (by first | assumption | simp [*])
    have cc1 : wc.cell? ⟨w.heap.size, 1, none⟩ = some (.int .i64 m.validity) := (hbl.cell (p := ⟨w.heap.size, 1, none⟩) (by simp)).trans (by first | assumption | simp [*])
    have cc2 : wc.cell? ⟨w.heap.size, 2, none⟩ = some (.int .i64 m.uid) := (hbl.cell (p := ⟨w.heap.size, 2, none⟩) (by simp)).trans (by first | assumption | simp [*])
    have cc3 : wc.cell? ⟨w.heap.size, 3, none⟩ = some (.int .i64 m.flags) := (hbl.cell (p := ⟨w.heap.size, 3, none⟩) (by simp)).trans (by first | assumption | simp [*])
    have cc4 : wc.cell? ⟨w.heap.size, 4, none⟩ = some (.string m.name) := (hbl.cell (p := ⟨w.heap.size, 4, none⟩) (by simp)).trans (by first | assumption | simp [*])
    have cc5 : wc.cell? ⟨w.heap.size, 5, none⟩ = some (.string m.text) := (hbl.cell (p := ⟨w.heap.size, 5, none⟩) (by simp)).trans (by first | assumption | simp [*])
    have HBL := Lib.hid hbl
    clear hx hbl
    go_wp2_with fail
    have HX2 : Hid (OwnBs (wc.setCell ⟨gb, i * 4 + 2, none⟩ (.int .i64 (m.uid + 1))) (w.heap.size + 1) 85 111 (some ⟨gb, 0, none⟩) q (zs.set i ⟨zs[i].name, zs[i].validity, m.uid + 1, zs[i].msgs ++ [⟨m.uid, m.flags, m.text⟩], g3, q3⟩)) := by
      have h := HX.out.one hq hi2 (z := ⟨zs[i].name, zs[i].validity, m.uid + 1, zs[i].msgs ++ [⟨m.uid, m.flags, m.text⟩], g3, q3⟩) (o := 2) (u := .int .i64 (m.uid + 1)) (by omega) (by simp [PBox.cells]) (by simp [PBox.key]) (by simp)
      rwa [List.set_set] at h
    have HBL2 : Hid (Below (w.heap.size + 1) w1 (wc.setCell ⟨gb, i * 4 + 2, none⟩ (.int .i64 (m.uid + 1)))) := Below.setCell HBL.out (H2.out.row.lt gb (by simp [foot, hq])).1 _
    refine bodyPost_ret (v := .tuple #[.slice (some ⟨gb, 0, none⟩) zs.length q, .bool true]) (by simp [results, Tryd.results81, go_sem, *]) rfl ⟨(some ⟨gb, 0, none⟩), q, zs.set i ⟨zs[i].name, zs[i].validity, m.uid + 1, zs[i].msgs ++ [⟨m.uid, m.flags, m.text⟩], g3, q3⟩, by simp, OwnBs.le HX2.out (by omega), ?_, Below.trans (show Below w.heap.size w w1 from bxt) (Below.mono HBL2.out (by omega))⟩
    have hbi : zs[i].box = l[i].box := box_at HZB.out i hiz hi
    simp only [PBox.box, DBox.mk.injEq] at hbi
    rw [List.map_set, HZB.out]
    simp only [PBox.box, hbi.1, hbi.2.1, hbi.2.2.1, hbi.2.2.2]
end Go.Proofs.YtadjlfcdjkikgaaDoor

namespace Go.Proofs.YtadjlfcdjkikgaaDoor
open Go.RowKit
set_option linter.unusedVariables false
set_option linter.unusedSimpArgs false

set_option maxRecDepth 100000 in
set_option maxHeartbeats 8000000 in
theorem specApplied5_any (l : List PBox) (a : Option Addr) (c i : Nat) (m : DCommit) (w : World) (R : Rd w a c 4 l.length (l.flatMap PBox.cells)) (M : RdM w l) (hl : l.length ≤ 4) (hlm : ∀ y ∈ l, y.msgs.length ≤ 6) (gn : ∀ y ∈ l, y.name.size ≤ 9223372036854775807) (gt : ∀ y ∈ l, ∀ m ∈ y.msgs, m.text.size ≤ 9223372036854775807) (g1 : m.name.size ≤ 9223372036854775807) (g2 : m.text.size ≤ 9223372036854775807) (hap : AppliesP (l.map PBox.box) m) (hk : m.kind = 5) (hi : i < l.length) (hz : boxWith m.validity (l.map PBox.box) = (i : Int)) (p : Nat) (hpp : p < l[i].msgs.length) (hplc : placeOf m.uid l[i].msgs = (p : Int)) :
    Calls Tryd.prog 81 #[.slice a l.length c, .agg #[.int .i64 m.kind, .int .i64 m.validity, .int .i64 m.uid, .int .i64 m.flags, .string m.name, .string m.text]] w (AppPost 85 111 w ((l.map PBox.box).set i ⟨l[i].name, l[i].validity, l[i].next, l[i].msgs.set p ⟨l[i].msgs[p].uid, m.flags, l[i].msgs[p].text⟩⟩) true) := by
  obtain ⟨i0, hi0, hz0, hz1, hz2⟩ := info_parts info_Box
  obtain ⟨j0, hj0, hy0, hy1, hy2⟩ := info_parts info_Msg
  have HR := Lib.hid R
  have HM := Lib.hid M
  have HLM := Lib.hid hlm
  have HT : Hid (Tells true (AppliesP (l.map PBox.box) m)) := Lib.hid ⟨fun _ => hap, fun _ => rfl⟩
  have HGN := Lib.hid gn
  have HGT := Lib.hid gt
  have HZ := Lib.hid hz
  have k1 : (m.kind == 1) = false := by rw [hk]; rfl
  have k2 : (m.kind == 2) = false := by rw [hk]; rfl
  have k3 : (m.kind == 3) = false := by rw [hk]; rfl
  have k4 : (m.kind == 4) = false := by rw [hk]; rfl
  have k5 : (m.kind == 5) = true := by rw [hk]; rfl
  have HK := Lib.hid hk
  have HPL := Lib.hid hplc
  clear hplc
  have h14 : IntKind.i64.wrap ((p : Int) + 1) = (p : Int) + 1 := IntWalk.i64_in _ (by have := hlm l[i] (List.getElem_mem hi); omega)
  have h16 : (0 : Int) ≤ (p : Int) := by omega
  clear R M hlm hap gn gt hz hk
  go_enter Tryd.func81, Tryd.ntmps81
  go_wp2_with (first | (go_at_call 96; refine (specCopies_any l a c _ (HR.out.ext bxt) (RdM.ext HM.out (show Below w.heap.size w _ from bxt)) (by omega) (fun y hy => by have := HLM.out y hy; omega)).mono ?_; rintro e w1 ⟨gb, q, zs, rfl, hown, hzb, hb1⟩; have cl0_0 : w1.cell? ⟨w.heap.size, 0, none⟩ = some (.int .i64 m.kind) := (hb1.cell (p := ⟨w.heap.size, 0, none⟩) smx).trans kpx; have cl0_1 : w1.cell? ⟨w.heap.size, 1, none⟩ = some (.int .i64 m.validity) := (hb1.cell (p := ⟨w.heap.size, 1, none⟩) smx).trans kpx; have cl0_2 : w1.cell? ⟨w.heap.size, 2, none⟩ = some (.int .i64 m.uid) := (hb1.cell (p := ⟨w.heap.size, 2, none⟩) smx).trans kpx; have cl0_3 : w1.cell? ⟨w.heap.size, 3, none⟩ = some (.int .i64 m.flags) := (hb1.cell (p := ⟨w.heap.size, 3, none⟩) smx).trans kpx; have cl0_4 : w1.cell? ⟨w.heap.size, 4, none⟩ = some (.string m.name) := (hb1.cell (p := ⟨w.heap.size, 4, none⟩) smx).trans kpx; have cl0_5 : w1.cell? ⟨w.heap.size, 5, none⟩ = some (.string m.text) := (hb1.cell (p := ⟨w.heap.size, 5, none⟩) smx).trans kpx; have sl0 : w.heap.size < w1.heap.size := (by have hss := hb1.size; first | omega | (simp at hss; omega)); have HO1 : Hid (OwnBs w1 (w.heap.size + 1) 85 111 (some ⟨gb, 0, none⟩) q zs) := OwnBs.le hown (by first | (simp; done) | (simp; omega)); have HO : Hid (OwnBs w1 w.heap.size 85 111 (some ⟨gb, 0, none⟩) q zs) := OwnBs.le HO1.out (by omega); have hs1 : w.heap.size + 1 ≤ w1.heap.size := (by have hss := hb1.size; first | omega | (simp at hss; omega)); have HZB := Lib.hid hzb; have HZL := Lib.hid (box_len hzb); have hzs : zs.length ≤ 4 := (by rw [HZL.out]; exact hl); have hiz : i < zs.length := (by rw [HZL.out]; exact hi); have hq : q ≠ 0 := (by have := HO.out.row.cap; omega); have h11 : (i : Int) < (zs.length : Int) := (by omega); have h12 : (0 : Int) ≤ (i : Int) := (by omega); have hgb1 : gb < w1.heap.size := (HO.out.row.lt gb (by simp [foot, hq])).2; clear hown hzb) | (go_at_call 97; refine (specApplies_any l a c m _ (HR.out.ext bxt) (RdM.ext HM.out (show Below w.heap.size w _ from bxt)) HGN.out HGT.out g1 g2 true HT).mono ?_; rintro e w2 ⟨rfl, hb2⟩; have cm0_0 : w2.cell? ⟨w.heap.size, 0, none⟩ = some (.int .i64 m.kind) := (hb2.cell (p := ⟨w.heap.size, 0, none⟩) smx).trans kpx; have cm0_1 : w2.cell? ⟨w.heap.size, 1, none⟩ = some (.int .i64 m.validity) := (hb2.cell (p := ⟨w.heap.size, 1, none⟩) smx).trans kpx; have cm0_2 : w2.cell? ⟨w.heap.size, 2, none⟩ = some (.int .i64 m.uid) := (hb2.cell (p := ⟨w.heap.size, 2, none⟩) smx).trans kpx; have cm0_3 : w2.cell? ⟨w.heap.size, 3, none⟩ = some (.int .i64 m.flags) := (hb2.cell (p := ⟨w.heap.size, 3, none⟩) smx).trans kpx; have cm0_4 : w2.cell? ⟨w.heap.size, 4, none⟩ = some (.string m.name) := (hb2.cell (p := ⟨w.heap.size, 4, none⟩) smx).trans kpx; have cm0_5 : w2.cell? ⟨w.heap.size, 5, none⟩ = some (.string m.text) := (hb2.cell (p := ⟨w.heap.size, 5, none⟩) smx).trans kpx; have sm0 : w.heap.size < w2.heap.size := (by have hss := hb2.size; first | omega | (simp at hss; omega)); obtain ⟨x0, x1, x2, x3⟩ := (OwnBs.ext HO.out (show Below w1.heap.size w1 w2 from bxt)).cells hiz; have hgb2 : gb < w2.heap.size := (by have hss := hb2.size; first | omega | (simp at hss; omega)); have hs12 : w1.heap.size ≤ w2.heap.size := (by have hss := hb2.size; first | omega | (simp at hss; omega)); have H2 : Hid (OwnBs w2 (w.heap.size + 1) 85 111 (some ⟨gb, 0, none⟩) q zs) := OwnBs.ext HO1.out (show Below w1.heap.size w1 w2 from bxt); have HM2 : Hid (Own w2 (w.heap.size + 1) 111 3 (.slice zs[i].ma zs[i].msgs.length zs[i].mc) zs[i].msgs.length (zs[i].msgs.flatMap DMsg.cells)) := (by have hq := H2.out.msg zs[i] (List.getElem_mem hiz); exact hq); have hs2 : w.heap.size + 1 ≤ w2.heap.size := (by omega); have HMS : Hid (zs[i].msgs = l[i].msgs) := Lib.hid (by have h := box_at HZB.out i hiz hi; simp only [PBox.box, DBox.mk.injEq] at h; exact h.2.2.2); have HPZ : Hid (placeOf m.uid zs[i].msgs = (p : Int)) := Lib.hid (by rw [HMS.out]; exact HPL.out); have hpz : p < zs[i].msgs.length := (by rw [HMS.out]; exact hpp); have hzm : zs[i].msgs.length ≤ 6 := (by rw [HMS.out]; exact HLM.out _ (List.getElem_mem hi)); have hmc : zs[i].mc ≠ 0 := (by have := HM2.out.cap; omega); obtain ⟨gm, hgm, -⟩ := HM2.out.row hmc; have hgml := HM2.out.lt gm (by simp [foot, hgm, hmc]); have h15 : (p : Int) < (zs[i].msgs.length : Int) := (by omega); have HM2' : Hid (Own w2 (w.heap.size + 1) 111 3 (.slice (some ⟨gm, 0, none⟩) zs[i].msgs.length zs[i].mc) zs[i].msgs.length (zs[i].msgs.flatMap DMsg.cells)) := Lib.hid (by have hq := HM2.out; rw [hgm] at hq; exact hq); rw [hgm] at x3) | (go_at_call 98; refine (specBoxWith_any l _ _ m.validity _ (HR.out.ext bxt) (i : Int) HZ).mono ?_; rintro e wx ⟨rfl, hwx⟩; subst wx))
  go_region_held3 (fun w' => Below w2.heap.size w2 w' ∧ (∀ b o, b < w2.heap.size → w'.cell? ⟨b, o, none⟩ = w2.cell? ⟨b, o, none⟩)) (first | with_reducible exact sBeg _ | with_reducible exact sExt (by assumption) (by assumption)) ((go_at_call 101; refine (specPlaceOf_any zs[i].name zs[i].validity zs[i].next zs[i].msgs _ _ m.uid _ (Rd.of_Own (Own.ext HM2'.out (show Below w2.heap.size w2 _ from bxt))) (p : Int) HPZ).mono ?_; rintro e w3 ⟨rfl, hb3⟩; have hb23 : Below w2.heap.size w2 w3 := bxt; obtain ⟨v0, v1, v2, v3⟩ := (OwnBs.ext H2.out hb23).cells hiz; rw [hgm] at v3; have cn0_0 : w3.cell? ⟨w.heap.size, 0, none⟩ = some (.int .i64 m.kind) := (hb23.cell (p := ⟨w.heap.size, 0, none⟩) smx).trans kpx; have cn0_1 : w3.cell? ⟨w.heap.size, 1, none⟩ = some (.int .i64 m.validity) := (hb23.cell (p := ⟨w.heap.size, 1, none⟩) smx).trans kpx; have cn0_2 : w3.cell? ⟨w.heap.size, 2, none⟩ = some (.int .i64 m.uid) := (hb23.cell (p := ⟨w.heap.size, 2, none⟩) smx).trans kpx; have cn0_3 : w3.cell? ⟨w.heap.size, 3, none⟩ = some (.int .i64 m.flags) := (hb23.cell (p := ⟨w.heap.size, 3, none⟩) smx).trans kpx; have cn0_4 : w3.cell? ⟨w.heap.size, 4, none⟩ = some (.string m.name) := (hb23.cell (p := ⟨w.heap.size, 4, none⟩) smx).trans kpx; have cn0_5 : w3.cell? ⟨w.heap.size, 5, none⟩ = some (.string m.text) := (hb23.cell (p := ⟨w.heap.size, 5, none⟩) smx).trans kpx; have sn0 : w.heap.size < w3.heap.size := (by have hss := hb23.size; first | omega | (simp at hss; omega)); obtain ⟨⟨u3, y3⟩, z3⟩ := (Own.ext HM2'.out hb23).slot (p * 3 + 1) (by omega); have HB23 := Lib.hid hb23))
  go_wp2_with fail
  have HT5 : Hid (OwnBs (w3.setCell ⟨gm, p * 3 + 1, none⟩ (.int .i64 m.flags)) (w.heap.size + 1) 85 111 (some ⟨gb, 0, none⟩) q (zs.set i ⟨zs[i].name, zs[i].validity, zs[i].next, zs[i].msgs.set p ⟨zs[i].msgs[p].uid, m.flags, zs[i].msgs[p].text⟩, zs[i].ma, zs[i].mc⟩)) :=
    OwnBs.tail (OwnBs.ext H2.out HB23.out) hiz _ (by simp) (by rw [hgm]; exact Own.put1 (Own.ext HM2'.out HB23.out) hmc (flat_set1 DMsg.cells_len zs[i].msgs p 1 hpz (by omega) (.int .i64 m.flags) ⟨zs[i].msgs[p].uid, m.flags, zs[i].msgs[p].text⟩ (by simp [DMsg.cells]))) (grown_so (World.grownBy.refl _ _) (by simp [PBox.key, foot, hgm, hmc]) _)
  have HL5 : Hid (Below (w.heap.size + 1) w1 (w3.setCell ⟨gm, p * 3 + 1, none⟩ (.int .i64 m.flags))) := Below.setCell (Below.mono (show Ext w1 w3 from bxt) hs1) hgml.1 _
  go_upto_region 20 with fail
  go_cut [] (Refilled (w.heap.size + 1) 85 111 gb q zs i zs[i].name zs[i].validity zs[i].next (zs[i].msgs.set p ⟨zs[i].msgs[p].uid, m.flags, zs[i].msgs[p].text⟩) w1)
  case first =>
    first
    | go_region_law (fail)
    | fail
    all_goals go_wp2_with fail
    all_goals go_meet
    all_goals first | exact ⟨zs[i].ma, zs[i].mc, HT5.out.ext ((Below.refl _ _).drew), HL5.out.drew⟩ | exact ⟨zs[i].ma, zs[i].mc, HT5.out, HL5.out⟩
  case rest =>
    obtain ⟨g3, q3, hx, hbl⟩ := hcut
    have HX := Lib.hid hx
    have HBL := Lib.hid hbl
    clear hx hbl
    go_wp2_with fail
    refine bodyPost_ret (v := .tuple #[.slice (some ⟨gb, 0, none⟩) zs.length q, .bool true]) (by simp [results, Tryd.results81, go_sem, *]) rfl ⟨(some ⟨gb, 0, none⟩), q, zs.set i ⟨zs[i].name, zs[i].validity, zs[i].next, zs[i].msgs.set p ⟨zs[i].msgs[p].uid, m.flags, zs[i].msgs[p].text⟩, g3, q3⟩, by simp, OwnBs.le HX.out (by omega), ?_, Below.trans (show Below w.heap.size w w1 from bxt) (Below.mono HBL.out (by omega))⟩
    have hbi : zs[i].box = l[i].box := box_at HZB.out i hiz hi
    simp only [PBox.box, DBox.mk.injEq] at hbi
    rw [List.map_set, HZB.out]
    simp only [PBox.box, hbi.1, hbi.2.1, hbi.2.2.1, hbi.2.2.2]
end Go.Proofs.YtadjlfcdjkikgaaDoor

namespace Go.Proofs.YtadjlfcdjkikgaaDoor
open Go.RowKit
set_option linter.unusedVariables false
set_option linter.unusedSimpArgs false

set_option maxRecDepth 100000 in
set_option maxHeartbeats 8000000 in
theorem specApplied6_any (l : List PBox) (a : Option Addr) (c i : Nat) (m : DCommit) (w : World) (R : Rd w a c 4 l.length (l.flatMap PBox.cells)) (M : RdM w l) (hl : l.length ≤ 4) (hlm : ∀ y ∈ l, y.msgs.length ≤ 6) (gn : ∀ y ∈ l, y.name.size ≤ 9223372036854775807) (gt : ∀ y ∈ l, ∀ m ∈ y.msgs, m.text.size ≤ 9223372036854775807) (g1 : m.name.size ≤ 9223372036854775807) (g2 : m.text.size ≤ 9223372036854775807) (hap : AppliesP (l.map PBox.box) m) (hk : m.kind = 6) (hi : i < l.length) (hz : boxWith m.validity (l.map PBox.box) = (i : Int)) (p : Nat) (hpp : p < l[i].msgs.length) (hplc : placeOf m.uid l[i].msgs = (p : Int)) :
    Calls Tryd.prog 81 #[.slice a l.length c, .agg #[.int .i64 m.kind, .int .i64 m.validity, .int .i64 m.uid, .int .i64 m.flags, .string m.name, .string m.text]] w (AppPost 85 111 w ((l.map PBox.box).set i ⟨l[i].name, l[i].validity, l[i].next, l[i].msgs.eraseIdx p⟩) true) := by
  obtain ⟨i0, hi0, hz0, hz1, hz2⟩ := info_parts info_Box
  obtain ⟨j0, hj0, hy0, hy1, hy2⟩ := info_parts info_Msg
  have HR := Lib.hid R
  have HM := Lib.hid M
  have HLM := Lib.hid hlm
  have HT : Hid (Tells true (AppliesP (l.map PBox.box) m)) := Lib.hid ⟨fun _ => hap, fun _ => rfl⟩
  have HGN := Lib.hid gn
  have HGT := Lib.hid gt
  have HZ := Lib.hid hz
  have k1 : (m.kind == 1) = false := by rw [hk]; rfl
  have k2 : (m.kind == 2) = false := by rw [hk]; rfl
  have k3 : (m.kind == 3) = false := by rw [hk]; rfl
  have k4 : (m.kind == 4) = false := by rw [hk]; rfl
  have k5 : (m.kind == 5) = false := by rw [hk]; rfl
  have k6 : (m.kind == 6) = true := by rw [hk]; rfl
  have HK := Lib.hid hk
  have HPL := Lib.hid hplc
  clear hplc
  have h14 : IntKind.i64.wrap ((p : Int) + 1) = (p : Int) + 1 := IntWalk.i64_in _ (by have := hlm l[i] (List.getElem_mem hi); omega)
  have h16 : (0 : Int) ≤ (p : Int) := by omega
  clear R M hlm hap gn gt hz hk
  go_enter Tryd.func81, Tryd.ntmps81
  go_wp2_with (first | (go_at_call 96; refine (specCopies_any l a c _ (HR.out.ext bxt) (RdM.ext HM.out (show Below w.heap.size w _ from bxt)) (by omega) (fun y hy => by have := HLM.out y hy; omega)).mono ?_; rintro e w1 ⟨gb, q, zs, rfl, hown, hzb, hb1⟩; have cl0_0 : w1.cell? ⟨w.heap.size, 0, none⟩ = some (.int .i64 m.kind) := (hb1.cell (p := ⟨w.heap.size, 0, none⟩) smx).trans kpx; have cl0_1 : w1.cell? ⟨w.heap.size, 1, none⟩ = some (.int .i64 m.validity) := (hb1.cell (p := ⟨w.heap.size, 1, none⟩) smx).trans kpx; have cl0_2 : w1.cell? ⟨w.heap.size, 2, none⟩ = some (.int .i64 m.uid) := (hb1.cell (p := ⟨w.heap.size, 2, none⟩) smx).trans kpx; have cl0_3 : w1.cell? ⟨w.heap.size, 3, none⟩ = some (.int .i64 m.flags) := (hb1.cell (p := ⟨w.heap.size, 3, none⟩) smx).trans kpx; have cl0_4 : w1.cell? ⟨w.heap.size, 4, none⟩ = some (.string m.name) := (hb1.cell (p := ⟨w.heap.size, 4, none⟩) smx).trans kpx; have cl0_5 : w1.cell? ⟨w.heap.size, 5, none⟩ = some (.string m.text) := (hb1.cell (p := ⟨w.heap.size, 5, none⟩) smx).trans kpx; have sl0 : w.heap.size < w1.heap.size := (by have hss := hb1.size; first | omega | (simp at hss; omega)); have HO1 : Hid (OwnBs w1 (w.heap.size + 1) 85 111 (some ⟨gb, 0, none⟩) q zs) := OwnBs.le hown (by first | (simp; done) | (simp; omega)); have HO : Hid (OwnBs w1 w.heap.size 85 111 (some ⟨gb, 0, none⟩) q zs) := OwnBs.le HO1.out (by omega); have hs1 : w.heap.size + 1 ≤ w1.heap.size := (by have hss := hb1.size; first | omega | (simp at hss; omega)); have HZB := Lib.hid hzb; have HZL := Lib.hid (box_len hzb); have hzs : zs.length ≤ 4 := (by rw [HZL.out]; exact hl); have hiz : i < zs.length := (by rw [HZL.out]; exact hi); have hq : q ≠ 0 := (by have := HO.out.row.cap; omega); have h11 : (i : Int) < (zs.length : Int) := (by omega); have h12 : (0 : Int) ≤ (i : Int) := (by omega); have hgb1 : gb < w1.heap.size := (HO.out.row.lt gb (by simp [foot, hq])).2; clear hown hzb) | (go_at_call 97; refine (specApplies_any l a c m _ (HR.out.ext bxt) (RdM.ext HM.out (show Below w.heap.size w _ from bxt)) HGN.out HGT.out g1 g2 true HT).mono ?_; rintro e w2 ⟨rfl, hb2⟩; have cm0_0 : w2.cell? ⟨w.heap.size, 0, none⟩ = some (.int .i64 m.kind) := (hb2.cell (p := ⟨w.heap.size, 0, none⟩) smx).trans kpx; have cm0_1 : w2.cell? ⟨w.heap.size, 1, none⟩ = some (.int .i64 m.validity) := (hb2.cell (p := ⟨w.heap.size, 1, none⟩) smx).trans kpx; have cm0_2 : w2.cell? ⟨w.heap.size, 2, none⟩ = some (.int .i64 m.uid) := (hb2.cell (p := ⟨w.heap.size, 2, none⟩) smx).trans kpx; have cm0_3 : w2.cell? ⟨w.heap.size, 3, none⟩ = some (.int .i64 m.flags) := (hb2.cell (p := ⟨w.heap.size, 3, none⟩) smx).trans kpx; have cm0_4 : w2.cell? ⟨w.heap.size, 4, none⟩ = some (.string m.name) := (hb2.cell (p := ⟨w.heap.size, 4, none⟩) smx).trans kpx; have cm0_5 : w2.cell? ⟨w.heap.size, 5, none⟩ = some (.string m.text) := (hb2.cell (p := ⟨w.heap.size, 5, none⟩) smx).trans kpx; have sm0 : w.heap.size < w2.heap.size := (by have hss := hb2.size; first | omega | (simp at hss; omega)); obtain ⟨x0, x1, x2, x3⟩ := (OwnBs.ext HO.out (show Below w1.heap.size w1 w2 from bxt)).cells hiz; have hgb2 : gb < w2.heap.size := (by have hss := hb2.size; first | omega | (simp at hss; omega)); have hs12 : w1.heap.size ≤ w2.heap.size := (by have hss := hb2.size; first | omega | (simp at hss; omega)); have H2 : Hid (OwnBs w2 (w.heap.size + 1) 85 111 (some ⟨gb, 0, none⟩) q zs) := OwnBs.ext HO1.out (show Below w1.heap.size w1 w2 from bxt); have HM2 : Hid (Own w2 (w.heap.size + 1) 111 3 (.slice zs[i].ma zs[i].msgs.length zs[i].mc) zs[i].msgs.length (zs[i].msgs.flatMap DMsg.cells)) := (by have hq := H2.out.msg zs[i] (List.getElem_mem hiz); exact hq); have hs2 : w.heap.size + 1 ≤ w2.heap.size := (by omega); have HMS : Hid (zs[i].msgs = l[i].msgs) := Lib.hid (by have h := box_at HZB.out i hiz hi; simp only [PBox.box, DBox.mk.injEq] at h; exact h.2.2.2); have HPZ : Hid (placeOf m.uid zs[i].msgs = (p : Int)) := Lib.hid (by rw [HMS.out]; exact HPL.out); have hpz : p < zs[i].msgs.length := (by rw [HMS.out]; exact hpp); have hzm : zs[i].msgs.length ≤ 6 := (by rw [HMS.out]; exact HLM.out _ (List.getElem_mem hi)); have hmc : zs[i].mc ≠ 0 := (by have := HM2.out.cap; omega); obtain ⟨gm, hgm, -⟩ := HM2.out.row hmc; have hgml := HM2.out.lt gm (by simp [foot, hgm, hmc]); have h15 : (p : Int) < (zs[i].msgs.length : Int) := (by omega); have HM2' : Hid (Own w2 (w.heap.size + 1) 111 3 (.slice (some ⟨gm, 0, none⟩) zs[i].msgs.length zs[i].mc) zs[i].msgs.length (zs[i].msgs.flatMap DMsg.cells)) := Lib.hid (by have hq := HM2.out; rw [hgm] at hq; exact hq); rw [hgm] at x3) | (go_at_call 98; refine (specBoxWith_any l _ _ m.validity _ (HR.out.ext bxt) (i : Int) HZ).mono ?_; rintro e wx ⟨rfl, hwx⟩; subst wx))
  go_region_held3 (fun w' => Below w2.heap.size w2 w' ∧ (∀ b o, b < w2.heap.size → w'.cell? ⟨b, o, none⟩ = w2.cell? ⟨b, o, none⟩)) (first | with_reducible exact sBeg _ | with_reducible exact sExt (by assumption) (by assumption)) ((go_at_call 101; refine (specPlaceOf_any zs[i].name zs[i].validity zs[i].next zs[i].msgs _ _ m.uid _ (Rd.of_Own (Own.ext HM2'.out (show Below w2.heap.size w2 _ from bxt))) (p : Int) HPZ).mono ?_; rintro e w3 ⟨rfl, hb3⟩; have hb23 : Below w2.heap.size w2 w3 := bxt; obtain ⟨v0, v1, v2, v3⟩ := (OwnBs.ext H2.out hb23).cells hiz; rw [hgm] at v3; have cn0_0 : w3.cell? ⟨w.heap.size, 0, none⟩ = some (.int .i64 m.kind) := (hb23.cell (p := ⟨w.heap.size, 0, none⟩) smx).trans kpx; have cn0_1 : w3.cell? ⟨w.heap.size, 1, none⟩ = some (.int .i64 m.validity) := (hb23.cell (p := ⟨w.heap.size, 1, none⟩) smx).trans kpx; have cn0_2 : w3.cell? ⟨w.heap.size, 2, none⟩ = some (.int .i64 m.uid) := (hb23.cell (p := ⟨w.heap.size, 2, none⟩) smx).trans kpx; have cn0_3 : w3.cell? ⟨w.heap.size, 3, none⟩ = some (.int .i64 m.flags) := (hb23.cell (p := ⟨w.heap.size, 3, none⟩) smx).trans kpx; have cn0_4 : w3.cell? ⟨w.heap.size, 4, none⟩ = some (.string m.name) := (hb23.cell (p := ⟨w.heap.size, 4, none⟩) smx).trans kpx; have cn0_5 : w3.cell? ⟨w.heap.size, 5, none⟩ = some (.string m.text) := (hb23.cell (p := ⟨w.heap.size, 5, none⟩) smx).trans kpx; have sn0 : w.heap.size < w3.heap.size := (by have hss := hb23.size; first | omega | (simp at hss; omega)); obtain ⟨⟨u3, y3⟩, z3⟩ := (Own.ext HM2'.out hb23).slot (p * 3 + 1) (by omega); have HB23 := Lib.hid hb23))
  go_wp2_with fail
  have H3 : Hid (OwnBs w3 (w.heap.size + 1) 85 111 (some ⟨gb, 0, none⟩) q zs) := OwnBs.ext H2.out HB23.out
  have hs3 : w.heap.size + 1 ≤ w3.heap.size := by have := HB23.out.size; omega
  have hgb3 : gb < w3.heap.size := by have := HB23.out.size; omega
  have HM3 := Lib.hid (Own.ext HM2'.out HB23.out)
  have HR1 := Lib.hid ((Rd.of_Own HM3.out).takeAt DMsg.cells_len p (by omega))
  have HR2 := Lib.hid (Rd.dropAt (A := (if zs[i].mc = p + 1 then (some ⟨gm, 0, none⟩ : Option Addr) else some ⟨gm, (p + 1) * 3, none⟩)) DMsg.cells_len (Rd.of_Own HM3.out) (p + 1) (by omega) (fun hlt => by rw [if_neg (by have := HM3.out.cap; omega), Nat.zero_add]) _ _ rfl rfl)
  have hr : (zs[i].msgs.take p).flatMap DMsg.cells ++ (zs[i].msgs.drop (p + 1)).flatMap DMsg.cells = (zs[i].msgs.eraseIdx p).flatMap DMsg.cells := by
    rw [List.eraseIdx_eq_take_drop_succ, List.flatMap_append]
  have HRR := Lib.hid hr
  have hl2 : (zs[i].msgs.eraseIdx p).length = p + (zs[i].msgs.length - (p + 1)) := by rw [List.length_eraseIdx, if_pos hpz]; omega
  have HLL := Lib.hid hl2
  clear hr hl2
  have h21 : (0 : Int) ≤ (p : Int) + 1 := by omega
  have h22 : ((p : Int) + 1).toNat = p + 1 := by omega
  have h23 : (p : Int) + 1 ≤ (zs[i].msgs.length : Int) := by omega
  have h24 : (p : Int) ≤ (zs[i].msgs.length : Int) := by omega
  have h25 : (p : Int) ≤ (zs[i].mc : Int) := by have := HM3.out.cap; omega
  have h26 : (zs[i].msgs.length : Int) ≤ (zs[i].mc : Int) := by have := HM3.out.cap; omega
  go_upto_region 22 with fail
  go_cut [] (Refilled (w.heap.size + 1) 85 111 gb q zs i zs[i].name zs[i].validity zs[i].next (zs[i].msgs.eraseIdx p) w1)
  case first =>
    first
    | go_region_law (first | (refine step_app (B := w3.heap.size) (n := 0) (xs := []) (v := .slice (some ⟨w3.heap.size, 0, none⟩) 0 0) rfl (.tmp 102) (.tmp 109) 83 rfl 111 j0 _ _ Tryd.underlying83 hj0 hy0 hy1 hy2 rfl (by decide) (by simp [Act.eval, Act.put]) (Own.none0 _) (some ⟨gm, 0, none⟩) p zs[i].mc _ (by simp [Act.eval, Act.put]) (HR1.out.ext bxt) (one_flat DMsg.one _) (by omega) (by omega) (by simp) ?_; intro g5 q5 w5 hown5 hg5; simp only [Nat.zero_add, List.nil_append] at hown5; have hb5 := grown_below (show World.grownBy _ w5 none from hg5); have hb35 : Below w3.heap.size w3 w5 := bxt; have hz5 : w3.heap.size ≤ w5.heap.size := hb35.size; obtain ⟨a0, a1, a2, a3⟩ := (OwnBs.ext H3.out hb35).cells hiz; rw [hgm] at a3) | (refine step_app (B := w3.heap.size) (v := .slice g5 p q5) rfl (.tmp 110) (.tmp 118) 83 rfl 111 j0 _ _ Tryd.underlying83 hj0 hy0 hy1 hy2 rfl (by decide) (by simp [Act.eval, Act.put]) hown5 (if zs[i].mc = p + 1 then (some ⟨gm, 0, none⟩ : Option Addr) else some ⟨gm, (p + 1) * 3, none⟩) (zs[i].msgs.length - (p + 1)) (zs[i].mc - (p + 1)) _ (by simp [Act.eval, Act.put]) (HR2.out.ext bxt) (one_flat DMsg.one _) (by omega) (by omega) (by omega) ?_; intro g6 q6 w6 hown6 hg6; have hb36 : Below w3.heap.size w3 w6 := below_foot (B := w3.heap.size) hb35 hown5 (Nat.le_refl _) (by omega) hg6; obtain ⟨⟨u3, y3⟩, z3⟩ := (OwnBs.ext H3.out hb36).slot hq hiz 3 (by omega)))
    | fail
    all_goals go_wp2_with fail
    all_goals go_meet
    all_goals exact ⟨g6, q6, OwnBs.msgs H3.out hq hiz _ HLL.out (grown_ext hb36) (Own.le (HRR.out ▸ hown6) hs3) (fun k hk => Or.inr (hown6.lt k hk).1), Below.setCell (Below.mono (Below.ext (show Ext w1 w3 from bxt) hb36) hs1) (H3.out.row.lt gb (by simp [foot, hq])).1 _⟩
  case rest =>
    obtain ⟨g3, q3, hx, hbl⟩ := hcut
    have HX := Lib.hid hx
    have HBL := Lib.hid hbl
    clear hx hbl
    go_wp2_with fail
    refine bodyPost_ret (v := .tuple #[.slice (some ⟨gb, 0, none⟩) zs.length q, .bool true]) (by simp [results, Tryd.results81, go_sem, *]) rfl ⟨(some ⟨gb, 0, none⟩), q, zs.set i ⟨zs[i].name, zs[i].validity, zs[i].next, zs[i].msgs.eraseIdx p, g3, q3⟩, by simp, OwnBs.le HX.out (by omega), ?_, Below.trans (show Below w.heap.size w w1 from bxt) (Below.mono HBL.out (by omega))⟩
    have hbi : zs[i].box = l[i].box := box_at HZB.out i hiz hi
    simp only [PBox.box, DBox.mk.injEq] at hbi
    rw [List.map_set, HZB.out]
    simp only [PBox.box, hbi.1, hbi.2.1, hbi.2.2.1, hbi.2.2.2]
end Go.Proofs.YtadjlfcdjkikgaaDoor

namespace Go.Proofs.YtadjlfcdjkikgaaDoor
open Go.RowKit
set_option linter.unusedVariables false
set_option linter.unusedSimpArgs false

theorem boxesP_len {l : List PBox} (h : BoxesP (l.map PBox.box)) : l.length ≤ 4 ∧ ∀ y ∈ l, y.msgs.length ≤ 6 := by
  refine ⟨by simpa using h.2, fun y hy => ?_⟩
  obtain ⟨k, hk, rfl⟩ := List.mem_iff_getElem.1 hy
  obtain ⟨h0, h6, -⟩ := h.1 k (by simpa using hk)
  simpa [PBox.box] using h6.2.2.2.1
theorem sExtB {W w w' : World} (h : Below W.heap.size W w ∧ (∀ b o, b < W.heap.size → w.cell? ⟨b, o, none⟩ = W.cell? ⟨b, o, none⟩)) (h2 : Below W.heap.size w w') : Below W.heap.size W w' ∧ (∀ b o, b < W.heap.size → w'.cell? ⟨b, o, none⟩ = W.cell? ⟨b, o, none⟩) :=
  ⟨h.1.trans h2, fun b o hb => (h2.cell (p := ⟨b, o, none⟩) hb).trans (h.2 b o hb)⟩

set_option maxRecDepth 100000 in
set_option maxHeartbeats 8000000 in
theorem specApplied0_any (l : List PBox) (a : Option Addr) (c : Nat) (m : DCommit) (w : World) (R : Rd w a c 4 l.length (l.flatMap PBox.cells)) (M : RdM w l) (hl : l.length ≤ 1048576) (hlm : ∀ y ∈ l, y.msgs.length ≤ 1048576) (gn : ∀ y ∈ l, y.name.size ≤ 9223372036854775807) (gt : ∀ y ∈ l, ∀ m ∈ y.msgs, m.text.size ≤ 9223372036854775807) (g1 : m.name.size ≤ 9223372036854775807) (g2 : m.text.size ≤ 9223372036854775807) (hap : ¬ AppliesP (l.map PBox.box) m) :
    Calls Tryd.prog 81 #[.slice a l.length c, .agg #[.int .i64 m.kind, .int .i64 m.validity, .int .i64 m.uid, .int .i64 m.flags, .string m.name, .string m.text]] w (AppPost 85 111 w (l.map PBox.box) false) := by
  obtain ⟨i0, hi0, hz0, hz1, hz2⟩ := info_parts info_Box
  obtain ⟨j0, hj0, hy0, hy1, hy2⟩ := info_parts info_Msg
  have HR := Lib.hid R
  have HM := Lib.hid M
  have HLM := Lib.hid hlm
  have HT : Hid (Tells false (AppliesP (l.map PBox.box) m)) := Lib.hid ⟨fun h => (by cases h), fun h => absurd h hap⟩
  have HGN := Lib.hid gn
  have HGT := Lib.hid gt
  obtain ⟨z, hz⟩ : ∃ z, boxWith m.validity (l.map PBox.box) = z := ⟨_, rfl⟩
  have HZ := Lib.hid hz
  clear R M hlm hap gn gt hz
  go_enter Tryd.func81, Tryd.ntmps81
  go_wp2_with (first | (go_at_call 96; refine (specCopies_any l a c _ (HR.out.ext bxt) (RdM.ext HM.out (show Below w.heap.size w _ from bxt)) (by omega) (fun y hy => by have := HLM.out y hy; omega)).mono ?_; rintro e w1 ⟨gb, q, zs, rfl, hown, hzb, hb1⟩; have cl0_0 : w1.cell? ⟨w.heap.size, 0, none⟩ = some (.int .i64 m.kind) := (hb1.cell (p := ⟨w.heap.size, 0, none⟩) smx).trans kpx; have cl0_1 : w1.cell? ⟨w.heap.size, 1, none⟩ = some (.int .i64 m.validity) := (hb1.cell (p := ⟨w.heap.size, 1, none⟩) smx).trans kpx; have cl0_2 : w1.cell? ⟨w.heap.size, 2, none⟩ = some (.int .i64 m.uid) := (hb1.cell (p := ⟨w.heap.size, 2, none⟩) smx).trans kpx; have cl0_3 : w1.cell? ⟨w.heap.size, 3, none⟩ = some (.int .i64 m.flags) := (hb1.cell (p := ⟨w.heap.size, 3, none⟩) smx).trans kpx; have cl0_4 : w1.cell? ⟨w.heap.size, 4, none⟩ = some (.string m.name) := (hb1.cell (p := ⟨w.heap.size, 4, none⟩) smx).trans kpx; have cl0_5 : w1.cell? ⟨w.heap.size, 5, none⟩ = some (.string m.text) := (hb1.cell (p := ⟨w.heap.size, 5, none⟩) smx).trans kpx; have sl0 : w.heap.size < w1.heap.size := (by have hss := hb1.size; first | omega | (simp at hss; omega)); have HO1 : Hid (OwnBs w1 (w.heap.size + 1) 85 111 (some ⟨gb, 0, none⟩) q zs) := OwnBs.le hown (by first | (simp; done) | (simp; omega)); have HO : Hid (OwnBs w1 w.heap.size 85 111 (some ⟨gb, 0, none⟩) q zs) := OwnBs.le HO1.out (by omega); have hs1 : w.heap.size + 1 ≤ w1.heap.size := (by have hss := hb1.size; first | omega | (simp at hss; omega)); have HZB := Lib.hid hzb; have HZL := Lib.hid (box_len hzb); have hzs : zs.length ≤ 1048576 := (by rw [HZL.out]; exact hl); clear hown hzb) | (go_at_call 97; refine (specApplies_any l a c m _ (HR.out.ext bxt) (RdM.ext HM.out (show Below w.heap.size w _ from bxt)) HGN.out HGT.out g1 g2 false HT).mono ?_; rintro e w2 ⟨rfl, hb2⟩; have cm0_0 : w2.cell? ⟨w.heap.size, 0, none⟩ = some (.int .i64 m.kind) := (hb2.cell (p := ⟨w.heap.size, 0, none⟩) smx).trans kpx; have cm0_1 : w2.cell? ⟨w.heap.size, 1, none⟩ = some (.int .i64 m.validity) := (hb2.cell (p := ⟨w.heap.size, 1, none⟩) smx).trans kpx; have cm0_2 : w2.cell? ⟨w.heap.size, 2, none⟩ = some (.int .i64 m.uid) := (hb2.cell (p := ⟨w.heap.size, 2, none⟩) smx).trans kpx; have cm0_3 : w2.cell? ⟨w.heap.size, 3, none⟩ = some (.int .i64 m.flags) := (hb2.cell (p := ⟨w.heap.size, 3, none⟩) smx).trans kpx; have cm0_4 : w2.cell? ⟨w.heap.size, 4, none⟩ = some (.string m.name) := (hb2.cell (p := ⟨w.heap.size, 4, none⟩) smx).trans kpx; have cm0_5 : w2.cell? ⟨w.heap.size, 5, none⟩ = some (.string m.text) := (hb2.cell (p := ⟨w.heap.size, 5, none⟩) smx).trans kpx; have sm0 : w.heap.size < w2.heap.size := (by have hss := hb2.size; first | omega | (simp at hss; omega))))
  refine bodyPost_ret (v := .tuple #[.slice (some ⟨gb, 0, none⟩) (zs).length q, .bool false]) (by simp [results, Tryd.results81, go_sem, *]) rfl ⟨(some ⟨gb, 0, none⟩), q, zs, rfl, OwnBs.ext HO.out (show Below w1.heap.size w1 _ from bxt), HZB.out, bxt⟩

theorem specApplied_any (l : List PBox) (a : Option Addr) (c : Nat) (m : DCommit) (w : World) (R : Rd w a c 4 l.length (l.flatMap PBox.cells)) (M : RdM w l) (hl : l.length ≤ 1048576) (hlm : ∀ y ∈ l, y.msgs.length ≤ 1048576) (gn : ∀ y ∈ l, y.name.size ≤ 9223372036854775807) (gt : ∀ y ∈ l, ∀ m ∈ y.msgs, m.text.size ≤ 9223372036854775807) (g1 : m.name.size ≤ 9223372036854775807) (g2 : m.text.size ≤ 9223372036854775807) (r : Bool) (Hr : Hid (Tells r (AppliesP (l.map PBox.box) m))) :
    Calls Tryd.prog 81 #[.slice a l.length c, .agg #[.int .i64 m.kind, .int .i64 m.validity, .int .i64 m.uid, .int .i64 m.flags, .string m.name, .string m.text]] w (AppPost 85 111 w (if r then appD (l.map PBox.box) m else l.map PBox.box) r) := by
  cases r with
  | false => exact specApplied0_any l a c m w R M hl hlm gn gt g1 g2 (fun h => absurd (Hr.out.2 h) (by simp))
  | true =>
    have hap := Hr.out.1 rfl
    have hap2 := hap
    obtain ⟨hb, hc, hf⟩ := hap2
    obtain ⟨hl4, hlm6⟩ := boxesP_len hb
    rw [if_pos rfl]
    unfold appD
    by_cases h1 : m.kind = 1
    · rw [if_pos h1]
      exact specApplied1_any l a c m w R M hl4 hlm6 gn gt g1 g2 hap h1
    obtain ⟨i, hi, hz, h3, h4, h5⟩ := hf.2 h1
    have hi' : i < l.length := by simpa using hi
    have ha : atD (l.map PBox.box) m = i := by unfold atD; omega
    have ht : theD (l.map PBox.box) i = ⟨l[i].name, l[i].validity, l[i].next, l[i].msgs⟩ := by rw [theD_of hi]; simp [PBox.box]
    have hnx : 1 ≤ l[i].next ∧ l[i].next ≤ 999999999 := by
      obtain ⟨h0, h6, -⟩ := hb.1 i hi
      simpa [PBox.box] using h6.2.2.1
    rw [if_neg h1, ha, ht]
    by_cases h2 : m.kind = 2
    · rw [if_pos h2]
      exact specApplied2_any l a c i m w R M hl4 hlm6 gn gt g1 g2 hap h2 hi' hz
    rw [if_neg h2]
    unfold newD
    by_cases h3k : m.kind = 3
    · rw [if_pos h3k, if_pos h3k]
      exact specApplied3_any l a c i m w R M hl4 hlm6 gn gt g1 g2 hap h3k hi' hz
    rw [if_neg h3k, if_neg h3k]
    by_cases h4k : m.kind = 4
    · rw [if_pos h4k]
      have h7 : m.uid = l[i].next := by simpa [PBox.box] using (h4 h4k).1
      have := specApplied4_any l a c i m w R M hl4 hlm6 gn gt g1 g2 hap h4k hi' hz (by omega)
      rwa [h7] at this ⊢
    rw [if_neg h4k]
    by_cases h5k : m.kind = 5
    · rw [if_pos h5k]
      have h7 : 0 ≤ placeOf m.uid l[i].msgs := by simpa [PBox.box] using h5 (Or.inl h5k)
      obtain ⟨h8, h9⟩ := place_of h7
      have := specApplied5_any l a c i m w R M hl4 hlm6 gn gt g1 g2 hap h5k hi' hz (pl m.uid l[i].msgs) h8 h9
      rwa [theM_of h8]
    rw [if_neg h5k]
    have h6k : m.kind = 6 := by have := kind_of hc; omega
    have h7 : 0 ≤ placeOf m.uid l[i].msgs := by simpa [PBox.box] using h5 (Or.inr h6k)
    obtain ⟨h8, h9⟩ := place_of h7
    exact specApplied6_any l a c i m w R M hl4 hlm6 gn gt g1 g2 hap h6k hi' hz (pl m.uid l[i].msgs) h8 h9
end Go.Proofs.YtadjlfcdjkikgaaDoor
