/-
  The program's commit on a store behind a pointer: a commit that is done.
-/
import Derived.Test.YtjcnhkmhcfmoeaaGreatXCom
namespace Go.Proofs.YtjcnhkmhcfmoeaaGreat
open Go.RowKit
set_option linter.unusedVariables false
set_option linter.unusedSimpArgs false

set_option maxRecDepth 100000 in
set_option maxHeartbeats 8000000 in
theorem implCom5 (zs : List PBox) (ga : Option Addr) (q : Nat) (l : List DCommit) (la : Option Addr) (lc : Nat) (gv : Int) (b B : Nat) (m : DCommit) (w : World) (HS : Hid (StB w b B 49 66 41 ga q zs la lc l gv)) (hB : B ≤ w.heap.size) (hm : MaxLen w) (gn : ∀ y ∈ zs, y.name.size ≤ 9223372036854775807) (gt : ∀ y ∈ zs, ∀ m ∈ y.msgs, m.text.size ≤ 9223372036854775807) (g1 : m.name.size ≤ 9223372036854775807) (g2n : m.text.size ≤ 9223372036854775807) (HA : Hid (Tells true (AppliesP (zs.map PBox.box) m))) (gx : Int) (HGX : Hid (max gv m.validity = gx)) (hlen : l.length < 300) (hk : m.kind = 1) (hv : ¬ m.validity ≤ gv) :
    Calls Tryz.prog 67 #[.pointer (some ⟨b, 0, none⟩), .agg #[.int .i64 m.kind, .int .i64 m.validity, .int .i64 m.uid, .int .i64 m.flags, .string m.name, .string m.text]] w fun e w' => e = .returned (.bool true) ∧ StTo (fun k => k = b ∨ rowsS ga q zs la lc l.length k) w b B 49 66 41 ⟨appD (zs.map PBox.box) m, l ++ [m], gx⟩ w' := by
  obtain ⟨i0, hi0, hz0, hz1, hz2⟩ := info_parts info_Commit
  have HGN := Lib.hid gn
  have HGT := Lib.hid gt
  have HMX := Lib.hid hm
  clear gn gt hm
  have HAP := HA.out.1 rfl
  have hd1 : decide ((300 : Int) ≤ (l.length : Int)) = false := decide_eq_false (by omega)
  have hd2 : (m.kind == 1) = true := by rw [hk]; rfl
  have hd3 : decide (m.validity ≤ gv) = false := decide_eq_false hv
  clear hk
  go_enter Tryz.func67, Tryz.ntmps67
  go_wp2_with fail
  refine wp_world (fun W hW => ?_)
  have hwW : Ext w W := by (rw [hW]; exact bxt)
  have bm0 : W.cell? ⟨w.heap.size, 0, none⟩ = some (.int .i64 m.kind) := by (rw [hW]; simp [go_sem])
  have bm1 : W.cell? ⟨w.heap.size, 1, none⟩ = some (.int .i64 m.validity) := by (rw [hW]; simp [go_sem])
  have bm2 : W.cell? ⟨w.heap.size, 2, none⟩ = some (.int .i64 m.uid) := by (rw [hW]; simp [go_sem])
  have bm3 : W.cell? ⟨w.heap.size, 3, none⟩ = some (.int .i64 m.flags) := by (rw [hW]; simp [go_sem])
  have bm4 : W.cell? ⟨w.heap.size, 4, none⟩ = some (.string m.name) := by (rw [hW]; simp [go_sem])
  have bm5 : W.cell? ⟨w.heap.size, 5, none⟩ = some (.string m.text) := by (rw [hW]; simp [go_sem])
  have sW : w.heap.size < W.heap.size := by (rw [hW]; simp)
  have HW := Lib.hid (StB.ext HS.out hwW)
  clear hW
  have qs := fun y : ExtW W => Nat.lt_of_lt_of_le sW y.h.size
  have qm0 := fun y : ExtW W => (y.h.cell (p := ⟨w.heap.size, 0, none⟩) sW).trans bm0
  have qm1 := fun y : ExtW W => (y.h.cell (p := ⟨w.heap.size, 1, none⟩) sW).trans bm1
  have qm2 := fun y : ExtW W => (y.h.cell (p := ⟨w.heap.size, 2, none⟩) sW).trans bm2
  have qm3 := fun y : ExtW W => (y.h.cell (p := ⟨w.heap.size, 3, none⟩) sW).trans bm3
  have qm4 := fun y : ExtW W => (y.h.cell (p := ⟨w.heap.size, 4, none⟩) sW).trans bm4
  have qm5 := fun y : ExtW W => (y.h.cell (p := ⟨w.heap.size, 5, none⟩) sW).trans bm5
  have qc0 := fun y : ExtW W => (y.h.cell (p := ⟨b, 0, none⟩) HW.out.lt).trans HW.out.c0
  have qc1 := fun y : ExtW W => (y.h.cell (p := ⟨b, 1, none⟩) HW.out.lt).trans HW.out.c1
  have qc2 := fun y : ExtW W => (y.h.cell (p := ⟨b, 2, none⟩) HW.out.lt).trans HW.out.c2
  have HM0 : Hid (MB W w.heap.size m) := ⟨sW, bm0, bm1, bm2, bm3, bm4, bm5⟩
  refine wp_region_ext (by kernel_rfl) (by kernel_rfl) ?_
  repeat (go_big_quiet_step ((go_at_call 80; refine (implApplies_any zs ga q m _ (HS.out.own.box.rd.ext (ExtW.of hwW _)) (RdM.ext HS.out.own.box.rdm (ExtW.of hwW _)) (HMX.out.ext (ExtW.of hwW _)) HGN.out HGT.out g1 g2n true HA).mono ?_; rintro e w4 ⟨rfl, hb4⟩; exact ⟨rfl, ExtW.on _ hb4⟩)))
  refine wpQuiet_nil ?_
  rintro w3 ⟨⟨w3x, hw3⟩, hx3⟩
  have hx4 : w3 = w3x := hx3
  subst hx4
  clear hx3 qs qm0 qm1 qm2 qm3 qm4 qm5 qc0 qc1 qc2 bm0 bm1 bm2 bm3 bm4 bm5
  have hww : Ext w w3 := Below.ext hwW hw3
  have H3 : Hid (StB w3 b B 49 66 41 ga q zs la lc l gv) := StB.ext HW.out hw3
  have HM3 := Lib.hid (HM0.out.ext hw3)
  obtain ⟨hlt3, m0, m1, m2, m3, m4, m5⟩ := HM3.out
  have c0 := H3.out.c0
  have f0 := H3.out.f0
  have hb3 := H3.out.lt
  have hnb : ¬ rowsB ga q zs b := fun hk => HS.out.off b (Or.inl hk) rfl
  have hnm : ¬ rowsB ga q zs w.heap.size := fun hk => Nat.lt_irrefl _ (HS.out.own.box.rows_lt _ hk).2
  have hbm : b ≠ w.heap.size := Nat.ne_of_lt HS.out.lt
  go_upto_region 3 with fail
  go_cut [] (QC (fun k => k = b ∨ rowsS ga q zs la lc l.length k) w b B 49 66 41 ⟨appD (zs.map PBox.box) m, l, gv⟩ m)
  case first =>
    first
    | go_region_law ((go_simp; go_at_call 82; refine (perform_chg zs ga q B m _ (OwnBs.ext H3.out.own.box (show Below w3.heap.size w3 _ from bxt)) (show B ≤ _ from Nat.le_trans hB (show Below w.heap.size w _ from bxt).size) HAP).mono ?_; rintro e w5 ⟨g5, q5, l5, rfl, ho5, hl5, hc5, hn5⟩; have HO5 := Lib.hid ho5; have HL5 := Lib.hid hl5; have HC5 := Lib.hid hc5; have HN5 := Lib.hid hn5; have z0 := (hc5.cell (x := b) (o := 0) (Nat.lt_of_lt_of_le hb3 (show Below w3.heap.size w3 _ from bxt).size) hnb).trans c0; have z1 := (hc5.frozen (x := b) (o := 0) (Nat.lt_of_lt_of_le hb3 (show Below w3.heap.size w3 _ from bxt).size) hnb).trans f0; clear ho5 hl5 hc5 hn5))
    | fail
    all_goals go_wp2_with fail
    all_goals go_meet
    all_goals exact ⟨StB.boxes (by exact StB.ext H3.out (show Below w3.heap.size w3 _ from bxt)) (by exact Below.ext hww bxt) (by exact Nat.lt_of_lt_of_le hlt3 (show Below w3.heap.size w3 _ from bxt).size) (fun k hk => hk) HC5.out HO5.out HN5.out HL5.out, MB.set (MB.chg (by exact HM3.out.ext bxt) HC5.out hnm) hbm _⟩
  case rest =>
    obtain ⟨⟨g5, q5, z5, la5, lc5, hs5, hd5, hch5, hr5⟩, hm5⟩ := hcut
    have H5 := Lib.hid hs5
    have HD5 := Lib.hid hd5
    have HC5 := Lib.hid hch5
    have HR5 := Lib.hid hr5
    have HM5 := Lib.hid hm5
    obtain ⟨hlt5, n0, n1, n2, n3, n4, n5⟩ := hm5
    have e1 := hs5.c1
    have e2 := hs5.c2
    have ef1 := hs5.f1
    have hb5 := hs5.lt
    have hne5 : foot (.slice la5 l.length lc5) ≠ some b := fun e => hs5.off b (Or.inr e) rfl
    have hnm5 : foot (.slice la5 l.length lc5) ≠ some w.heap.size := fun e => (hr5 _ (Or.inr e)).elim (fun h => h.elim (fun h => hbm h.symm) (fun h => Nat.lt_irrefl _ (HS.out.own.rows_lt _ h).2)) (fun h => Nat.lt_irrefl _ h)
    have hB5 : B ≤ wc.heap.size := Nat.le_trans hB hch5.size
    clear hs5 hd5 hch5 hr5
    go_upto_region 4 with fail
    go_cut [] (QC (fun k => k = b ∨ rowsS ga q zs la lc l.length k) w b B 49 66 41 ⟨appD (zs.map PBox.box) m, l ++ [m], gv⟩ m)
    case first =>
      first
      | go_region_law ((refine step_appL (B := B) (v := .slice la5 l.length lc5) (n := l.length) (xs := l.flatMap DCommit.cells) (s := 6) rfl (.tmp 47) (.tmp 49) 25 rfl 41 i0 _ _ Tryz.underlying25 hi0 hz0 hz1 hz2 rfl (by decide) rfl (by repeat' (first | with_reducible exact H5.out.own.log | with_reducible refine Own.set_below ?_ smx _ | with_reducible refine Own.alloc1 ?_ _ | with_reducible refine Own.drew1 ?_ | with_reducible refine Own.drewN1 ?_ | with_reducible refine Own.ext ?_ (by assumption))) _ 1 1 [.int .i64 m.kind, .int .i64 m.validity, .int .i64 m.uid, .int .i64 m.flags, .string m.name, .string m.text] rfl (Rd.lit wc.drew #[.int .i64 m.kind, .int .i64 m.validity, .int .i64 m.uid, .int .i64 m.flags, .string m.name, .string m.text] 41 1 6 wc.heap.size rfl rfl (by omega)) (by simp [Value.oneCell']) (by omega) (by omega) smx ?_; intro g6 q6 w6 hown6 hg6 hw6; have y1 : w6.cell? ⟨b, 1, none⟩ = some (.slice la5 l.length lc5) := grown_cell hg6 kpx hne5; have yf1 : w6.frozen? ⟨b, 1, none⟩ = false := grown_frz hg6 smx kfx hne5))
      | fail
      all_goals go_wp2_with fail
      all_goals go_meet
      all_goals exact ⟨StTo.log (rs := ⟨appD (zs.map PBox.box) m, l, gv⟩) H5.out HD5.out HC5.out HR5.out hlt5 (Or.inl rfl) (by exact bxt) rfl hown6 hg6 hw6, MB.set (MB.chg (by exact HM5.out.ext bxt) (Chg.grown hg6 (fun k e => e)) hnm5) hbm _⟩
    case rest =>
      obtain ⟨⟨g7, q7, z7, la7, lc7, hs7, hd7, hch7, hr7⟩, hm7⟩ := hcut
      have H7 := Lib.hid hs7
      have HD7 := Lib.hid hd7
      have HC7 := Lib.hid hch7
      have HR7 := Lib.hid hr7
      have HM7 := Lib.hid hm7
      obtain ⟨hlt7, p0, p1, p2, p3, p4, p5⟩ := hm7
      have t2 := hs7.c2
      have tf2 := hs7.f2
      have hb7 := hs7.lt
      clear hs7 hd7 hch7 hr7
      go_upto_region 5 with fail
      go_cut [] (QC (fun k => k = b ∨ rowsS ga q zs la lc l.length k) w b B 49 66 41 ⟨appD (zs.map PBox.box) m, l ++ [m], gx⟩ m)
      case first =>
        first
        | go_region_law (fail)
        | fail
        all_goals go_wp2_with fail
        all_goals go_meet
        all_goals rw [← HGX.out]
        all_goals exact QC.ext ⟨StTo.given (rs := ⟨appD (zs.map PBox.box) m, l ++ [m], gv⟩) H7.out HD7.out HC7.out HR7.out (Or.inl rfl) (Below.refl _ _) _, MB.set HM7.out hbm _⟩ (by exact bxt)
      case rest =>
        obtain ⟨hq9, -⟩ := hcut
        have HQ9 := Lib.hid hq9
        clear hq9
        go_wp2_with fail
        go_ret
        exact ⟨rfl, HQ9.out⟩

set_option maxRecDepth 100000 in
set_option maxHeartbeats 8000000 in
theorem implCom6 (zs : List PBox) (ga : Option Addr) (q : Nat) (l : List DCommit) (la : Option Addr) (lc : Nat) (gv : Int) (b B : Nat) (m : DCommit) (w : World) (HS : Hid (StB w b B 49 66 41 ga q zs la lc l gv)) (hB : B ≤ w.heap.size) (hm : MaxLen w) (gn : ∀ y ∈ zs, y.name.size ≤ 9223372036854775807) (gt : ∀ y ∈ zs, ∀ m ∈ y.msgs, m.text.size ≤ 9223372036854775807) (g1 : m.name.size ≤ 9223372036854775807) (g2n : m.text.size ≤ 9223372036854775807) (HA : Hid (Tells true (AppliesP (zs.map PBox.box) m))) (gx : Int) (HGX : Hid (max gv m.validity = gx)) (hlen : l.length < 300) (hk : ¬ m.kind = 1) :
    Calls Tryz.prog 67 #[.pointer (some ⟨b, 0, none⟩), .agg #[.int .i64 m.kind, .int .i64 m.validity, .int .i64 m.uid, .int .i64 m.flags, .string m.name, .string m.text]] w fun e w' => e = .returned (.bool true) ∧ StTo (fun k => k = b ∨ rowsS ga q zs la lc l.length k) w b B 49 66 41 ⟨appD (zs.map PBox.box) m, l ++ [m], gx⟩ w' := by
  obtain ⟨i0, hi0, hz0, hz1, hz2⟩ := info_parts info_Commit
  have HGN := Lib.hid gn
  have HGT := Lib.hid gt
  have HMX := Lib.hid hm
  clear gn gt hm
  have HAP := HA.out.1 rfl
  have hd1 : decide ((300 : Int) ≤ (l.length : Int)) = false := decide_eq_false (by omega)
  have hd2 : (m.kind == 1) = false := by simp [hk]
  clear hk
  go_enter Tryz.func67, Tryz.ntmps67
  go_wp2_with fail
  refine wp_world (fun W hW => ?_)
  have hwW : Ext w W := by (rw [hW]; exact bxt)
  have bm0 : W.cell? ⟨w.heap.size, 0, none⟩ = some (.int .i64 m.kind) := by (rw [hW]; simp [go_sem])
  have bm1 : W.cell? ⟨w.heap.size, 1, none⟩ = some (.int .i64 m.validity) := by (rw [hW]; simp [go_sem])
  have bm2 : W.cell? ⟨w.heap.size, 2, none⟩ = some (.int .i64 m.uid) := by (rw [hW]; simp [go_sem])
  have bm3 : W.cell? ⟨w.heap.size, 3, none⟩ = some (.int .i64 m.flags) := by (rw [hW]; simp [go_sem])
  have bm4 : W.cell? ⟨w.heap.size, 4, none⟩ = some (.string m.name) := by (rw [hW]; simp [go_sem])
  have bm5 : W.cell? ⟨w.heap.size, 5, none⟩ = some (.string m.text) := by (rw [hW]; simp [go_sem])
  have sW : w.heap.size < W.heap.size := by (rw [hW]; simp)
  have HW := Lib.hid (StB.ext HS.out hwW)
  clear hW
  have qs := fun y : ExtW W => Nat.lt_of_lt_of_le sW y.h.size
  have qm0 := fun y : ExtW W => (y.h.cell (p := ⟨w.heap.size, 0, none⟩) sW).trans bm0
  have qm1 := fun y : ExtW W => (y.h.cell (p := ⟨w.heap.size, 1, none⟩) sW).trans bm1
  have qm2 := fun y : ExtW W => (y.h.cell (p := ⟨w.heap.size, 2, none⟩) sW).trans bm2
  have qm3 := fun y : ExtW W => (y.h.cell (p := ⟨w.heap.size, 3, none⟩) sW).trans bm3
  have qm4 := fun y : ExtW W => (y.h.cell (p := ⟨w.heap.size, 4, none⟩) sW).trans bm4
  have qm5 := fun y : ExtW W => (y.h.cell (p := ⟨w.heap.size, 5, none⟩) sW).trans bm5
  have qc0 := fun y : ExtW W => (y.h.cell (p := ⟨b, 0, none⟩) HW.out.lt).trans HW.out.c0
  have qc1 := fun y : ExtW W => (y.h.cell (p := ⟨b, 1, none⟩) HW.out.lt).trans HW.out.c1
  have qc2 := fun y : ExtW W => (y.h.cell (p := ⟨b, 2, none⟩) HW.out.lt).trans HW.out.c2
  have HM0 : Hid (MB W w.heap.size m) := ⟨sW, bm0, bm1, bm2, bm3, bm4, bm5⟩
  refine wp_region_ext (by kernel_rfl) (by kernel_rfl) ?_
  repeat (go_big_quiet_step ((go_at_call 80; refine (implApplies_any zs ga q m _ (HS.out.own.box.rd.ext (ExtW.of hwW _)) (RdM.ext HS.out.own.box.rdm (ExtW.of hwW _)) (HMX.out.ext (ExtW.of hwW _)) HGN.out HGT.out g1 g2n true HA).mono ?_; rintro e w4 ⟨rfl, hb4⟩; exact ⟨rfl, ExtW.on _ hb4⟩)))
  refine wpQuiet_nil ?_
  rintro w3 ⟨⟨w3x, hw3⟩, hx3⟩
  have hx4 : w3 = w3x := hx3
  subst hx4
  clear hx3 qs qm0 qm1 qm2 qm3 qm4 qm5 qc0 qc1 qc2 bm0 bm1 bm2 bm3 bm4 bm5
  have hww : Ext w w3 := Below.ext hwW hw3
  have H3 : Hid (StB w3 b B 49 66 41 ga q zs la lc l gv) := StB.ext HW.out hw3
  have HM3 := Lib.hid (HM0.out.ext hw3)
  obtain ⟨hlt3, m0, m1, m2, m3, m4, m5⟩ := HM3.out
  have c0 := H3.out.c0
  have f0 := H3.out.f0
  have hb3 := H3.out.lt
  have hnb : ¬ rowsB ga q zs b := fun hk => HS.out.off b (Or.inl hk) rfl
  have hnm : ¬ rowsB ga q zs w.heap.size := fun hk => Nat.lt_irrefl _ (HS.out.own.box.rows_lt _ hk).2
  have hbm : b ≠ w.heap.size := Nat.ne_of_lt HS.out.lt
  go_upto_region 3 with fail
  go_cut [] (QC (fun k => k = b ∨ rowsS ga q zs la lc l.length k) w b B 49 66 41 ⟨appD (zs.map PBox.box) m, l, gv⟩ m)
  case first =>
    first
    | go_region_law ((go_simp; go_at_call 82; refine (perform_chg zs ga q B m _ (OwnBs.ext H3.out.own.box (show Below w3.heap.size w3 _ from bxt)) (show B ≤ _ from Nat.le_trans hB (show Below w.heap.size w _ from bxt).size) HAP).mono ?_; rintro e w5 ⟨g5, q5, l5, rfl, ho5, hl5, hc5, hn5⟩; have HO5 := Lib.hid ho5; have HL5 := Lib.hid hl5; have HC5 := Lib.hid hc5; have HN5 := Lib.hid hn5; have z0 := (hc5.cell (x := b) (o := 0) (Nat.lt_of_lt_of_le hb3 (show Below w3.heap.size w3 _ from bxt).size) hnb).trans c0; have z1 := (hc5.frozen (x := b) (o := 0) (Nat.lt_of_lt_of_le hb3 (show Below w3.heap.size w3 _ from bxt).size) hnb).trans f0; clear ho5 hl5 hc5 hn5))
    | fail
    all_goals go_wp2_with fail
    all_goals go_meet
    all_goals exact ⟨StB.boxes (by exact StB.ext H3.out (show Below w3.heap.size w3 _ from bxt)) (by exact Below.ext hww bxt) (by exact Nat.lt_of_lt_of_le hlt3 (show Below w3.heap.size w3 _ from bxt).size) (fun k hk => hk) HC5.out HO5.out HN5.out HL5.out, MB.set (MB.chg (by exact HM3.out.ext bxt) HC5.out hnm) hbm _⟩
  case rest =>
    obtain ⟨⟨g5, q5, z5, la5, lc5, hs5, hd5, hch5, hr5⟩, hm5⟩ := hcut
    have H5 := Lib.hid hs5
    have HD5 := Lib.hid hd5
    have HC5 := Lib.hid hch5
    have HR5 := Lib.hid hr5
    have HM5 := Lib.hid hm5
    obtain ⟨hlt5, n0, n1, n2, n3, n4, n5⟩ := hm5
    have e1 := hs5.c1
    have e2 := hs5.c2
    have ef1 := hs5.f1
    have hb5 := hs5.lt
    have hne5 : foot (.slice la5 l.length lc5) ≠ some b := fun e => hs5.off b (Or.inr e) rfl
    have hnm5 : foot (.slice la5 l.length lc5) ≠ some w.heap.size := fun e => (hr5 _ (Or.inr e)).elim (fun h => h.elim (fun h => hbm h.symm) (fun h => Nat.lt_irrefl _ (HS.out.own.rows_lt _ h).2)) (fun h => Nat.lt_irrefl _ h)
    have hB5 : B ≤ wc.heap.size := Nat.le_trans hB hch5.size
    clear hs5 hd5 hch5 hr5
    go_upto_region 4 with fail
    go_cut [] (QC (fun k => k = b ∨ rowsS ga q zs la lc l.length k) w b B 49 66 41 ⟨appD (zs.map PBox.box) m, l ++ [m], gv⟩ m)
    case first =>
      first
      | go_region_law ((refine step_appL (B := B) (v := .slice la5 l.length lc5) (n := l.length) (xs := l.flatMap DCommit.cells) (s := 6) rfl (.tmp 47) (.tmp 49) 25 rfl 41 i0 _ _ Tryz.underlying25 hi0 hz0 hz1 hz2 rfl (by decide) rfl (by repeat' (first | with_reducible exact H5.out.own.log | with_reducible refine Own.set_below ?_ smx _ | with_reducible refine Own.alloc1 ?_ _ | with_reducible refine Own.drew1 ?_ | with_reducible refine Own.drewN1 ?_ | with_reducible refine Own.ext ?_ (by assumption))) _ 1 1 [.int .i64 m.kind, .int .i64 m.validity, .int .i64 m.uid, .int .i64 m.flags, .string m.name, .string m.text] rfl (Rd.lit wc.drew #[.int .i64 m.kind, .int .i64 m.validity, .int .i64 m.uid, .int .i64 m.flags, .string m.name, .string m.text] 41 1 6 wc.heap.size rfl rfl (by omega)) (by simp [Value.oneCell']) (by omega) (by omega) smx ?_; intro g6 q6 w6 hown6 hg6 hw6; have y1 : w6.cell? ⟨b, 1, none⟩ = some (.slice la5 l.length lc5) := grown_cell hg6 kpx hne5; have yf1 : w6.frozen? ⟨b, 1, none⟩ = false := grown_frz hg6 smx kfx hne5))
      | fail
      all_goals go_wp2_with fail
      all_goals go_meet
      all_goals exact ⟨StTo.log (rs := ⟨appD (zs.map PBox.box) m, l, gv⟩) H5.out HD5.out HC5.out HR5.out hlt5 (Or.inl rfl) (by exact bxt) rfl hown6 hg6 hw6, MB.set (MB.chg (by exact HM5.out.ext bxt) (Chg.grown hg6 (fun k e => e)) hnm5) hbm _⟩
    case rest =>
      obtain ⟨⟨g7, q7, z7, la7, lc7, hs7, hd7, hch7, hr7⟩, hm7⟩ := hcut
      have H7 := Lib.hid hs7
      have HD7 := Lib.hid hd7
      have HC7 := Lib.hid hch7
      have HR7 := Lib.hid hr7
      have HM7 := Lib.hid hm7
      obtain ⟨hlt7, p0, p1, p2, p3, p4, p5⟩ := hm7
      have t2 := hs7.c2
      have tf2 := hs7.f2
      have hb7 := hs7.lt
      clear hs7 hd7 hch7 hr7
      go_upto_region 5 with fail
      go_cut [] (QC (fun k => k = b ∨ rowsS ga q zs la lc l.length k) w b B 49 66 41 ⟨appD (zs.map PBox.box) m, l ++ [m], gx⟩ m)
      case first =>
        first
        | go_region_law (fail)
        | fail
        all_goals go_wp2_with fail
        all_goals go_meet
        all_goals rw [← HGX.out]
        all_goals exact QC.ext ⟨StTo.given (rs := ⟨appD (zs.map PBox.box) m, l ++ [m], gv⟩) H7.out HD7.out HC7.out HR7.out (Or.inl rfl) (Below.refl _ _) _, MB.set HM7.out hbm _⟩ (by exact bxt)
      case rest =>
        obtain ⟨hq9, -⟩ := hcut
        have HQ9 := Lib.hid hq9
        clear hq9
        go_wp2_with fail
        go_ret
        exact ⟨rfl, HQ9.out⟩

/-- commit, whatever the commit: refused or done -/
theorem commit_any (zs : List PBox) (ga : Option Addr) (q : Nat) (l : List DCommit) (la : Option Addr) (lc : Nat) (gv : Int) (b B : Nat) (m : DCommit) (w : World) (HS : Hid (StB w b B 49 66 41 ga q zs la lc l gv)) (hB : B ≤ w.heap.size) (hm : MaxLen w) (gn : ∀ y ∈ zs, y.name.size ≤ 9223372036854775807) (gt : ∀ y ∈ zs, ∀ m ∈ y.msgs, m.text.size ≤ 9223372036854775807) (g1 : m.name.size ≤ 9223372036854775807) (g2n : m.text.size ≤ 9223372036854775807) (rs : DStore) (rok : Bool) (H : Hid (CmtRel ⟨zs.map PBox.box, l, gv⟩ m rs rok)) :
    Calls Tryz.prog 67 #[.pointer (some ⟨b, 0, none⟩), .agg #[.int .i64 m.kind, .int .i64 m.validity, .int .i64 m.uid, .int .i64 m.flags, .string m.name, .string m.text]] w fun e w' => e = .returned (.bool rok) ∧ StTo (fun k => k = b ∨ rowsS ga q zs la lc l.length k) w b B 49 66 41 rs w' := by
  obtain ⟨ht, hrs⟩ := H.out
  cases rok with
  | false =>
    have hn : ¬ ComP ⟨zs.map PBox.box, l, gv⟩ m := fun h => by have := ht.2 h; cases this
    simp only [Bool.false_eq_true, if_false] at hrs
    subst hrs
    by_cases hlen : 300 ≤ l.length
    · exact implCom1 zs ga q l la lc gv b B m w HS hB hm gn gt g1 g2n hlen
    · by_cases hk : m.kind = 1 ∧ m.validity ≤ gv
      · exact implCom2 zs ga q l la lc gv b B m w HS hB hm gn gt g1 g2n (by omega) hk.1 hk.2
      · obtain ⟨ra, hra⟩ := boolOf (AppliesP (zs.map PBox.box) m)
        cases ra with
        | true => exact absurd ⟨hra.1 rfl, by show l.length < 300; omega, hk⟩ hn
        | false =>
          by_cases hk1 : m.kind = 1
          · exact implCom3 zs ga q l la lc gv b B m w HS hB hm gn gt g1 g2n (Lib.hid hra) (by omega) hk1 (fun h => hk ⟨hk1, h⟩)
          · exact implCom4 zs ga q l la lc gv b B m w HS hB hm gn gt g1 g2n (Lib.hid hra) (by omega) hk1
  | true =>
    have hp := ht.1 rfl
    simp only [if_true] at hrs
    subst hrs
    have h1 : Tells true (AppliesP (zs.map PBox.box) m) := ⟨fun _ => hp.1, fun _ => rfl⟩
    have h2 : l.length < 300 := hp.2.1
    by_cases hk : m.kind = 1
    · exact implCom5 zs ga q l la lc gv b B m w HS hB hm gn gt g1 g2n (Lib.hid h1) _ (Lib.hid rfl) h2 hk (fun h => hp.2.2 ⟨hk, h⟩)
    · exact implCom6 zs ga q l la lc gv b B m w HS hB hm gn gt g1 g2n (Lib.hid h1) _ (Lib.hid rfl) h2 hk
end Go.Proofs.YtjcnhkmhcfmoeaaGreat
