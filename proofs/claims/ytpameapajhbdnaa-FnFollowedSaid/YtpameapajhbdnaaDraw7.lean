/-
  The draws of views.
-/
import Derived.Test.YtpameapajhbdnaaDraw6
import Derived.Test.YtpameapajhbdnaaWViewOf
import Derived.Test.YtpameapajhbdnaaListSeen
namespace Go.Proofs.Ytpameapajhbdnaa
open Go.RowKit
set_option linter.unusedVariables false
set_option linter.unusedSimpArgs false

def DrView (M : Nat) (cb : Nat) (w : World) (e : Ending) (w' : World) : Prop := ∃ (g : Option Addr) (q : Nat) (l : List DSeen), l.length ≤ M ∧ e = .returned (.agg #[.slice g l.length q]) ∧ Own w' w.heap.size 129 2 (.slice g l.length q) l.length (l.flatMap DSeen.cells) ∧ Dr cb w w'
def VSt (cb : Nat) (w : World) (b K : Nat) (wx : World) : Prop := ∃ (g : Option Addr) (q : Nat) (l : List DSeen), l.length = K ∧ Bx wx b [.slice g l.length q] ∧ Bx wx w.heap.size [.slice none 0 0] ∧ Own wx (w.heap.size + 1) 129 2 (.slice g l.length q) l.length (l.flatMap DSeen.cells) ∧ foot (.slice g l.length q) ≠ some b ∧ Dr cb w wx
def VLoop (cb : Nat) (w : World) (b : Nat) (i : Value) (wr : World) : Prop := ∃ k : Nat, k ≤ 7 ∧ i = .int .i64 k ∧ Hid (VSt cb w b k wr)
set_option maxRecDepth 100000 in
set_option maxHeartbeats 4000000 in
theorem l13View_any (cb : Nat) (w : World) (hc : Cur w cb) :
    Calls Try.prog 158 #[.pointer (some ⟨cb, 0, none⟩)] w (DrView 5 cb w) := by
  obtain ⟨i0, hi, hy0, hy1, hy2⟩ := info_parts info_Seen
  have hcl := hc.lt
  have HC := Lib.hid hc
  clear hc
  go_enter Try.func158, Try.ntmps158
  go_wp2_with fail
  refine (l9Box_any cb _ _ _ (HC.out.ext bxt)).mono ?_
  rintro e w1 ⟨nx, g, q, ms, hml, htx, rfl, ho, hd1⟩
  have hz1 := hd1.size; (try simp at hz1)
  have s1_0 : w.heap.size < w1.heap.size := (by omega)
  have c1_0_0 : w1.cell? ⟨w.heap.size, 0, none⟩ = some (.slice none 0 0) := (hd1.cell (x := w.heap.size) (o := 0) smx (by omega)).trans kpx
  have f1_0_0 : w1.frozen? ⟨w.heap.size, 0, none⟩ = false := (hd1.frozen (x := w.heap.size) (o := 0) smx (by omega)).trans kfx
  have HO := Lib.hid ho; clear ho
  go_wp2_with fail
  refine (specViewOf_any _ _ _ ms g q _ (Rd.of_Own (HO.out.ext bxt)) (by omega) _ (Lib.hid rfl)).mono ?_
  rintro e w2 ⟨g2, q2, rfl, ho2, hb2⟩
  have HO2 := Lib.hid (Own.of_row ho2); clear ho2
  have hz2 := hb2.size; (try simp at hz2)
  obtain ⟨hc2, hf2⟩ := bcell hb2
  have s2 : w.heap.size < w2.heap.size := by omega
  go_wp2_with fail
  refine bodyPost_ret (v := .agg #[.slice g2 (ms.map DMsg.seen).length q2]) (by simp [results, Try.results158, go_sem, *]) rfl ⟨g2, q2, ms.map DMsg.seen, by simpa using hml, rfl, ?_, dtx⟩
  refine Own.le (B := w1.heap.size) ?_ (by omega); exact (by repeat' (first | with_reducible exact HO2.out | with_reducible refine Own.set_below ?_ smx _ | with_reducible refine Own.alloc1 ?_ _ | with_reducible refine Own.drew1 ?_ | with_reducible refine Own.drewN1 ?_ | with_reducible refine Own.ext ?_ (by assumption)))
set_option maxRecDepth 100000 in
set_option maxHeartbeats 4000000 in
theorem l13Bent_any (cb : Nat) (w : World) (hc : Cur w cb) :
    Calls Try.prog 114 #[.pointer (some ⟨cb, 0, none⟩)] w (DrView 7 cb w) := by
  obtain ⟨i0, hi, hy0, hy1, hy2⟩ := info_parts info_Seen
  have hcl := hc.lt
  have HC := Lib.hid hc
  clear hc
  go_enter Try.func114, Try.ntmps114
  go_wp2_with fail
  refine (l13View_any cb _ (HC.out.ext bxt)).mono ?_
  rintro e w1 ⟨g, q, l, hl, rfl, ho, hd1⟩
  have hz1 := hd1.size; (try simp at hz1)
  have s1_0 : w.heap.size < w1.heap.size := (by omega)
  have c1_0_0 : w1.cell? ⟨w.heap.size, 0, none⟩ = some (.slice none 0 0) := (hd1.cell (x := w.heap.size) (o := 0) smx (by omega)).trans kpx
  have f1_0_0 : w1.frozen? ⟨w.heap.size, 0, none⟩ = false := (hd1.frozen (x := w.heap.size) (o := 0) smx (by omega)).trans kfx
  have HO := Lib.hid (ho.le (B' := w.heap.size + 1) (by simp)); clear ho
  have n1 := HO.out.ne_ge (b := w1.heap.size) (Nat.le_refl _)
  go_wp2_with fail
  refine (l1Below_any cb 8 _ (hd1.cur.ext bxt) (by omega)).mono ?_
  rintro e w2 ⟨v, ⟨v0, v1, -⟩, rfl, hd2⟩
  have v1 := v1 (by omega)
  have hz2 := hd2.size; (try simp at hz2)
  have s2_0 : w.heap.size < w2.heap.size := (by omega)
  have c2_0_0 : w2.cell? ⟨w.heap.size, 0, none⟩ = some (.slice none 0 0) := (hd2.cell (x := w.heap.size) (o := 0) smx (by omega)).trans kpx
  have f2_0_0 : w2.frozen? ⟨w.heap.size, 0, none⟩ = false := (hd2.frozen (x := w.heap.size) (o := 0) smx (by omega)).trans kfx
  have s2_1 : w1.heap.size < w2.heap.size := (by omega)
  have c2_1_0 : w2.cell? ⟨w1.heap.size, 0, none⟩ = some (.slice g l.length q) := (hd2.cell (x := w1.heap.size) (o := 0) smx (by omega)).trans kpx
  have f2_1_0 : w2.frozen? ⟨w1.heap.size, 0, none⟩ = false := (hd2.frozen (x := w1.heap.size) (o := 0) smx (by omega)).trans kfx
  have HCR := Lib.hid hd1.cur; have hdo : Dr cb w1 w2 := dtx; have HCS := Lib.hid hd2.cur; have HO2 := Lib.hid (HO.out.dr hdo (by omega))
  by_cases hv0 : v = 0
  · subst hv0
    go_wp2_with fail
    go_region_law ((first | (go_simp; go_at_call 162; refine (l1Whole_any cb _ (HCS.out.ext bxt)).mono ?_; rintro e w3 ⟨u, hu, rfl, hd3⟩; have HCT := Lib.hid hd3.cur; have hz3 := hd3.size; (try simp at hz3); have s3_0 : w.heap.size < w3.heap.size := (by omega); have c3_0_0 : w3.cell? ⟨w.heap.size, 0, none⟩ = some (.slice none 0 0) := (hd3.cell (x := w.heap.size) (o := 0) smx (by omega)).trans kpx; have f3_0_0 : w3.frozen? ⟨w.heap.size, 0, none⟩ = false := (hd3.frozen (x := w.heap.size) (o := 0) smx (by omega)).trans kfx; have s3_1 : w1.heap.size < w3.heap.size := (by omega); have c3_1_0 : w3.cell? ⟨w1.heap.size, 0, none⟩ = some (.slice g l.length q) := (hd3.cell (x := w1.heap.size) (o := 0) smx (by omega)).trans kpx; have f3_1_0 : w3.frozen? ⟨w1.heap.size, 0, none⟩ = false := (hd3.frozen (x := w1.heap.size) (o := 0) smx (by omega)).trans kfx) | (go_simp; go_at_call 163; refine (l5Bits_any cb _ (HCT.out.ext bxt)).mono ?_; rintro e w4 ⟨f, hf, rfl, hd4⟩; have hz4 := hd4.size; (try simp at hz4); have s4_0 : w.heap.size < w4.heap.size := (by omega); have c4_0_0 : w4.cell? ⟨w.heap.size, 0, none⟩ = some (.slice none 0 0) := (hd4.cell (x := w.heap.size) (o := 0) smx (by omega)).trans kpx; have f4_0_0 : w4.frozen? ⟨w.heap.size, 0, none⟩ = false := (hd4.frozen (x := w.heap.size) (o := 0) smx (by omega)).trans kfx; have s4_1 : w1.heap.size < w4.heap.size := (by omega); have c4_1_0 : w4.cell? ⟨w1.heap.size, 0, none⟩ = some (.slice g l.length q) := (hd4.cell (x := w1.heap.size) (o := 0) smx (by omega)).trans kpx; have f4_1_0 : w4.frozen? ⟨w1.heap.size, 0, none⟩ = false := (hd4.frozen (x := w1.heap.size) (o := 0) smx (by omega)).trans kfx; have hdr : Dr cb w1 w4 := Dr.trans hdo dtx) | (refine step_appD (B := w.heap.size + 1) (v := .slice g l.length q) rfl (.tmp 12) (.tmp 18) 58 rfl i0 _ _ Try.underlying58 hi hy0 hy1 hy2 rfl (by decide) (by simp [Act.eval, Act.put]) ((HO.out.dr hdr (by omega)).ext bxt) (some ⟨w4.heap.size, 0, none⟩) 1 1 (DSeen.cells ⟨u, f⟩) (by simp [Act.eval, Act.put]) (Rd.lit _ _ _ _ 2 _ (by simp) rfl (by omega)) (DSeen.one _) (by omega) (by omega) smx ?_; intro g2 q2 w5 hown hg hwl; have n0 := HO.out.ne_lt (b := w.heap.size) (by omega); have nn1 : foot (.slice g2 (l.length + 1) q2) ≠ some w1.heap.size := (fun e => by rcases hwl _ e with h | h; exact n1 h; (try simp at h); omega); have s5_0 : w.heap.size < w5.heap.size := (by have hss := hg.size; first | omega | (simp at hss; omega)); have c5_0_0 : w5.cell? ⟨w.heap.size, 0, none⟩ = some (.slice none 0 0) := grown_cell hg kpx n0; have f5_0_0 : w5.frozen? ⟨w.heap.size, 0, none⟩ = false := grown_frz hg smx kfx n0; have s5_1 : w1.heap.size < w5.heap.size := (by have hss := hg.size; first | omega | (simp at hss; omega)); have c5_1_0 : w5.cell? ⟨w1.heap.size, 0, none⟩ = some (.slice g l.length q) := grown_cell hg kpx n1; have f5_1_0 : w5.frozen? ⟨w1.heap.size, 0, none⟩ = false := grown_frz hg smx kfx n1; have HW := Lib.hid hown; have hdg : Dr cb w w5 := Dr.grown (b := _) dtx hg (fun k hk => (Nat.le_trans (Nat.le_succ _) (HO.out.lt k hk).1)); clear hown hwl)))
    all_goals go_wp2_with fail
    all_goals refine bodyPost_ret (v := .agg #[.slice g2 (l.length + 1) q2]) (by simp [results, Try.results114, go_sem, *]) rfl ⟨g2, q2, l ++ [⟨u, f⟩], by simp; omega, by simp, ?_, ?_⟩
    all_goals first | (simp only [List.length_append, List.length_cons, List.length_nil, List.flatMap_append, List.flatMap_cons, List.flatMap_nil, List.append_nil, Nat.zero_add]; refine Own.le (B := w.heap.size + 1) ?_ (by omega); exact (by repeat' (first | with_reducible exact HW.out | with_reducible refine Own.set_below ?_ smx _ | with_reducible refine Own.set_off ?_ (by with_reducible exact nn1) _ | with_reducible refine Own.alloc1 ?_ _ | with_reducible refine Own.drew1 ?_ | with_reducible refine Own.drewN1 ?_ | with_reducible refine Own.ext ?_ (by assumption)))) | exact dtx
  · have ev0 : (v == 0) = false := by simpa using hv0
    by_cases hv1 : v = 1
    · subst hv1
      have HB1 : Hid (Bx w2 w1.heap.size [.slice g l.length q]) := (Bx.ext (Bx.mk rfl _ rfl) bxt).dr hd2 (by omega)
      have HB0 : Hid (Bx w2 w.heap.size [.slice none 0 0]) := (((Bx.ext (Bx.mk rfl _ rfl) bxt).dr hd1 (by omega)).ext (w' := w1.alloc _) bxt).dr hd2 (by omega)
      have hdw : Dr cb w w2 := dtx
      have HS0 : Hid (VSt cb w w1.heap.size l.length w2) := ⟨g, q, l, rfl, HB1.out, HB0.out, HO2.out, n1, hdw⟩
      clear HB0 HB1 HO2 hdw hdo
      go_wp2_with fail
      go_loopw [4] (VLoop cb w w1.heap.size) (fun i _ => (8 - intOf i).toNat)
      case atStart => exact ⟨l.length, by omega, rfl, HS0.out⟩
      case round =>
        obtain ⟨k, hk, rfl, HS⟩ := hrel
        clear HS0 HO n1 hl
        obtain ⟨g3, q3, m, hmk, hbq, hbz, hown, n3, hd⟩ := HS.out
        obtain ⟨cq0, fq0⟩ := hbq.at 0 _ rfl
        obtain ⟨cz0, fz0⟩ := hbz.at 0 _ rfl
        have HBQ := Lib.hid hbq; have HBZ := Lib.hid hbz; have HOW := Lib.hid hown; have HMK := Lib.hid hmk; have hml : m.length ≤ 7 := (by omega); have hcur := Lib.hid hd.cur; have hs1 : w1.heap.size < wr.heap.size := hbq.lt; have hs0 : w.heap.size < wr.heap.size := hbz.lt
        clear hbq hbz hown hmk
        go_wp2_with fail
        refine (l1Below_any cb 2 _ (hcur.out) (by omega)).mono ?_
        rintro e w11 ⟨u, ⟨u0, u1, -⟩, rfl, hd11⟩
        have u1 := u1 (by omega)
        have hz11 := hd11.size; (try simp at hz11)
        have s11_0 : w.heap.size < w11.heap.size := (by omega)
        have c11_0_0 : w11.cell? ⟨w.heap.size, 0, none⟩ = some (.slice none 0 0) := (hd11.cell (x := w.heap.size) (o := 0) smx (by omega)).trans kpx
        have f11_0_0 : w11.frozen? ⟨w.heap.size, 0, none⟩ = false := (hd11.frozen (x := w.heap.size) (o := 0) smx (by omega)).trans kfx
        have s11_1 : w1.heap.size < w11.heap.size := (by omega)
        have c11_1_0 : w11.cell? ⟨w1.heap.size, 0, none⟩ = some (.slice g3 m.length q3) := (hd11.cell (x := w1.heap.size) (o := 0) smx (by omega)).trans kpx
        have f11_1_0 : w11.frozen? ⟨w1.heap.size, 0, none⟩ = false := (hd11.frozen (x := w1.heap.size) (o := 0) smx (by omega)).trans kfx
        have hdr : Dr cb wr w11 := dtx
        have HBQ1 := Lib.hid (HBQ.out.dr hdr (by omega)); have HBZ1 := Lib.hid (HBZ.out.dr hdr (by omega)); have HOW1 := Lib.hid (HOW.out.dr hdr (by omega)); have hdt := hd.trans hdr; have n0 := HOW.out.ne_lt (b := w.heap.size) (by omega)
        by_cases hlt : (k : Int) < 6 + u
        · skip
          go_wp2_with ((at_builtin; refine wpList_appL (B := w.heap.size + 1) (v := .slice g3 m.length q3) rfl (.tmp 34) (.tmp 38) 58 rfl 129 i0 _ _ Try.underlying58 hi hy0 hy1 hy2 rfl (by decide) rfl (HOW1.out.ext bxt) (some ⟨w11.heap.size, 0, none⟩) 1 1 (DSeen.cells ⟨20 + (k : Int), 0⟩) rfl (Rd.lit _ _ _ _ 2 _ (by simp) rfl (by omega)) (DSeen.one _) (by omega) (by omega) smx ?_))
          intro g2 q2 w12 hown hg hwl
          have nn1 : foot (.slice g2 (m.length + 1) q2) ≠ some w1.heap.size := (fun e => by rcases hwl _ e with h | h; exact n3 h; (try simp at h); omega)
          have s12_0 : w.heap.size < w12.heap.size := (by have hss := hg.size; first | omega | (simp at hss; omega))
          have c12_0_0 : w12.cell? ⟨w.heap.size, 0, none⟩ = some (.slice none 0 0) := grown_cell hg kpx n0
          have f12_0_0 : w12.frozen? ⟨w.heap.size, 0, none⟩ = false := grown_frz hg smx kfx n0
          have s12_1 : w1.heap.size < w12.heap.size := (by have hss := hg.size; first | omega | (simp at hss; omega))
          have c12_1_0 : w12.cell? ⟨w1.heap.size, 0, none⟩ = some (.slice g3 m.length q3) := grown_cell hg kpx n3
          have f12_1_0 : w12.frozen? ⟨w1.heap.size, 0, none⟩ = false := grown_frz hg smx kfx n3
          have hdg : Dr cb w w12 := Dr.grown (hdt.ext (c := _) bxt) hg (fun x hx => Nat.le_trans (Nat.le_add_right _ 1) (HOW.out.lt x hx).1)
          have HN := Lib.hid (show VSt cb w w1.heap.size (k + 1) _ from ⟨g2, q2, m ++ [⟨20 + (k : Int), 0⟩], by simp [HMK.out], by simpa using ((HBQ1.out.ext (w' := _) bxt).grown hg n3).put1 0 _ rfl, ((HBZ1.out.ext (w' := _) bxt).grown hg n0).set (p := ⟨w1.heap.size, 0, none⟩) (by simp; omega) (.slice g2 (m.length + 1) q2), by simpa using hown.set_off nn1 _, by simpa using nn1, hdg.setCell (by simp; omega) _⟩)
          clear hown hwl
          go_wp2_with fail
          go_roundw
          case rel => exact ⟨k + 1, by omega, by go_num, HN.out⟩
          case measure => simp [intOf]; omega
        · skip
          go_wp2_with fail
          refine bodyPost_ret (v := .agg #[.slice g3 m.length q3]) (by simp [results, Try.results114, go_sem, *]) rfl ⟨g3, q3, m, hml, rfl, ?_, dtx⟩
          refine Own.le (B := w.heap.size + 1) ?_ (by omega); exact (by repeat' (first | with_reducible exact HOW1.out | with_reducible refine Own.set_below ?_ smx _ | with_reducible refine Own.alloc1 ?_ _ | with_reducible refine Own.drew1 ?_ | with_reducible refine Own.drewN1 ?_ | with_reducible refine Own.ext ?_ (by assumption)))
    · have ev1 : (v == 1) = false := by simpa using hv1
      go_wp2_with fail
      refine bodyPost_ret (v := .agg #[.slice g l.length q]) (by simp [results, Try.results114, go_sem, *]) rfl ⟨g, q, l, by omega, rfl, ?_, dtx⟩
      refine Own.le (B := w.heap.size + 1) ?_ (by omega); exact (by repeat' (first | with_reducible exact HO2.out | with_reducible refine Own.set_below ?_ smx _ | with_reducible refine Own.set_off ?_ (by with_reducible exact n1) _ | with_reducible refine Own.alloc1 ?_ _ | with_reducible refine Own.drew1 ?_ | with_reducible refine Own.drewN1 ?_ | with_reducible refine Own.ext ?_ (by assumption)))
end Go.Proofs.Ytpameapajhbdnaa
