/-
  The draw of a mailbox.
-/
import Derived.Test.YtadjlfcdjkikgaaDoorXDr
import Derived.Test.YtadjlfcdjkikgaaDoorListMsg
import Derived.Test.YtadjlfcdjkikgaaDoorXFam
import Derived.Deep.RegionLaw
import Derived.Deep.DeepCutAuto
namespace Go.Proofs.YtadjlfcdjkikgaaDoor
open Go.RowKit
set_option linter.unusedVariables false
set_option linter.unusedSimpArgs false

/-- a mailbox that is drawn: its messages are of the call's own -/
def DrBox (nm : ByteArray) (va : Int) (cb : Nat) (w : World) (e : Ending) (w' : World) : Prop := ∃ (nx : Int) (g : Option Addr) (q : Nat) (ms : List DMsg), ms.length ≤ 5 ∧ (∀ y ∈ ms, y.text.size ≤ 40) ∧ e = .returned (.agg #[.string nm, .int .i64 va, .int .i64 nx, .slice g ms.length q]) ∧ Own w' w.heap.size 111 3 (.slice g ms.length q) ms.length (ms.flatMap DMsg.cells) ∧ Dr cb w w'
/-- the mailbox that is being drawn, K messages of it -/
def BSt (cb : Nat) (nm : ByteArray) (va : Int) (w : World) (K : Nat) (wx : World) : Prop := ∃ (nx : Int) (g : Option Addr) (q : Nat) (ms : List DMsg), ms.length = K ∧ (∀ y ∈ ms, y.text.size ≤ 40) ∧ Bx wx (w.heap.size + 1) [.string nm, .int .i64 va, .int .i64 nx, .slice g ms.length q] ∧ Bx wx w.heap.size [.string ⟨#[]⟩, .int .i64 0, .int .i64 0, .slice none 0 0] ∧ Own wx (w.heap.size + 2) 111 3 (.slice g ms.length q) ms.length (ms.flatMap DMsg.cells) ∧ Dr cb w wx ∧ w.heap.size + 2 ≤ wx.heap.size
def BLoop (cb : Nat) (nm : ByteArray) (va n : Int) (w : World) (i : Value) (wr : World) : Prop := ∃ k : Nat, (k : Int) ≤ n ∧ i = .int .i64 k ∧ Hid (BSt cb nm va w k wr)
theorem texts_app {l : List DMsg} {x : DMsg} (h : ∀ y ∈ l, y.text.size ≤ 40) (hx : x.text.size ≤ 40) : ∀ y ∈ l ++ [x], y.text.size ≤ 40 := fun y hy => by
  rcases List.mem_append.1 hy with hy | hy
  · exact h y hy
  · rw [List.mem_singleton.1 hy]; exact hx
set_option maxRecDepth 100000 in
set_option maxHeartbeats 4000000 in
theorem l9Box_any (cb : Nat) (nm : ByteArray) (va : Int) (w : World) (hc : Cur w cb) :
    Calls Tryd.prog 77 #[.pointer (some ⟨cb, 0, none⟩), .string nm, .int .i64 va] w (DrBox nm va cb w) := by
  obtain ⟨i0, hi, hy0, hy1, hy2⟩ := info_parts info_Msg
  have hcl := hc.lt
  have HC := Lib.hid hc
  clear hc
  go_enter Tryd.func77, Tryd.ntmps77
  go_wp2_with fail
  refine (l1Below_any cb 6 _ (HC.out.ext bxt) (by omega)).mono ?_
  rintro e w1 ⟨n, ⟨n0, n1, -⟩, rfl, hd1⟩
  have n1 := n1 (by omega)
  have hz1 := hd1.size; (try simp at hz1)
  have HB0 : Hid (Bx w1 w.heap.size [.string ⟨#[]⟩, .int .i64 0, .int .i64 0, .slice none 0 0]) := (Bx.ext (Bx.mk rfl _ rfl) bxt).dr hd1 (by omega)
  have HB1 : Hid (Bx w1 (w.heap.size + 1) [.string nm, .int .i64 va, .int .i64 1, .slice none 0 0]) := (Bx.ext (Bx.mk (heap_alloc_size _ _) _ rfl) bxt).dr hd1 (by omega)
  have hdw : Dr cb w w1 := dtx
  have HS0 : Hid (BSt cb nm va w 0 w1) := ⟨1, none, 0, [], rfl, by simp, HB1.out, HB0.out, Own.none0 _, hdw, by omega⟩
  clear hd1 HB0 HB1 hdw
  go_wp2_with fail
  go_loopw [9] (BLoop cb nm va n w) (fun i _ => (n - intOf i).toNat)
  case atStart => exact ⟨0, n0, rfl, HS0.out⟩
  case round =>
    obtain ⟨k, hk, rfl, HS⟩ := hrel
    clear HS0
    by_cases hlt : (k : Int) < n
    · skip
      obtain ⟨nx, g, q, ms, hms, htx, hbq, hbz, hown, hd, hsz⟩ := HS.out
      obtain ⟨cq0, fq0⟩ := hbq.at 0 _ rfl
      obtain ⟨cq1, fq1⟩ := hbq.at 1 _ rfl
      obtain ⟨cq2, fq2⟩ := hbq.at 2 _ rfl
      obtain ⟨cq3, fq3⟩ := hbq.at 3 _ rfl
      obtain ⟨cz0, fz0⟩ := hbz.at 0 _ rfl
      obtain ⟨cz1, fz1⟩ := hbz.at 1 _ rfl
      obtain ⟨cz2, fz2⟩ := hbz.at 2 _ rfl
      obtain ⟨cz3, fz3⟩ := hbz.at 3 _ rfl
      have HBQ := Lib.hid hbq; have HBZ := Lib.hid hbz; have HOW := Lib.hid hown; have HTX := Lib.hid htx; have HMS := Lib.hid hms; have hml : ms.length ≤ 5 := (by omega); have hcur := Lib.hid hd.cur; have hs1 : w.heap.size + 1 < wr.heap.size := (by omega); have hs0 : w.heap.size < wr.heap.size := (by omega)
      clear hbq hbz hown htx hms
      clear HS
      go_wp2_with fail
      go_cut [] (fun wx => Hid (BSt cb nm va w k wx))
      case first =>
        go_region_law ((go_simp; go_at_call 64; refine (l1Below_any cb 2 _ (hcur.out.ext bxt) (by omega)).mono ?_; rintro e w2 ⟨v, ⟨v0, v1, -⟩, rfl, hd2⟩; have v1 := v1 (by omega); have hz2 := hd2.size; (try simp at hz2); have s2_0 : w.heap.size < w2.heap.size := (by omega); have c2_0_0 : w2.cell? ⟨w.heap.size, 0, none⟩ = some (.string ⟨#[]⟩) := (hd2.cell (x := w.heap.size) (o := 0) smx (by omega)).trans kpx; have f2_0_0 : w2.frozen? ⟨w.heap.size, 0, none⟩ = false := (hd2.frozen (x := w.heap.size) (o := 0) smx (by omega)).trans kfx; have c2_0_1 : w2.cell? ⟨w.heap.size, 1, none⟩ = some (.int .i64 0) := (hd2.cell (x := w.heap.size) (o := 1) smx (by omega)).trans kpx; have f2_0_1 : w2.frozen? ⟨w.heap.size, 1, none⟩ = false := (hd2.frozen (x := w.heap.size) (o := 1) smx (by omega)).trans kfx; have c2_0_2 : w2.cell? ⟨w.heap.size, 2, none⟩ = some (.int .i64 0) := (hd2.cell (x := w.heap.size) (o := 2) smx (by omega)).trans kpx; have f2_0_2 : w2.frozen? ⟨w.heap.size, 2, none⟩ = false := (hd2.frozen (x := w.heap.size) (o := 2) smx (by omega)).trans kfx; have c2_0_3 : w2.cell? ⟨w.heap.size, 3, none⟩ = some (.slice none 0 0) := (hd2.cell (x := w.heap.size) (o := 3) smx (by omega)).trans kpx; have f2_0_3 : w2.frozen? ⟨w.heap.size, 3, none⟩ = false := (hd2.frozen (x := w.heap.size) (o := 3) smx (by omega)).trans kfx; have s2_1 : w.heap.size + 1 < w2.heap.size := (by omega); have c2_1_0 : w2.cell? ⟨w.heap.size + 1, 0, none⟩ = some (.string nm) := (hd2.cell (x := w.heap.size + 1) (o := 0) smx (by omega)).trans kpx; have f2_1_0 : w2.frozen? ⟨w.heap.size + 1, 0, none⟩ = false := (hd2.frozen (x := w.heap.size + 1) (o := 0) smx (by omega)).trans kfx; have c2_1_1 : w2.cell? ⟨w.heap.size + 1, 1, none⟩ = some (.int .i64 va) := (hd2.cell (x := w.heap.size + 1) (o := 1) smx (by omega)).trans kpx; have f2_1_1 : w2.frozen? ⟨w.heap.size + 1, 1, none⟩ = false := (hd2.frozen (x := w.heap.size + 1) (o := 1) smx (by omega)).trans kfx; have c2_1_2 : w2.cell? ⟨w.heap.size + 1, 2, none⟩ = some (.int .i64 nx) := (hd2.cell (x := w.heap.size + 1) (o := 2) smx (by omega)).trans kpx; have f2_1_2 : w2.frozen? ⟨w.heap.size + 1, 2, none⟩ = false := (hd2.frozen (x := w.heap.size + 1) (o := 2) smx (by omega)).trans kfx; have c2_1_3 : w2.cell? ⟨w.heap.size + 1, 3, none⟩ = some (.slice g ms.length q) := (hd2.cell (x := w.heap.size + 1) (o := 3) smx (by omega)).trans kpx; have f2_1_3 : w2.frozen? ⟨w.heap.size + 1, 3, none⟩ = false := (hd2.frozen (x := w.heap.size + 1) (o := 3) smx (by omega)).trans kfx))
        all_goals go_wp2_with fail
        all_goals go_meet
        all_goals have hdr : Dr cb wr w2 := dtx
        all_goals exact ⟨_, g, q, ms, HMS.out, HTX.out, (HBQ.out.dr hdr (by omega)).put1 2 _ rfl, (HBZ.out.dr hdr (by omega)).set (by simp) _, (HOW.out.dr hdr (by omega)).set_below (by simp) _, (hd.trans hdr).setCell (by simp) _, by simp; omega⟩
      case rest =>
        clear cq0 cq1 cq2 cq3 fq0 fq1 fq2 fq3 cz0 cz1 cz2 cz3 fz0 fz1 fz2 fz3 HBQ HBZ HOW HTX HMS hml hcur hs1 hs0 hd hsz
        clear nx g q ms
        obtain ⟨nx, g, q, ms, hms, htx, hbq, hbz, hown, hd, hsz⟩ := hcut.out
        obtain ⟨cq0, fq0⟩ := hbq.at 0 _ rfl
        obtain ⟨cq1, fq1⟩ := hbq.at 1 _ rfl
        obtain ⟨cq2, fq2⟩ := hbq.at 2 _ rfl
        obtain ⟨cq3, fq3⟩ := hbq.at 3 _ rfl
        obtain ⟨cz0, fz0⟩ := hbz.at 0 _ rfl
        obtain ⟨cz1, fz1⟩ := hbz.at 1 _ rfl
        obtain ⟨cz2, fz2⟩ := hbz.at 2 _ rfl
        obtain ⟨cz3, fz3⟩ := hbz.at 3 _ rfl
        have HBQ := Lib.hid hbq; have HBZ := Lib.hid hbz; have HOW := Lib.hid hown; have HTX := Lib.hid htx; have HMS := Lib.hid hms; have hml : ms.length ≤ 5 := (by omega); have hcur := Lib.hid hd.cur; have hs1 : w.heap.size + 1 < wc.heap.size := (by omega); have hs0 : w.heap.size < wc.heap.size := (by omega)
        clear hbq hbz hown htx hms
        clear hcut
        go_wp2_with fail
        go_cut [] (fun wy => Hid (BSt cb nm va w (k + 1) wy))
        case first =>
          go_region_law ((first | (go_simp; go_at_call 64; refine (l1Below_any cb 32 _ (hcur.out.ext bxt) (by omega)).mono ?_; rintro e w3 ⟨v, ⟨v0, v1, -⟩, rfl, hd3⟩; have hcu3 := Lib.hid hd3.cur; have hz3 := hd3.size; (try simp at hz3); have s3_0 : w.heap.size + 1 < w3.heap.size := (by omega); have c3_0_0 : w3.cell? ⟨w.heap.size + 1, 0, none⟩ = some (.string nm) := (hd3.cell (x := w.heap.size + 1) (o := 0) smx (by omega)).trans kpx; have f3_0_0 : w3.frozen? ⟨w.heap.size + 1, 0, none⟩ = false := (hd3.frozen (x := w.heap.size + 1) (o := 0) smx (by omega)).trans kfx; have c3_0_1 : w3.cell? ⟨w.heap.size + 1, 1, none⟩ = some (.int .i64 va) := (hd3.cell (x := w.heap.size + 1) (o := 1) smx (by omega)).trans kpx; have f3_0_1 : w3.frozen? ⟨w.heap.size + 1, 1, none⟩ = false := (hd3.frozen (x := w.heap.size + 1) (o := 1) smx (by omega)).trans kfx; have c3_0_2 : w3.cell? ⟨w.heap.size + 1, 2, none⟩ = some (.int .i64 nx) := (hd3.cell (x := w.heap.size + 1) (o := 2) smx (by omega)).trans kpx; have f3_0_2 : w3.frozen? ⟨w.heap.size + 1, 2, none⟩ = false := (hd3.frozen (x := w.heap.size + 1) (o := 2) smx (by omega)).trans kfx; have c3_0_3 : w3.cell? ⟨w.heap.size + 1, 3, none⟩ = some (.slice g ms.length q) := (hd3.cell (x := w.heap.size + 1) (o := 3) smx (by omega)).trans kpx; have f3_0_3 : w3.frozen? ⟨w.heap.size + 1, 3, none⟩ = false := (hd3.frozen (x := w.heap.size + 1) (o := 3) smx (by omega)).trans kfx) | (go_simp; go_at_call 93; refine (l7Body_any cb _ (hcu3.out.ext bxt)).mono ?_; rintro e w4 ⟨s, hs, rfl, hd4⟩; have hz4 := hd4.size; (try simp at hz4); have s4_0 : w.heap.size + 1 < w4.heap.size := (by omega); have c4_0_0 : w4.cell? ⟨w.heap.size + 1, 0, none⟩ = some (.string nm) := (hd4.cell (x := w.heap.size + 1) (o := 0) smx (by omega)).trans kpx; have f4_0_0 : w4.frozen? ⟨w.heap.size + 1, 0, none⟩ = false := (hd4.frozen (x := w.heap.size + 1) (o := 0) smx (by omega)).trans kfx; have c4_0_1 : w4.cell? ⟨w.heap.size + 1, 1, none⟩ = some (.int .i64 va) := (hd4.cell (x := w.heap.size + 1) (o := 1) smx (by omega)).trans kpx; have f4_0_1 : w4.frozen? ⟨w.heap.size + 1, 1, none⟩ = false := (hd4.frozen (x := w.heap.size + 1) (o := 1) smx (by omega)).trans kfx; have c4_0_2 : w4.cell? ⟨w.heap.size + 1, 2, none⟩ = some (.int .i64 nx) := (hd4.cell (x := w.heap.size + 1) (o := 2) smx (by omega)).trans kpx; have f4_0_2 : w4.frozen? ⟨w.heap.size + 1, 2, none⟩ = false := (hd4.frozen (x := w.heap.size + 1) (o := 2) smx (by omega)).trans kfx; have c4_0_3 : w4.cell? ⟨w.heap.size + 1, 3, none⟩ = some (.slice g ms.length q) := (hd4.cell (x := w.heap.size + 1) (o := 3) smx (by omega)).trans kpx; have f4_0_3 : w4.frozen? ⟨w.heap.size + 1, 3, none⟩ = false := (hd4.frozen (x := w.heap.size + 1) (o := 3) smx (by omega)).trans kfx; have hdr : Dr cb wc w4 := dtx; have HOZ := Lib.hid (HOW.out.dr hdr (by omega))) | (refine step_appD (B := w.heap.size + 2) (v := .slice g ms.length q) rfl (.tmp 27) (.tmp 35) 83 rfl i0 _ _ Tryd.underlying83 hi hy0 hy1 hy2 rfl (by decide) (by simp [Act.eval, Act.put]) (HOZ.out.ext bxt) (some ⟨w4.heap.size, 0, none⟩) 1 1 (DMsg.cells ⟨nx, v, s⟩) (by simp [Act.eval, Act.put]) (Rd.lit _ _ _ _ 3 _ (by simp) rfl (by omega)) (DMsg.one _) (by omega) (by omega) smx ?_; intro g2 q2 w5 hown hg hwl; have n0 := HOW.out.ne_lt (b := w.heap.size) (by omega); have n1 := HOW.out.ne_lt (b := w.heap.size + 1) (by omega); have s5_0 : w.heap.size + 1 < w5.heap.size := (by have hss := hg.size; first | omega | (simp at hss; omega)); have c5_0_0 : w5.cell? ⟨w.heap.size + 1, 0, none⟩ = some (.string nm) := grown_cell hg kpx n1; have f5_0_0 : w5.frozen? ⟨w.heap.size + 1, 0, none⟩ = false := grown_frz hg smx kfx n1; have c5_0_1 : w5.cell? ⟨w.heap.size + 1, 1, none⟩ = some (.int .i64 va) := grown_cell hg kpx n1; have f5_0_1 : w5.frozen? ⟨w.heap.size + 1, 1, none⟩ = false := grown_frz hg smx kfx n1; have c5_0_2 : w5.cell? ⟨w.heap.size + 1, 2, none⟩ = some (.int .i64 nx) := grown_cell hg kpx n1; have f5_0_2 : w5.frozen? ⟨w.heap.size + 1, 2, none⟩ = false := grown_frz hg smx kfx n1; have c5_0_3 : w5.cell? ⟨w.heap.size + 1, 3, none⟩ = some (.slice g ms.length q) := grown_cell hg kpx n1; have f5_0_3 : w5.frozen? ⟨w.heap.size + 1, 3, none⟩ = false := grown_frz hg smx kfx n1; have HBZ3 := Lib.hid (((HBZ.out.dr hdr (by omega)).ext (w' := _) bxt).grown hg n0); have HBQ3 := Lib.hid (((HBQ.out.dr hdr (by omega)).ext (w' := _) bxt).grown hg n1); have hdg : Dr cb w w5 := Dr.grown ((hd.trans hdr).ext (c := _) bxt) hg (fun x hx => Nat.le_trans (Nat.le_add_right _ 2) (HOW.out.lt x hx).1); have HW := Lib.hid hown; clear hown hwl)))
          all_goals go_wp2_with fail
          all_goals go_meet
          all_goals exact ⟨nx, g2, q2, ms ++ [⟨nx, v, s⟩], by simp [HMS.out], texts_app HTX.out hs, by simpa using HBQ3.out.put1 3 _ rfl, HBZ3.out.set (by simp) _, by simpa using HW.out.set_below (by simp) _, hdg.setCell (by simp) _, by simp; omega⟩
        case rest =>
          clear cq0 cq1 cq2 cq3 fq0 fq1 fq2 fq3 cz0 cz1 cz2 cz3 fz0 fz1 fz2 fz3 HBQ HBZ HOW HTX HMS hml hcur hs1 hs0 hd hsz
          clear nx g q ms
          obtain ⟨nx, g, q, ms, hms, htx, hbq, hbz, hown, hd, hsz⟩ := hcut.out
          obtain ⟨cq0, fq0⟩ := hbq.at 0 _ rfl
          obtain ⟨cq1, fq1⟩ := hbq.at 1 _ rfl
          obtain ⟨cq2, fq2⟩ := hbq.at 2 _ rfl
          obtain ⟨cq3, fq3⟩ := hbq.at 3 _ rfl
          obtain ⟨cz0, fz0⟩ := hbz.at 0 _ rfl
          obtain ⟨cz1, fz1⟩ := hbz.at 1 _ rfl
          obtain ⟨cz2, fz2⟩ := hbz.at 2 _ rfl
          obtain ⟨cz3, fz3⟩ := hbz.at 3 _ rfl
          have HBQ := Lib.hid hbq; have HBZ := Lib.hid hbz; have HOW := Lib.hid hown; have HTX := Lib.hid htx; have HMS := Lib.hid hms; have hml : ms.length ≤ 5 := (by omega); have hcur := Lib.hid hd.cur; have hs1 : w.heap.size + 1 < wc.heap.size := (by omega); have hs0 : w.heap.size < wc.heap.size := (by omega)
          clear hbq hbz hown htx hms
          clear hcut
          go_wp2_with fail
          go_roundw
          case rel => exact ⟨k + 1, by omega, by go_num, ⟨_, g, q, ms, HMS.out, HTX.out, HBQ.out.put1 2 _ rfl, HBZ.out.set (by simp) _, HOW.out.set_below (by simp) _, hd.setCell (by simp) _, by simp; omega⟩⟩
          case measure => simp [intOf]; omega
    · skip
      obtain ⟨nx, g, q, ms, hms, htx, hbq, hbz, hown, hd, hsz⟩ := HS.out
      obtain ⟨cq0, fq0⟩ := hbq.at 0 _ rfl
      obtain ⟨cq1, fq1⟩ := hbq.at 1 _ rfl
      obtain ⟨cq2, fq2⟩ := hbq.at 2 _ rfl
      obtain ⟨cq3, fq3⟩ := hbq.at 3 _ rfl
      obtain ⟨cz0, fz0⟩ := hbz.at 0 _ rfl
      obtain ⟨cz1, fz1⟩ := hbz.at 1 _ rfl
      obtain ⟨cz2, fz2⟩ := hbz.at 2 _ rfl
      obtain ⟨cz3, fz3⟩ := hbz.at 3 _ rfl
      have HBQ := Lib.hid hbq; have HBZ := Lib.hid hbz; have HOW := Lib.hid hown; have HTX := Lib.hid htx; have HMS := Lib.hid hms; have hml : ms.length ≤ 5 := (by omega); have hcur := Lib.hid hd.cur; have hs1 : w.heap.size + 1 < wr.heap.size := (by omega); have hs0 : w.heap.size < wr.heap.size := (by omega)
      clear hbq hbz hown htx hms
      go_wp2_with fail
      refine bodyPost_ret (v := .agg #[.string nm, .int .i64 va, .int .i64 nx, .slice g ms.length q]) (by simp [results, Tryd.results77, go_sem, *]) rfl ⟨nx, g, q, ms, hml, HTX.out, rfl, ?_, ?_⟩
      · refine Own.le (B := w.heap.size + 2) ?_ (by omega); exact (by repeat' (first | with_reducible exact HOW.out | with_reducible refine Own.set_below ?_ smx _ | with_reducible refine Own.alloc1 ?_ _ | with_reducible refine Own.drew1 ?_ | with_reducible refine Own.drewN1 ?_ | with_reducible refine Own.ext ?_ (by assumption)))
      · exact dtx
end Go.Proofs.YtadjlfcdjkikgaaDoor
