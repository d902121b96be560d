/-
  The draws of commits.
-/
import Derived.Test.YtadjlfcdjkikgaaDoorDraw8
namespace Go.Proofs.YtadjlfcdjkikgaaDoor
open Go.RowKit
set_option linter.unusedVariables false
set_option linter.unusedSimpArgs false

/-- a commit that is drawn -/
def DrC (cb : Nat) (w : World) (e : Ending) (w' : World) : Prop := ∃ m : DCommit, m.name.size ≤ 41 ∧ m.text.size ≤ 41 ∧ e = .returned (.agg #[.int .i64 m.kind, .int .i64 m.validity, .int .i64 m.uid, .int .i64 m.flags, .string m.name, .string m.text]) ∧ Dr cb w w'
/-- the commit that is being drawn lies in block b -/
def CSt (cb : Nat) (w : World) (b : Nat) (kd : Int) (wx : World) : Prop := ∃ va u : Int, Bx wx b [.int .i64 kd, .int .i64 va, .int .i64 u, .int .i64 0, .string ⟨#[]⟩, .string ⟨#[]⟩] ∧ Bx wx w.heap.size [.int .i64 0, .int .i64 0, .int .i64 0, .int .i64 0, .string ⟨#[]⟩, .string ⟨#[]⟩] ∧ Dr cb w wx
theorem CSt.dr {cb b : Nat} {w wx wy : World} {kd : Int} (h : CSt cb w b kd wx) (hd : Dr cb wx wy) (hb : b ≠ cb) (hw : w.heap.size ≠ cb) : CSt cb w b kd wy := by
  obtain ⟨va, u, h1, h2, h3⟩ := h
  exact ⟨va, u, h1.dr hd hb, h2.dr hd hw, h3.trans hd⟩
theorem CSt.uid {cb b : Nat} {w wx : World} {kd : Int} (h : CSt cb w b kd wx) (v : Int) (hb : w.heap.size < b) : CSt cb w b kd (wx.setCell ⟨b, 2, none⟩ (.int .i64 v)) := by
  obtain ⟨va, u, h1, h2, h3⟩ := h
  exact ⟨va, v, h1.put1 2 _ rfl, h2.set (by show b ≠ w.heap.size; omega) _, h3.setCell (by show w.heap.size ≤ b; omega) _⟩
theorem OwnRs.cells {w : World} {B E EM g c j : Nat} {m : List PBox} (h : OwnRs w B E EM (some ⟨g, 0, none⟩) c m) (hj : j < m.length) :
    w.cell? ⟨g, j * 4, none⟩ = some (.string m[j].name) ∧ w.cell? ⟨g, j * 4 + 1, none⟩ = some (.int .i64 m[j].validity) ∧ w.cell? ⟨g, j * 4 + 2, none⟩ = some (.int .i64 m[j].next) ∧ w.cell? ⟨g, j * 4 + 3, none⟩ = some (.slice m[j].ma m[j].msgs.length m[j].mc) := by
  obtain ⟨b, o, hbo, -, hat⟩ := h.rd.ptr (by omega)
  cases hbo
  have h1 := PBox.at hat j hj
  simpa only [Nat.zero_add] using h1
theorem Own.mcell {w : World} {B E gm c : Nat} {ms : List DMsg} (h : Own w B E 3 (.slice (some ⟨gm, 0, none⟩) ms.length c) ms.length (ms.flatMap DMsg.cells)) (p : Nat) (hp : p < ms.length) : w.cell? ⟨gm, p * 3, none⟩ = some (.int .i64 ms[p].uid) := by
  obtain ⟨b, o, hbo, -, hat⟩ := (Rd.of_Own h).ptr (by omega)
  cases hbo
  exact (DMsg.at0 hat p hp).1
/-- whether a mailbox is chosen -/
def CB (cb : Nat) (w : World) (b n : Nat) (kd : Int) (u : Value) (wx : World) : Prop := ∃ t : Bool, u = .bool t ∧ (t = true → 0 < n) ∧ CSt cb w b kd wx
set_option maxRecDepth 100000 in
set_option maxHeartbeats 8000000 in
theorem l10Commit_any (cb : Nat) (zs : List PBox) (g : Option Addr) (q B : Nat) (w : World) (hc : Cur w cb) (ho : OwnRs w B 85 111 g q zs) (hB : cb < B) (hz : zs.length ≤ 1000) (hm : ∀ y ∈ zs, y.msgs.length ≤ 1000) :
    Calls Tryd.prog 80 #[.pointer (some ⟨cb, 0, none⟩), .slice g zs.length q] w (DrC cb w) := by
  have hcl := hc.lt
  have HC := Lib.hid hc
  have HO := Lib.hid ho
  have HM := Lib.hid hm
  clear hc ho hm
  go_enter Tryd.func80, Tryd.ntmps80
  go_wp2_with fail
  refine (l1Below_any cb 6 _ (HC.out.ext bxt) (by omega)).mono ?_
  rintro e w1 ⟨k6, ⟨k60, k61, -⟩, rfl, hd1⟩
  have k61 := k61 (by omega)
  have hz1 := hd1.size; (try simp at hz1)
  have s1_0 : w.heap.size < w1.heap.size := (by omega)
  have c1_0_0 : w1.cell? ⟨w.heap.size, 0, none⟩ = some (.int .i64 0) := (hd1.cell (x := w.heap.size) (o := 0) smx (by omega)).trans kpx
  have f1_0_0 : w1.frozen? ⟨w.heap.size, 0, none⟩ = false := (hd1.frozen (x := w.heap.size) (o := 0) smx (by omega)).trans kfx
  have c1_0_1 : w1.cell? ⟨w.heap.size, 1, none⟩ = some (.int .i64 0) := (hd1.cell (x := w.heap.size) (o := 1) smx (by omega)).trans kpx
  have f1_0_1 : w1.frozen? ⟨w.heap.size, 1, none⟩ = false := (hd1.frozen (x := w.heap.size) (o := 1) smx (by omega)).trans kfx
  have c1_0_2 : w1.cell? ⟨w.heap.size, 2, none⟩ = some (.int .i64 0) := (hd1.cell (x := w.heap.size) (o := 2) smx (by omega)).trans kpx
  have f1_0_2 : w1.frozen? ⟨w.heap.size, 2, none⟩ = false := (hd1.frozen (x := w.heap.size) (o := 2) smx (by omega)).trans kfx
  have c1_0_3 : w1.cell? ⟨w.heap.size, 3, none⟩ = some (.int .i64 0) := (hd1.cell (x := w.heap.size) (o := 3) smx (by omega)).trans kpx
  have f1_0_3 : w1.frozen? ⟨w.heap.size, 3, none⟩ = false := (hd1.frozen (x := w.heap.size) (o := 3) smx (by omega)).trans kfx
  have c1_0_4 : w1.cell? ⟨w.heap.size, 4, none⟩ = some (.string ⟨#[]⟩) := (hd1.cell (x := w.heap.size) (o := 4) smx (by omega)).trans kpx
  have f1_0_4 : w1.frozen? ⟨w.heap.size, 4, none⟩ = false := (hd1.frozen (x := w.heap.size) (o := 4) smx (by omega)).trans kfx
  have c1_0_5 : w1.cell? ⟨w.heap.size, 5, none⟩ = some (.string ⟨#[]⟩) := (hd1.cell (x := w.heap.size) (o := 5) smx (by omega)).trans kpx
  have f1_0_5 : w1.frozen? ⟨w.heap.size, 5, none⟩ = false := (hd1.frozen (x := w.heap.size) (o := 5) smx (by omega)).trans kfx
  go_wp2_with fail
  refine (l1Below_any cb 9 _ (hd1.cur.ext bxt) (by omega)).mono ?_
  rintro e w2 ⟨v9, ⟨v90, v91, -⟩, rfl, hd2⟩
  have v91 := v91 (by omega)
  have hz2 := hd2.size; (try simp at hz2)
  have s2_0 : w.heap.size < w2.heap.size := (by omega)
  have c2_0_0 : w2.cell? ⟨w.heap.size, 0, none⟩ = some (.int .i64 0) := (hd2.cell (x := w.heap.size) (o := 0) smx (by omega)).trans kpx
  have f2_0_0 : w2.frozen? ⟨w.heap.size, 0, none⟩ = false := (hd2.frozen (x := w.heap.size) (o := 0) smx (by omega)).trans kfx
  have c2_0_1 : w2.cell? ⟨w.heap.size, 1, none⟩ = some (.int .i64 0) := (hd2.cell (x := w.heap.size) (o := 1) smx (by omega)).trans kpx
  have f2_0_1 : w2.frozen? ⟨w.heap.size, 1, none⟩ = false := (hd2.frozen (x := w.heap.size) (o := 1) smx (by omega)).trans kfx
  have c2_0_2 : w2.cell? ⟨w.heap.size, 2, none⟩ = some (.int .i64 0) := (hd2.cell (x := w.heap.size) (o := 2) smx (by omega)).trans kpx
  have f2_0_2 : w2.frozen? ⟨w.heap.size, 2, none⟩ = false := (hd2.frozen (x := w.heap.size) (o := 2) smx (by omega)).trans kfx
  have c2_0_3 : w2.cell? ⟨w.heap.size, 3, none⟩ = some (.int .i64 0) := (hd2.cell (x := w.heap.size) (o := 3) smx (by omega)).trans kpx
  have f2_0_3 : w2.frozen? ⟨w.heap.size, 3, none⟩ = false := (hd2.frozen (x := w.heap.size) (o := 3) smx (by omega)).trans kfx
  have c2_0_4 : w2.cell? ⟨w.heap.size, 4, none⟩ = some (.string ⟨#[]⟩) := (hd2.cell (x := w.heap.size) (o := 4) smx (by omega)).trans kpx
  have f2_0_4 : w2.frozen? ⟨w.heap.size, 4, none⟩ = false := (hd2.frozen (x := w.heap.size) (o := 4) smx (by omega)).trans kfx
  have c2_0_5 : w2.cell? ⟨w.heap.size, 5, none⟩ = some (.string ⟨#[]⟩) := (hd2.cell (x := w.heap.size) (o := 5) smx (by omega)).trans kpx
  have f2_0_5 : w2.frozen? ⟨w.heap.size, 5, none⟩ = false := (hd2.frozen (x := w.heap.size) (o := 5) smx (by omega)).trans kfx
  have HS0 : Hid (CSt cb w w2.heap.size (1 + k6) (w2.alloc (.cells #[.int .i64 (1 + k6), .int .i64 (1 + v9), .int .i64 0, .int .i64 0, .string ⟨#[]⟩, .string ⟨#[]⟩] 93))) := ⟨1 + v9, 0, Bx.mk rfl _ rfl, (((Bx.ext (Bx.mk rfl _ rfl) bxt).dr hd1 (by omega)).dr hd2 (by omega)).ext (w' := w2.alloc _) bxt, dtx⟩
  have hcu2 := Lib.hid hd2.cur
  have hk6 : k6 = 0 ∨ k6 = 1 ∨ k6 = 2 ∨ k6 = 3 ∨ k6 = 4 ∨ k6 = 5 := by omega
  go_upto_region 2 with fail
  go_cut [26] (fun u wx => CB cb w w2.heap.size zs.length (1 + k6) u wx)
  case first =>
    by_cases hz0 : zs.length = 0
    · have e0 : decide ((0 : Int) < (zs.length : Int)) = false := decide_eq_false (by omega)
      have e00 : decide (0 < zs.length) = false := decide_eq_false (by omega)
      clear hz0
      go_wp2_with fail
      go_meet
      exact ⟨false, rfl, fun h => (Bool.false_ne_true h).elim, HS0.out⟩
    · have e0 : decide ((0 : Int) < (zs.length : Int)) = true := decide_eq_true (by omega)
      have e00 : decide (0 < zs.length) = true := decide_eq_true (by omega)
      have hzp : 0 < zs.length := by omega
      clear hz0
      go_wp2_with fail
      refine (l1Once_any cb 8 _ (hcu2.out.ext bxt) (by omega)).mono ?_
      rintro e w3 ⟨v, rfl, hd3⟩
      have hz3 := hd3.size; (try simp at hz3)
      have s3_0 : w2.heap.size < w3.heap.size := (by omega)
      have c3_0_0 : w3.cell? ⟨w2.heap.size, 0, none⟩ = some (.int .i64 (1 + k6)) := (hd3.cell (x := w2.heap.size) (o := 0) smx (by omega)).trans kpx
      have f3_0_0 : w3.frozen? ⟨w2.heap.size, 0, none⟩ = false := (hd3.frozen (x := w2.heap.size) (o := 0) smx (by omega)).trans kfx
      have c3_0_1 : w3.cell? ⟨w2.heap.size, 1, none⟩ = some (.int .i64 (1 + v9)) := (hd3.cell (x := w2.heap.size) (o := 1) smx (by omega)).trans kpx
      have f3_0_1 : w3.frozen? ⟨w2.heap.size, 1, none⟩ = false := (hd3.frozen (x := w2.heap.size) (o := 1) smx (by omega)).trans kfx
      have c3_0_2 : w3.cell? ⟨w2.heap.size, 2, none⟩ = some (.int .i64 0) := (hd3.cell (x := w2.heap.size) (o := 2) smx (by omega)).trans kpx
      have f3_0_2 : w3.frozen? ⟨w2.heap.size, 2, none⟩ = false := (hd3.frozen (x := w2.heap.size) (o := 2) smx (by omega)).trans kfx
      have c3_0_3 : w3.cell? ⟨w2.heap.size, 3, none⟩ = some (.int .i64 0) := (hd3.cell (x := w2.heap.size) (o := 3) smx (by omega)).trans kpx
      have f3_0_3 : w3.frozen? ⟨w2.heap.size, 3, none⟩ = false := (hd3.frozen (x := w2.heap.size) (o := 3) smx (by omega)).trans kfx
      have c3_0_4 : w3.cell? ⟨w2.heap.size, 4, none⟩ = some (.string ⟨#[]⟩) := (hd3.cell (x := w2.heap.size) (o := 4) smx (by omega)).trans kpx
      have f3_0_4 : w3.frozen? ⟨w2.heap.size, 4, none⟩ = false := (hd3.frozen (x := w2.heap.size) (o := 4) smx (by omega)).trans kfx
      have c3_0_5 : w3.cell? ⟨w2.heap.size, 5, none⟩ = some (.string ⟨#[]⟩) := (hd3.cell (x := w2.heap.size) (o := 5) smx (by omega)).trans kpx
      have f3_0_5 : w3.frozen? ⟨w2.heap.size, 5, none⟩ = false := (hd3.frozen (x := w2.heap.size) (o := 5) smx (by omega)).trans kfx
      have HS3 : Hid (CSt cb w w2.heap.size (1 + k6) w3) := by
        obtain ⟨a1, a2, a3, a4, a5⟩ := HS0.out
        exact ⟨a1, a2, a3.dr hd3 (by omega), a4.dr hd3 (by omega), a5.trans hd3⟩
      by_cases hk0 : k6 = 0
      · subst hk0
        cases v <;> (go_wp2_with fail; go_meet; exact ⟨_, rfl, fun _ => hzp, HS3.out⟩)
      · have ek : (1 + k6 != 1) = true := by simp; omega
        cases v <;> (go_wp2_with fail; go_meet; exact ⟨_, rfl, fun _ => hzp, HS3.out⟩)
  case rest =>
    obtain ⟨t, rfl, htz, HS⟩ := hcut
    clear HS0
    go_upto_if 26 with fail
    go_cut [] (fun wx => CSt cb w w2.heap.size (1 + k6) wx)
    case first =>
      cases t
      · go_wp2_with fail
        go_meet
        exact HS
      · skip
        have hzp := htz rfl
        obtain ⟨va, u, hbm, hbr, hd⟩ := HS
        clear htz
        obtain ⟨m0, n0⟩ := hbm.at 0 _ rfl
        obtain ⟨m1, n1⟩ := hbm.at 1 _ rfl
        obtain ⟨m2, n2⟩ := hbm.at 2 _ rfl
        obtain ⟨m3, n3⟩ := hbm.at 3 _ rfl
        obtain ⟨m4, n4⟩ := hbm.at 4 _ rfl
        obtain ⟨m5, n5⟩ := hbm.at 5 _ rfl
        have sM : w2.heap.size < wc.heap.size := hbm.lt
        have hq0 : q ≠ 0 := by have := HO.out.row.cap; omega
        obtain ⟨g0, rfl, -⟩ := HO.out.row.row hq0
        have hg0 : B ≤ g0 ∧ g0 < w.heap.size := HO.out.row.lt g0 (by simp [foot, hq0])
        have HBM := Lib.hid hbm; have HBR := Lib.hid hbr; clear hbm hbr
        go_wp2_with fail
        refine (l1Below_any cb zs.length _ hd.cur (by omega)).mono ?_
        rintro e w5 ⟨kv, ⟨kv0, kv1, -⟩, rfl, hd5⟩
        have kv1 := kv1 (by omega)
        obtain ⟨k, rfl⟩ : ∃ k : Nat, kv = k := ⟨kv.toNat, by omega⟩
        have hkl : k < zs.length := by omega
        have hz5 := hd5.size; (try simp at hz5)
        have s5_0 : w2.heap.size < w5.heap.size := (by omega)
        have c5_0_0 : w5.cell? ⟨w2.heap.size, 0, none⟩ = some (.int .i64 (1 + k6)) := (hd5.cell (x := w2.heap.size) (o := 0) smx (by omega)).trans kpx
        have f5_0_0 : w5.frozen? ⟨w2.heap.size, 0, none⟩ = false := (hd5.frozen (x := w2.heap.size) (o := 0) smx (by omega)).trans kfx
        have c5_0_1 : w5.cell? ⟨w2.heap.size, 1, none⟩ = some (.int .i64 va) := (hd5.cell (x := w2.heap.size) (o := 1) smx (by omega)).trans kpx
        have f5_0_1 : w5.frozen? ⟨w2.heap.size, 1, none⟩ = false := (hd5.frozen (x := w2.heap.size) (o := 1) smx (by omega)).trans kfx
        have c5_0_2 : w5.cell? ⟨w2.heap.size, 2, none⟩ = some (.int .i64 u) := (hd5.cell (x := w2.heap.size) (o := 2) smx (by omega)).trans kpx
        have f5_0_2 : w5.frozen? ⟨w2.heap.size, 2, none⟩ = false := (hd5.frozen (x := w2.heap.size) (o := 2) smx (by omega)).trans kfx
        have c5_0_3 : w5.cell? ⟨w2.heap.size, 3, none⟩ = some (.int .i64 0) := (hd5.cell (x := w2.heap.size) (o := 3) smx (by omega)).trans kpx
        have f5_0_3 : w5.frozen? ⟨w2.heap.size, 3, none⟩ = false := (hd5.frozen (x := w2.heap.size) (o := 3) smx (by omega)).trans kfx
        have c5_0_4 : w5.cell? ⟨w2.heap.size, 4, none⟩ = some (.string ⟨#[]⟩) := (hd5.cell (x := w2.heap.size) (o := 4) smx (by omega)).trans kpx
        have f5_0_4 : w5.frozen? ⟨w2.heap.size, 4, none⟩ = false := (hd5.frozen (x := w2.heap.size) (o := 4) smx (by omega)).trans kfx
        have c5_0_5 : w5.cell? ⟨w2.heap.size, 5, none⟩ = some (.string ⟨#[]⟩) := (hd5.cell (x := w2.heap.size) (o := 5) smx (by omega)).trans kpx
        have f5_0_5 : w5.frozen? ⟨w2.heap.size, 5, none⟩ = false := (hd5.frozen (x := w2.heap.size) (o := 5) smx (by omega)).trans kfx
        have hdt := hd.trans hd5; have HO5 := Lib.hid (HO.out.dr hdt hB); have hws : w.heap.size ≤ w5.heap.size := hdt.size
        obtain ⟨x0, x1, x2, x3⟩ := HO5.out.cells hkl
        have hgx : g0 < w5.heap.size := by omega
        have HBM5 := Lib.hid (HBM.out.dr hd5 (by omega)); have HBR5 := Lib.hid (HBR.out.dr hd5 (by omega))
        have hcu5 := Lib.hid hd5.cur
        have hA : ∀ o : Obj, ∀ v1 v2 : Int, CSt cb w w2.heap.size (1 + k6) (((w5.setCell ⟨w2.heap.size, 1, none⟩ (.int .i64 v1)).setCell ⟨w2.heap.size, 2, none⟩ (.int .i64 v2)).alloc o) := fun o v1 v2 => ⟨_, _, (((HBM5.out.put1 1 _ rfl).put1 2 _ rfl).ext (w' := _) ((Below.refl _ _).alloc (Nat.le_refl _) _)), (((HBR5.out.set (p := ⟨w2.heap.size, 1, none⟩) (by show w2.heap.size ≠ w.heap.size; omega) _).set (p := ⟨w2.heap.size, 2, none⟩) (by show w2.heap.size ≠ w.heap.size; omega) _).ext (w' := _) ((Below.refl _ _).alloc (Nat.le_refl _) _)), ((hdt.setCell (p := ⟨w2.heap.size, 1, none⟩) (by show w.heap.size ≤ w2.heap.size; omega) _).setCell (p := ⟨w2.heap.size, 2, none⟩) (by show w.heap.size ≤ w2.heap.size; omega) _).alloc _⟩
        have HA := Lib.hid hA; clear hA
        by_cases hk4 : (4 : Int) < 1 + k6
        rotate_left
        · have ek : decide ((4 : Int) < 1 + k6) = false := decide_eq_false hk4
          go_wp2_with fail
          go_meet
          exact HA.out _ _ _
        have ek : decide ((4 : Int) < 1 + k6) = true := decide_eq_true hk4
        by_cases hml : 0 < zs[k].msgs.length
        rotate_left
        · have em : decide ((0 : Int) < (zs[k].msgs.length : Int)) = false := decide_eq_false (by omega)
          have em2 : decide (0 < zs[k].msgs.length) = false := decide_eq_false hml
          go_wp2_with fail
          go_meet
          exact HA.out _ _ _
        have em : (0 : Int) < (zs[k].msgs.length : Int) := by omega
        have hmk : zs[k].msgs.length ≤ 1000 := HM.out _ (List.getElem_mem hkl)
        have hc0 : zs[k].mc ≠ 0 := by have := (HO.out.msg _ (List.getElem_mem hkl)).cap; omega
        obtain ⟨gm, hma, -⟩ := (HO.out.msg _ (List.getElem_mem hkl)).row hc0
        have hgm : B ≤ gm ∧ gm < w.heap.size := (HO.out.msg _ (List.getElem_mem hkl)).lt gm (by simp [foot, hc0, hma])
        rw [hma] at x3
        have HMA := Lib.hid hma; clear hma
        go_wp2_with fail
        have hcw : Hid (Cur (((w5.setCell ⟨w2.heap.size, 1, none⟩ (.int .i64 zs[k].validity)).setCell ⟨w2.heap.size, 2, none⟩ (.int .i64 zs[k].next)).alloc (.cells #[.string zs[k].name, .int .i64 zs[k].validity, .int .i64 zs[k].next, .slice (some ⟨gm, 0, none⟩) zs[k].msgs.length zs[k].mc] 85)) cb) := Lib.hid (((((hdt.setCell (p := ⟨w2.heap.size, 1, none⟩) (by show w.heap.size ≤ w2.heap.size; omega) (.int .i64 zs[k].validity)).setCell (p := ⟨w2.heap.size, 2, none⟩) (by show w.heap.size ≤ w2.heap.size; omega) (.int .i64 zs[k].next)).alloc (.cells #[.string zs[k].name, .int .i64 zs[k].validity, .int .i64 zs[k].next, .slice (some ⟨gm, 0, none⟩) zs[k].msgs.length zs[k].mc] 85)))).cur
        go_region_law ((go_simp; go_at_call 64; refine (l1Below_any cb zs[k].msgs.length _ (hcw.out.ext bxt) (by omega)).mono ?_; rintro e w6 ⟨pv, ⟨pv0, pv1, -⟩, rfl, hd6⟩; have pv1 := pv1 (by omega); obtain ⟨p, rfl⟩ : ∃ p : Nat, pv = p := ⟨pv.toNat, (by omega)⟩; have hpl : p < zs[k].msgs.length := (by omega); have hz6 := hd6.size; (try simp at hz6); have s6_0 : w2.heap.size < w6.heap.size := (by omega); have c6_0_0 : w6.cell? ⟨w2.heap.size, 0, none⟩ = some (.int .i64 (1 + k6)) := (hd6.cell (x := w2.heap.size) (o := 0) smx (by omega)).trans kpx; have f6_0_0 : w6.frozen? ⟨w2.heap.size, 0, none⟩ = false := (hd6.frozen (x := w2.heap.size) (o := 0) smx (by omega)).trans kfx; have c6_0_1 : w6.cell? ⟨w2.heap.size, 1, none⟩ = some (.int .i64 zs[k].validity) := (hd6.cell (x := w2.heap.size) (o := 1) smx (by omega)).trans kpx; have f6_0_1 : w6.frozen? ⟨w2.heap.size, 1, none⟩ = false := (hd6.frozen (x := w2.heap.size) (o := 1) smx (by omega)).trans kfx; have c6_0_2 : w6.cell? ⟨w2.heap.size, 2, none⟩ = some (.int .i64 zs[k].next) := (hd6.cell (x := w2.heap.size) (o := 2) smx (by omega)).trans kpx; have f6_0_2 : w6.frozen? ⟨w2.heap.size, 2, none⟩ = false := (hd6.frozen (x := w2.heap.size) (o := 2) smx (by omega)).trans kfx; have c6_0_3 : w6.cell? ⟨w2.heap.size, 3, none⟩ = some (.int .i64 0) := (hd6.cell (x := w2.heap.size) (o := 3) smx (by omega)).trans kpx; have f6_0_3 : w6.frozen? ⟨w2.heap.size, 3, none⟩ = false := (hd6.frozen (x := w2.heap.size) (o := 3) smx (by omega)).trans kfx; have c6_0_4 : w6.cell? ⟨w2.heap.size, 4, none⟩ = some (.string ⟨#[]⟩) := (hd6.cell (x := w2.heap.size) (o := 4) smx (by omega)).trans kpx; have f6_0_4 : w6.frozen? ⟨w2.heap.size, 4, none⟩ = false := (hd6.frozen (x := w2.heap.size) (o := 4) smx (by omega)).trans kfx; have c6_0_5 : w6.cell? ⟨w2.heap.size, 5, none⟩ = some (.string ⟨#[]⟩) := (hd6.cell (x := w2.heap.size) (o := 5) smx (by omega)).trans kpx; have f6_0_5 : w6.frozen? ⟨w2.heap.size, 5, none⟩ = false := (hd6.frozen (x := w2.heap.size) (o := 5) smx (by omega)).trans kfx; have s6_1 : w5.heap.size < w6.heap.size := (by omega); have c6_1_0 : w6.cell? ⟨w5.heap.size, 0, none⟩ = some (.string zs[k].name) := (hd6.cell (x := w5.heap.size) (o := 0) smx (by omega)).trans kpx; have f6_1_0 : w6.frozen? ⟨w5.heap.size, 0, none⟩ = false := (hd6.frozen (x := w5.heap.size) (o := 0) smx (by omega)).trans kfx; have c6_1_1 : w6.cell? ⟨w5.heap.size, 1, none⟩ = some (.int .i64 zs[k].validity) := (hd6.cell (x := w5.heap.size) (o := 1) smx (by omega)).trans kpx; have f6_1_1 : w6.frozen? ⟨w5.heap.size, 1, none⟩ = false := (hd6.frozen (x := w5.heap.size) (o := 1) smx (by omega)).trans kfx; have c6_1_2 : w6.cell? ⟨w5.heap.size, 2, none⟩ = some (.int .i64 zs[k].next) := (hd6.cell (x := w5.heap.size) (o := 2) smx (by omega)).trans kpx; have f6_1_2 : w6.frozen? ⟨w5.heap.size, 2, none⟩ = false := (hd6.frozen (x := w5.heap.size) (o := 2) smx (by omega)).trans kfx; have c6_1_3 : w6.cell? ⟨w5.heap.size, 3, none⟩ = some (.slice (some ⟨gm, 0, none⟩) zs[k].msgs.length zs[k].mc) := (hd6.cell (x := w5.heap.size) (o := 3) smx (by omega)).trans kpx; have f6_1_3 : w6.frozen? ⟨w5.heap.size, 3, none⟩ = false := (hd6.frozen (x := w5.heap.size) (o := 3) smx (by omega)).trans kfx; have hdq : Dr cb w w6 := Dr.trans (((((hdt.setCell (p := ⟨w2.heap.size, 1, none⟩) (by show w.heap.size ≤ w2.heap.size; omega) (.int .i64 zs[k].validity)).setCell (p := ⟨w2.heap.size, 2, none⟩) (by show w.heap.size ≤ w2.heap.size; omega) (.int .i64 zs[k].next)).alloc (.cells #[.string zs[k].name, .int .i64 zs[k].validity, .int .i64 zs[k].next, .slice (some ⟨gm, 0, none⟩) zs[k].msgs.length zs[k].mc] 85)))).drew hd6; have HMO := (HO.out.dr hdq hB).msg _ (List.getElem_mem hkl); rw [HMA.out] at HMO; have xu := HMO.mcell p hpl; have hgy : gm < w6.heap.size := (by have := hdq.size; omega); have HA6 := Lib.hid ((HA.out _ _ _).dr (Dr.trans (Dr.drew (Dr.refl hcw.out)) hd6) (by omega) (by omega)); clear HMO))
        all_goals go_wp2_with fail
        all_goals go_meet
        all_goals exact HA6.out.uid _ (by omega)
    case rest =>
      obtain ⟨va, u, hbm, hbr, hd⟩ := hcut
      obtain ⟨m0, n0⟩ := hbm.at 0 _ rfl
      obtain ⟨m1, n1⟩ := hbm.at 1 _ rfl
      obtain ⟨m2, n2⟩ := hbm.at 2 _ rfl
      obtain ⟨m3, n3⟩ := hbm.at 3 _ rfl
      obtain ⟨m4, n4⟩ := hbm.at 4 _ rfl
      obtain ⟨m5, n5⟩ := hbm.at 5 _ rfl
      obtain ⟨r0, s0⟩ := hbr.at 0 _ rfl
      obtain ⟨r1, s1⟩ := hbr.at 1 _ rfl
      obtain ⟨r2, s2⟩ := hbr.at 2 _ rfl
      obtain ⟨r3, s3⟩ := hbr.at 3 _ rfl
      obtain ⟨r4, s4⟩ := hbr.at 4 _ rfl
      obtain ⟨r5, s5⟩ := hbr.at 5 _ rfl
      have sM : w2.heap.size < wc.heap.size := hbm.lt; have sR : w.heap.size < wc.heap.size := hbr.lt
      clear hbm hbr htz
      go_wp2_with fail
      refine (l1Below_any cb 32 _ (hd.cur.ext bxt) (by omega)).mono ?_
      rintro e w21 ⟨fl, ⟨fl0, fl1, -⟩, rfl, hd21⟩
      have hz21 := hd21.size; (try simp at hz21)
      have s21_0 : w2.heap.size < w21.heap.size := (by omega)
      have c21_0_0 : w21.cell? ⟨w2.heap.size, 0, none⟩ = some (.int .i64 (1 + k6)) := (hd21.cell (x := w2.heap.size) (o := 0) smx (by omega)).trans kpx
      have f21_0_0 : w21.frozen? ⟨w2.heap.size, 0, none⟩ = false := (hd21.frozen (x := w2.heap.size) (o := 0) smx (by omega)).trans kfx
      have c21_0_1 : w21.cell? ⟨w2.heap.size, 1, none⟩ = some (.int .i64 va) := (hd21.cell (x := w2.heap.size) (o := 1) smx (by omega)).trans kpx
      have f21_0_1 : w21.frozen? ⟨w2.heap.size, 1, none⟩ = false := (hd21.frozen (x := w2.heap.size) (o := 1) smx (by omega)).trans kfx
      have c21_0_2 : w21.cell? ⟨w2.heap.size, 2, none⟩ = some (.int .i64 u) := (hd21.cell (x := w2.heap.size) (o := 2) smx (by omega)).trans kpx
      have f21_0_2 : w21.frozen? ⟨w2.heap.size, 2, none⟩ = false := (hd21.frozen (x := w2.heap.size) (o := 2) smx (by omega)).trans kfx
      have c21_0_3 : w21.cell? ⟨w2.heap.size, 3, none⟩ = some (.int .i64 0) := (hd21.cell (x := w2.heap.size) (o := 3) smx (by omega)).trans kpx
      have f21_0_3 : w21.frozen? ⟨w2.heap.size, 3, none⟩ = false := (hd21.frozen (x := w2.heap.size) (o := 3) smx (by omega)).trans kfx
      have c21_0_4 : w21.cell? ⟨w2.heap.size, 4, none⟩ = some (.string ⟨#[]⟩) := (hd21.cell (x := w2.heap.size) (o := 4) smx (by omega)).trans kpx
      have f21_0_4 : w21.frozen? ⟨w2.heap.size, 4, none⟩ = false := (hd21.frozen (x := w2.heap.size) (o := 4) smx (by omega)).trans kfx
      have c21_0_5 : w21.cell? ⟨w2.heap.size, 5, none⟩ = some (.string ⟨#[]⟩) := (hd21.cell (x := w2.heap.size) (o := 5) smx (by omega)).trans kpx
      have f21_0_5 : w21.frozen? ⟨w2.heap.size, 5, none⟩ = false := (hd21.frozen (x := w2.heap.size) (o := 5) smx (by omega)).trans kfx
      have s21_1 : w.heap.size < w21.heap.size := (by omega)
      have c21_1_0 : w21.cell? ⟨w.heap.size, 0, none⟩ = some (.int .i64 0) := (hd21.cell (x := w.heap.size) (o := 0) smx (by omega)).trans kpx
      have f21_1_0 : w21.frozen? ⟨w.heap.size, 0, none⟩ = false := (hd21.frozen (x := w.heap.size) (o := 0) smx (by omega)).trans kfx
      have c21_1_1 : w21.cell? ⟨w.heap.size, 1, none⟩ = some (.int .i64 0) := (hd21.cell (x := w.heap.size) (o := 1) smx (by omega)).trans kpx
      have f21_1_1 : w21.frozen? ⟨w.heap.size, 1, none⟩ = false := (hd21.frozen (x := w.heap.size) (o := 1) smx (by omega)).trans kfx
      have c21_1_2 : w21.cell? ⟨w.heap.size, 2, none⟩ = some (.int .i64 0) := (hd21.cell (x := w.heap.size) (o := 2) smx (by omega)).trans kpx
      have f21_1_2 : w21.frozen? ⟨w.heap.size, 2, none⟩ = false := (hd21.frozen (x := w.heap.size) (o := 2) smx (by omega)).trans kfx
      have c21_1_3 : w21.cell? ⟨w.heap.size, 3, none⟩ = some (.int .i64 0) := (hd21.cell (x := w.heap.size) (o := 3) smx (by omega)).trans kpx
      have f21_1_3 : w21.frozen? ⟨w.heap.size, 3, none⟩ = false := (hd21.frozen (x := w.heap.size) (o := 3) smx (by omega)).trans kfx
      have c21_1_4 : w21.cell? ⟨w.heap.size, 4, none⟩ = some (.string ⟨#[]⟩) := (hd21.cell (x := w.heap.size) (o := 4) smx (by omega)).trans kpx
      have f21_1_4 : w21.frozen? ⟨w.heap.size, 4, none⟩ = false := (hd21.frozen (x := w.heap.size) (o := 4) smx (by omega)).trans kfx
      have c21_1_5 : w21.cell? ⟨w.heap.size, 5, none⟩ = some (.string ⟨#[]⟩) := (hd21.cell (x := w.heap.size) (o := 5) smx (by omega)).trans kpx
      have f21_1_5 : w21.frozen? ⟨w.heap.size, 5, none⟩ = false := (hd21.frozen (x := w.heap.size) (o := 5) smx (by omega)).trans kfx
      go_wp2_with fail
      refine (l2Name_any cb _ (Cur.chg hd21.cur (chg_set _ w2.heap.size 3 _) (fun x hx => by subst hx; omega))).mono ?_
      rintro e w22 ⟨nm, hnm, rfl, hd22⟩
      have hz22 := hd22.size; (try simp at hz22)
      have s22_0 : w2.heap.size < w22.heap.size := (by omega)
      have c22_0_0 : w22.cell? ⟨w2.heap.size, 0, none⟩ = some (.int .i64 (1 + k6)) := (hd22.cell (x := w2.heap.size) (o := 0) smx (by omega)).trans kpx
      have f22_0_0 : w22.frozen? ⟨w2.heap.size, 0, none⟩ = false := (hd22.frozen (x := w2.heap.size) (o := 0) smx (by omega)).trans kfx
      have c22_0_1 : w22.cell? ⟨w2.heap.size, 1, none⟩ = some (.int .i64 va) := (hd22.cell (x := w2.heap.size) (o := 1) smx (by omega)).trans kpx
      have f22_0_1 : w22.frozen? ⟨w2.heap.size, 1, none⟩ = false := (hd22.frozen (x := w2.heap.size) (o := 1) smx (by omega)).trans kfx
      have c22_0_2 : w22.cell? ⟨w2.heap.size, 2, none⟩ = some (.int .i64 u) := (hd22.cell (x := w2.heap.size) (o := 2) smx (by omega)).trans kpx
      have f22_0_2 : w22.frozen? ⟨w2.heap.size, 2, none⟩ = false := (hd22.frozen (x := w2.heap.size) (o := 2) smx (by omega)).trans kfx
      have c22_0_3 : w22.cell? ⟨w2.heap.size, 3, none⟩ = some (.int .i64 fl) := (hd22.cell (x := w2.heap.size) (o := 3) smx (by omega)).trans kpx
      have f22_0_3 : w22.frozen? ⟨w2.heap.size, 3, none⟩ = false := (hd22.frozen (x := w2.heap.size) (o := 3) smx (by omega)).trans kfx
      have c22_0_4 : w22.cell? ⟨w2.heap.size, 4, none⟩ = some (.string ⟨#[]⟩) := (hd22.cell (x := w2.heap.size) (o := 4) smx (by omega)).trans kpx
      have f22_0_4 : w22.frozen? ⟨w2.heap.size, 4, none⟩ = false := (hd22.frozen (x := w2.heap.size) (o := 4) smx (by omega)).trans kfx
      have c22_0_5 : w22.cell? ⟨w2.heap.size, 5, none⟩ = some (.string ⟨#[]⟩) := (hd22.cell (x := w2.heap.size) (o := 5) smx (by omega)).trans kpx
      have f22_0_5 : w22.frozen? ⟨w2.heap.size, 5, none⟩ = false := (hd22.frozen (x := w2.heap.size) (o := 5) smx (by omega)).trans kfx
      have s22_1 : w.heap.size < w22.heap.size := (by omega)
      have c22_1_0 : w22.cell? ⟨w.heap.size, 0, none⟩ = some (.int .i64 0) := (hd22.cell (x := w.heap.size) (o := 0) smx (by omega)).trans kpx
      have f22_1_0 : w22.frozen? ⟨w.heap.size, 0, none⟩ = false := (hd22.frozen (x := w.heap.size) (o := 0) smx (by omega)).trans kfx
      have c22_1_1 : w22.cell? ⟨w.heap.size, 1, none⟩ = some (.int .i64 0) := (hd22.cell (x := w.heap.size) (o := 1) smx (by omega)).trans kpx
      have f22_1_1 : w22.frozen? ⟨w.heap.size, 1, none⟩ = false := (hd22.frozen (x := w.heap.size) (o := 1) smx (by omega)).trans kfx
      have c22_1_2 : w22.cell? ⟨w.heap.size, 2, none⟩ = some (.int .i64 0) := (hd22.cell (x := w.heap.size) (o := 2) smx (by omega)).trans kpx
      have f22_1_2 : w22.frozen? ⟨w.heap.size, 2, none⟩ = false := (hd22.frozen (x := w.heap.size) (o := 2) smx (by omega)).trans kfx
      have c22_1_3 : w22.cell? ⟨w.heap.size, 3, none⟩ = some (.int .i64 0) := (hd22.cell (x := w.heap.size) (o := 3) smx (by omega)).trans kpx
      have f22_1_3 : w22.frozen? ⟨w.heap.size, 3, none⟩ = false := (hd22.frozen (x := w.heap.size) (o := 3) smx (by omega)).trans kfx
      have c22_1_4 : w22.cell? ⟨w.heap.size, 4, none⟩ = some (.string ⟨#[]⟩) := (hd22.cell (x := w.heap.size) (o := 4) smx (by omega)).trans kpx
      have f22_1_4 : w22.frozen? ⟨w.heap.size, 4, none⟩ = false := (hd22.frozen (x := w.heap.size) (o := 4) smx (by omega)).trans kfx
      have c22_1_5 : w22.cell? ⟨w.heap.size, 5, none⟩ = some (.string ⟨#[]⟩) := (hd22.cell (x := w.heap.size) (o := 5) smx (by omega)).trans kpx
      have f22_1_5 : w22.frozen? ⟨w.heap.size, 5, none⟩ = false := (hd22.frozen (x := w.heap.size) (o := 5) smx (by omega)).trans kfx
      go_wp2_with fail
      refine (l7Body_any cb _ (Cur.chg hd22.cur (chg_set _ w2.heap.size 4 _) (fun x hx => by subst hx; omega))).mono ?_
      rintro e w23 ⟨tx, htx, rfl, hd23⟩
      have hz23 := hd23.size; (try simp at hz23)
      have s23_0 : w2.heap.size < w23.heap.size := (by omega)
      have c23_0_0 : w23.cell? ⟨w2.heap.size, 0, none⟩ = some (.int .i64 (1 + k6)) := (hd23.cell (x := w2.heap.size) (o := 0) smx (by omega)).trans kpx
      have f23_0_0 : w23.frozen? ⟨w2.heap.size, 0, none⟩ = false := (hd23.frozen (x := w2.heap.size) (o := 0) smx (by omega)).trans kfx
      have c23_0_1 : w23.cell? ⟨w2.heap.size, 1, none⟩ = some (.int .i64 va) := (hd23.cell (x := w2.heap.size) (o := 1) smx (by omega)).trans kpx
      have f23_0_1 : w23.frozen? ⟨w2.heap.size, 1, none⟩ = false := (hd23.frozen (x := w2.heap.size) (o := 1) smx (by omega)).trans kfx
      have c23_0_2 : w23.cell? ⟨w2.heap.size, 2, none⟩ = some (.int .i64 u) := (hd23.cell (x := w2.heap.size) (o := 2) smx (by omega)).trans kpx
      have f23_0_2 : w23.frozen? ⟨w2.heap.size, 2, none⟩ = false := (hd23.frozen (x := w2.heap.size) (o := 2) smx (by omega)).trans kfx
      have c23_0_3 : w23.cell? ⟨w2.heap.size, 3, none⟩ = some (.int .i64 fl) := (hd23.cell (x := w2.heap.size) (o := 3) smx (by omega)).trans kpx
      have f23_0_3 : w23.frozen? ⟨w2.heap.size, 3, none⟩ = false := (hd23.frozen (x := w2.heap.size) (o := 3) smx (by omega)).trans kfx
      have c23_0_4 : w23.cell? ⟨w2.heap.size, 4, none⟩ = some (.string nm) := (hd23.cell (x := w2.heap.size) (o := 4) smx (by omega)).trans kpx
      have f23_0_4 : w23.frozen? ⟨w2.heap.size, 4, none⟩ = false := (hd23.frozen (x := w2.heap.size) (o := 4) smx (by omega)).trans kfx
      have c23_0_5 : w23.cell? ⟨w2.heap.size, 5, none⟩ = some (.string ⟨#[]⟩) := (hd23.cell (x := w2.heap.size) (o := 5) smx (by omega)).trans kpx
      have f23_0_5 : w23.frozen? ⟨w2.heap.size, 5, none⟩ = false := (hd23.frozen (x := w2.heap.size) (o := 5) smx (by omega)).trans kfx
      have s23_1 : w.heap.size < w23.heap.size := (by omega)
      have c23_1_0 : w23.cell? ⟨w.heap.size, 0, none⟩ = some (.int .i64 0) := (hd23.cell (x := w.heap.size) (o := 0) smx (by omega)).trans kpx
      have f23_1_0 : w23.frozen? ⟨w.heap.size, 0, none⟩ = false := (hd23.frozen (x := w.heap.size) (o := 0) smx (by omega)).trans kfx
      have c23_1_1 : w23.cell? ⟨w.heap.size, 1, none⟩ = some (.int .i64 0) := (hd23.cell (x := w.heap.size) (o := 1) smx (by omega)).trans kpx
      have f23_1_1 : w23.frozen? ⟨w.heap.size, 1, none⟩ = false := (hd23.frozen (x := w.heap.size) (o := 1) smx (by omega)).trans kfx
      have c23_1_2 : w23.cell? ⟨w.heap.size, 2, none⟩ = some (.int .i64 0) := (hd23.cell (x := w.heap.size) (o := 2) smx (by omega)).trans kpx
      have f23_1_2 : w23.frozen? ⟨w.heap.size, 2, none⟩ = false := (hd23.frozen (x := w.heap.size) (o := 2) smx (by omega)).trans kfx
      have c23_1_3 : w23.cell? ⟨w.heap.size, 3, none⟩ = some (.int .i64 0) := (hd23.cell (x := w.heap.size) (o := 3) smx (by omega)).trans kpx
      have f23_1_3 : w23.frozen? ⟨w.heap.size, 3, none⟩ = false := (hd23.frozen (x := w.heap.size) (o := 3) smx (by omega)).trans kfx
      have c23_1_4 : w23.cell? ⟨w.heap.size, 4, none⟩ = some (.string ⟨#[]⟩) := (hd23.cell (x := w.heap.size) (o := 4) smx (by omega)).trans kpx
      have f23_1_4 : w23.frozen? ⟨w.heap.size, 4, none⟩ = false := (hd23.frozen (x := w.heap.size) (o := 4) smx (by omega)).trans kfx
      have c23_1_5 : w23.cell? ⟨w.heap.size, 5, none⟩ = some (.string ⟨#[]⟩) := (hd23.cell (x := w.heap.size) (o := 5) smx (by omega)).trans kpx
      have f23_1_5 : w23.frozen? ⟨w.heap.size, 5, none⟩ = false := (hd23.frozen (x := w.heap.size) (o := 5) smx (by omega)).trans kfx
      rcases hk6 with rfl | rfl | rfl | rfl | rfl | rfl
      · skip
        go_wp2_with fail
        refine bodyPost_ret (v := .agg #[.int .i64 (1), .int .i64 (va), .int .i64 (0), .int .i64 (0), .string (nm), .string (⟨#[]⟩)]) (by simp [results, Tryd.results80, go_sem, *]) rfl ⟨⟨1, va, 0, 0, nm, ⟨#[]⟩⟩, (by show nm.size ≤ 41; omega), (by show (⟨#[]⟩ : ByteArray).size ≤ 41; decide), rfl, dtx⟩
      · skip
        go_wp2_with fail
        refine bodyPost_ret (v := .agg #[.int .i64 (2), .int .i64 (va), .int .i64 (0), .int .i64 (0), .string (⟨#[]⟩), .string (⟨#[]⟩)]) (by simp [results, Tryd.results80, go_sem, *]) rfl ⟨⟨2, va, 0, 0, ⟨#[]⟩, ⟨#[]⟩⟩, (by show (⟨#[]⟩ : ByteArray).size ≤ 41; decide), (by show (⟨#[]⟩ : ByteArray).size ≤ 41; decide), rfl, dtx⟩
      · skip
        go_wp2_with fail
        refine bodyPost_ret (v := .agg #[.int .i64 (3), .int .i64 (va), .int .i64 (0), .int .i64 (0), .string (nm), .string (⟨#[]⟩)]) (by simp [results, Tryd.results80, go_sem, *]) rfl ⟨⟨3, va, 0, 0, nm, ⟨#[]⟩⟩, (by show nm.size ≤ 41; omega), (by show (⟨#[]⟩ : ByteArray).size ≤ 41; decide), rfl, dtx⟩
      · skip
        go_wp2_with fail
        refine bodyPost_ret (v := .agg #[.int .i64 (4), .int .i64 (va), .int .i64 (u), .int .i64 (fl), .string (⟨#[]⟩), .string (tx)]) (by simp [results, Tryd.results80, go_sem, *]) rfl ⟨⟨4, va, u, fl, ⟨#[]⟩, tx⟩, (by show (⟨#[]⟩ : ByteArray).size ≤ 41; decide), (by show tx.size ≤ 41; omega), rfl, dtx⟩
      · skip
        go_wp2_with fail
        refine bodyPost_ret (v := .agg #[.int .i64 (5), .int .i64 (va), .int .i64 (u), .int .i64 (fl), .string (⟨#[]⟩), .string (⟨#[]⟩)]) (by simp [results, Tryd.results80, go_sem, *]) rfl ⟨⟨5, va, u, fl, ⟨#[]⟩, ⟨#[]⟩⟩, (by show (⟨#[]⟩ : ByteArray).size ≤ 41; decide), (by show (⟨#[]⟩ : ByteArray).size ≤ 41; decide), rfl, dtx⟩
      · skip
        go_wp2_with fail
        refine bodyPost_ret (v := .agg #[.int .i64 (6), .int .i64 (va), .int .i64 (u), .int .i64 (0), .string (⟨#[]⟩), .string (⟨#[]⟩)]) (by simp [results, Tryd.results80, go_sem, *]) rfl ⟨⟨6, va, u, 0, ⟨#[]⟩, ⟨#[]⟩⟩, (by show (⟨#[]⟩ : ByteArray).size ≤ 41; decide), (by show (⟨#[]⟩ : ByteArray).size ≤ 41; decide), rfl, dtx⟩
end Go.Proofs.YtadjlfcdjkikgaaDoor
