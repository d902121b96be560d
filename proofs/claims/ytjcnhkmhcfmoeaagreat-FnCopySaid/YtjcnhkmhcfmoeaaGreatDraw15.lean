/-
  The draws of the laws of operations.
-/
import Derived.Test.YtjcnhkmhcfmoeaaGreatDraw13
namespace Go.Proofs.YtjcnhkmhcfmoeaaGreat
open Go.RowKit
set_option linter.unusedVariables false
set_option linter.unusedSimpArgs false

theorem info_intU : (Tryz.prog.info? 3).map (fun i => (i.zero, i.size, i.bytes)) = some (some (.int .i64 0), 1, 8) := by kernel_rfl
/-- numbers that are drawn -/
def DrU (n : Nat) (cb : Nat) (w : World) (e : Ending) (w' : World) : Prop :=
  ∃ (g q : Nat) (l : List Int), l.length ≤ n ∧ e = .returned (.slice (some ⟨g, 0, none⟩) l.length q) ∧ Own w' w.heap.size 3 1 (.slice (some ⟨g, 0, none⟩) l.length q) l.length (l.flatMap intCells) ∧ Dr cb w w'
def IdsRel (cb : Nat) (n : Int) (w : World) (v x i : Value) (wr : World) : Prop :=
  ∃ (k g q : Nat) (l : List Int) (x0 : Int), (k : Int) ≤ n ∧ i = .int .i64 k ∧ x = .int .i64 x0 ∧ (0 ≤ x0 ∧ x0 ≤ 2 * k) ∧ v = .slice (some ⟨g, 0, none⟩) k q ∧ l.length = k ∧ Hid (wr.ownsRow w.heap.size 3 1 (.slice (some ⟨g, 0, none⟩) k q) k (l.flatMap intCells)) ∧ Dr cb w wr
set_option maxRecDepth 100000 in
set_option maxHeartbeats 2000000 in
theorem l4Ids_any (cb : Nat) (w : World) (hc : Cur w cb) :
    Calls Tryz.prog 146 #[.pointer (some ⟨cb, 0, none⟩)] w (DrU 5 cb w) := by
  obtain ⟨i0, hi, hz0, hz1, hz2⟩ := info_parts info_intU
  have hcl := hc.lt
  have HC := Lib.hid hc
  clear hc
  go_enter Tryz.func146, Tryz.ntmps146
  go_wp2_with fail
  refine (l1Below_any cb 6 _ (HC.out.ext bxt) (by omega)).mono ?_
  rintro e w1 ⟨n, ⟨n0, n1, -⟩, rfl, hd1⟩
  have n1 := n1 (by omega)
  have HST : Hid (w1.ownsRow w.heap.size 3 1 (.slice (some ⟨w.heap.size, 0, none⟩) 0 0) 0 (([] : List Int).flatMap intCells)) := own_dr (World.ownsRow_lit w #[] 0 (Nat.le_refl _) (Nat.zero_le _) (by simp)) hd1 hcl
  have hdw : Dr cb w w1 := ((Dr.refl HC.out).alloc _).trans hd1
  go_wp2_with fail
  go_loopw [3, 5, 6] (IdsRel cb n w) (fun _ _ i _ => (n - intOf i).toNat)
  case atStart => exact ⟨0, w.heap.size, 0, [], 0, n0, rfl, rfl, ⟨Int.le_refl _, by omega⟩, rfl, rfl, HST, hdw⟩
  case round =>
    obtain ⟨k, g, q, l, x0, hk, rfl, rfl, ⟨hx0, hx1⟩, rfl, hl, HO, hd⟩ := hrel
    clear HST hdw
    by_cases hlt : (k : Int) < n
    · have hsz := hd.size
      go_wp2_with fail
      refine (l1Below_any cb 2 _ hd.cur (by omega)).mono ?_
      rintro e w2 ⟨v, ⟨v0, v1, -⟩, rfl, hd3⟩
      have v1 := v1 (by omega)
      have HO1 := Lib.hid (own_dr HO.out hd3 hd.lt)
      have hd2 := hd.trans hd3
      go_wp2_with ((at_builtin; refine wpList_app1L rfl _ _ _ rfl 3 i0 (.int .i64 0) 1 8 Tryz.underlying52 hi hz0 hz1 hz2 rfl (by decide) _ _ _ rfl _ (own_ext HO1.out ((Below.refl _ _).alloc (Nat.le_refl _) _)) w2.heap.size (intCells (x0 + 1 + v)) rfl rfl (at_alloc (by simp) rfl) (by simp [intCells, Value.oneCell']) (by omega) (by omega) (by have := hd2.size; simp; omega) ?_))
      intro g2 q2 w3 hown hg
      have HN : Hid (IdsRel cb n w (.slice (some ⟨g2, 0, none⟩) (k + 1) q2) (.int .i64 (x0 + 1 + v)) (.int .i64 ((k : Int) + 1)) w3) :=
        ⟨k + 1, g2, q2, l ++ [x0 + 1 + v], x0 + 1 + v, by omega, by simp, rfl, ⟨by omega, by omega⟩, rfl, by simp [hl], by unfold Hid; rw [List.flatMap_append]; simpa using hown, (hd2.alloc _).grown hg (fun x hx => (HO1.out.lt x hx).1)⟩
      clear hown hg
      go_wp2_with fail
      go_roundw
      case rel => exact HN.out
      case measure => simp [intOf]; omega
    · obtain rfl : n = k := by omega
      subst hl
      have HW := Lib.hid (Own.of_row HO.out)
      by_cases hk0 : l.length = 0
      · have e0 : decide ((0 : Int) < (l.length : Int)) = false := decide_eq_false (by omega)
        have e1 : decide (0 < l.length) = false := decide_eq_false (by omega)
        clear hk0
        go_wp2_with fail
        go_ret
        exact ⟨g, q, l, by omega, rfl, HW.out, hd⟩
      · have e0 : decide ((0 : Int) < (l.length : Int)) = true := decide_eq_true (by omega)
        have e1 : decide (0 < l.length) = true := decide_eq_true (by omega)
        go_wp2_with fail
        refine (l1Once_any cb 8 _ (hd.cur.ext bxt) (by omega)).mono ?_
        rintro e w4 ⟨t, rfl, hd4⟩
        cases t
        · go_wp2_with fail
          go_ret
          exact ⟨g, q, l, by omega, rfl, HW.out.dr hd4 hcl, hd.trans hd4⟩
        · go_wp2_with fail
          refine (l1Whole_any cb _ (hd4.cur.ext bxt)).mono ?_
          rintro e w5 ⟨u, -, rfl, hd5⟩
          have hd45 := hd4.trans hd5
          have HW5 := Lib.hid (HW.out.dr hd45 hcl)
          have hq0 : q ≠ 0 := by have := HW.out.cap; omega
          obtain ⟨⟨y, hy⟩, hf⟩ := HW5.out.slot 0 (by omega)
          have hgl := HW.out.lt g (by simp [foot, hq0])
          have hgs : g < w5.heap.size := by have := hd45.size; omega
          go_wp2_with fail
          go_ret
          refine ⟨g, q, l.set 0 u, by simp; omega, by simp, ?_, ((hd.trans hd45)).setCell hgl.1 _⟩
          rw [List.length_set]
          exact HW5.out.put1 hq0 (flat_set1 intCells_len l 0 0 (by omega) (by omega) _ u rfl)
set_option maxRecDepth 100000 in
set_option maxHeartbeats 2000000 in
theorem l12Uids_any (cb : Nat) (w : World) (hc : Cur w cb) :
    Calls Tryz.prog 103 #[.pointer (some ⟨cb, 0, none⟩)] w (DrU 6 cb w) := by
  obtain ⟨i0, hi, hz0, hz1, hz2⟩ := info_parts info_intU
  have hcl := hc.lt
  have HC := Lib.hid hc
  clear hc
  go_enter Tryz.func103, Tryz.ntmps103
  go_wp2_with fail
  refine (l4Ids_any cb _ (HC.out.ext bxt)).mono ?_
  rintro e w1 ⟨g, q, l, hl, rfl, ho, hd1⟩
  have HO := Lib.hid ho
  clear ho
  by_cases hk0 : l.length = 0
  · have e0 : decide ((0 : Int) < (l.length : Int)) = false := decide_eq_false (by omega)
    have e1 : decide (0 < l.length) = false := decide_eq_false (by omega)
    clear hk0
    go_wp2_with fail
    go_ret
    exact ⟨g, q, l, by omega, rfl, HO.out, hd1⟩
  have e0 : decide ((0 : Int) < (l.length : Int)) = true := decide_eq_true (by omega)
  have e1 : decide (0 < l.length) = true := decide_eq_true (by omega)
  have k2 : (0 : Int) < (l.length : Int) := by omega
  go_wp2_with fail
  refine (l1Once_any cb 6 _ (hd1.cur.ext bxt) (by omega)).mono ?_
  rintro e w2 ⟨t, rfl, hd2⟩
  have HO2 := Lib.hid (HO.out.dr hd2 hcl)
  cases t
  · go_wp2_with fail
    go_ret
    exact ⟨g, q, l, by omega, rfl, HO2.out, hd1.trans hd2⟩
  have hq0 : q ≠ 0 := by have := HO.out.cap; omega
  have hgl := HO.out.lt g (by simp [foot, hq0])
  have hgs : g < w2.heap.size := by have := hd2.size; omega
  have cU : w2.cell? ⟨g, 0, none⟩ = some (.int .i64 (l[0]'(by omega))) := by
    obtain ⟨b, ob, hbo, -, hat⟩ := (Rd.of_Own HO2.out).ptr (by omega)
    cases hbo
    have h := intCells_at hat 0 (by omega)
    simpa using h
  have hd12 := hd1.trans hd2
  go_wp2_with ((at_builtin; refine wpList_appL (B := w.heap.size) (v := .slice (some ⟨g, 0, none⟩) l.length q) rfl _ _ 52 rfl 3 i0 (.int .i64 0) 8 Tryz.underlying52 hi hz0 hz1 hz2 rfl (by decide) rfl (HO2.out.ext bxt) (some ⟨w2.heap.size, 0, none⟩) 1 1 (intCells (l[0]'(by omega))) rfl (Rd.lit _ _ _ _ 1 _ (by simp) rfl (by omega)) (by simp [intCells, Value.oneCell']) (by omega) (by omega) (by have := hd12.size; simp; omega) ?_))
  intro g2 q2 w3 hown hg hwl
  have hdg : Dr cb w w3 := (hd12.ext (c := _) bxt).grown hg (fun x hx => (HO.out.lt x hx).1)
  have HW := Lib.hid hown
  have hq2 := hown.cap
  obtain ⟨g3, rfl, -⟩ := hown.row (by omega)
  clear hown hwl
  go_wp2_with fail
  go_ret
  refine ⟨g3, q2, l ++ [l[0]'(by omega)], by simp; omega, by simp, ?_, hdg⟩
  have := HW.out
  simpa using this
def DrPut (w : World) (e : Ending) (w' : World) : Prop := ∃ (ba : Option Addr) (bc : Nat) (zs : List PBox) (la : Option Addr) (lc : Nat) (l : List DCommit) (gv : Int) (n : ByteArray) (f : Int) (t : ByteArray), n.size ≤ 41 ∧ t.size ≤ 82 ∧ zs.length ≤ 5 ∧ SmB 6 zs ∧ l.length ≤ 320 ∧ SmL l ∧ e = .returned (.tuple #[.agg #[.slice ba zs.length bc, .slice la l.length lc, .int .i64 gv], .string n, .int .i64 f, .string t]) ∧ OwnRt w' w.heap.size 49 66 41 ba bc zs la lc l ∧ Ext w w'
def DrPurge (w : World) (e : Ending) (w' : World) : Prop := ∃ (ba : Option Addr) (bc : Nat) (zs : List PBox) (la : Option Addr) (lc : Nat) (l : List DCommit) (gv : Int) (v : Int) (ua uc : Nat) (us : List Int), us.length ≤ 6 ∧ zs.length ≤ 5 ∧ SmB 6 zs ∧ l.length ≤ 320 ∧ SmL l ∧ e = .returned (.tuple #[.agg #[.slice ba zs.length bc, .slice la l.length lc, .int .i64 gv], .int .i64 v, .slice (some ⟨ua, 0, none⟩) us.length uc]) ∧ OwnRt w' w.heap.size 49 66 41 ba bc zs la lc l ∧ Own w' w.heap.size 3 1 (.slice (some ⟨ua, 0, none⟩) us.length uc) us.length (us.flatMap intCells) ∧ Ext w w'
def DrCopy (w : World) (e : Ending) (w' : World) : Prop := ∃ (ba : Option Addr) (bc : Nat) (zs : List PBox) (la : Option Addr) (lc : Nat) (l : List DCommit) (gv : Int) (v : Int) (ua uc : Nat) (us : List Int) (n : ByteArray), us.length ≤ 6 ∧ n.size ≤ 41 ∧ zs.length ≤ 5 ∧ SmB 6 zs ∧ l.length ≤ 320 ∧ SmL l ∧ e = .returned (.tuple #[.agg #[.slice ba zs.length bc, .slice la l.length lc, .int .i64 gv], .int .i64 v, .slice (some ⟨ua, 0, none⟩) us.length uc, .string n]) ∧ OwnRt w' w.heap.size 49 66 41 ba bc zs la lc l ∧ Own w' w.heap.size 3 1 (.slice (some ⟨ua, 0, none⟩) us.length uc) us.length (us.flatMap intCells) ∧ Ext w w'
def DrSet (w : World) (e : Ending) (w' : World) : Prop := ∃ (ba : Option Addr) (bc : Nat) (zs : List PBox) (la : Option Addr) (lc : Nat) (l : List DCommit) (gv : Int) (v : Int) (ua uc : Nat) (us : List Int) (op bi : Int), us.length ≤ 6 ∧ zs.length ≤ 5 ∧ SmB 6 zs ∧ l.length ≤ 320 ∧ SmL l ∧ e = .returned (.tuple #[.agg #[.slice ba zs.length bc, .slice la l.length lc, .int .i64 gv], .int .i64 v, .slice (some ⟨ua, 0, none⟩) us.length uc, .int .i64 op, .int .i64 bi]) ∧ OwnRt w' w.heap.size 49 66 41 ba bc zs la lc l ∧ Own w' w.heap.size 3 1 (.slice (some ⟨ua, 0, none⟩) us.length uc) us.length (us.flatMap intCells) ∧ Ext w w'
set_option maxRecDepth 100000 in
set_option maxHeartbeats 4000000 in
theorem drawPutMsg_any (lb : List Int) (a : Option Addr) (c : Nat) (w : World) (R : Rd w a c 1 lb.length (lb.flatMap byteCells)) (hb : ∀ y ∈ lb, 0 ≤ y ∧ y ≤ 255) (hl : lb.length ≤ 1048576) :
    Calls Tryz.prog 35 #[.slice a lb.length c] w (DrPut w) := by
  have HR := Lib.hid R
  have HB := Lib.hid hb
  clear R hb
  go_enter Tryz.func35, Tryz.ntmps35
  go_wp2_with fail
  refine (l1New_any lb a c _ (HR.out.ext bxt) HB.out hl).mono ?_
  rintro e w1 ⟨cb, hcb, rfl, hcu, hb1⟩
  (try simp at hcb)
  have hcl := hcu.lt
  have HCU := Lib.hid hcu
  clear hcu
  have hz1 := hb1.size; (try simp at hz1)
  have s1_0 : w.heap.size < w1.heap.size := (by omega)
  have c1_0_0 : w1.cell? ⟨w.heap.size, 0, none⟩ = some (.slice none 0 0) := (hb1.cell (p := ⟨w.heap.size, 0, none⟩) smx).trans kpx
  have f1_0_0 : w1.frozen? ⟨w.heap.size, 0, none⟩ = false := (hb1.frozen (p := ⟨w.heap.size, 0, none⟩) smx).trans kfx
  have c1_0_1 : w1.cell? ⟨w.heap.size, 1, none⟩ = some (.slice none 0 0) := (hb1.cell (p := ⟨w.heap.size, 1, none⟩) smx).trans kpx
  have f1_0_1 : w1.frozen? ⟨w.heap.size, 1, none⟩ = false := (hb1.frozen (p := ⟨w.heap.size, 1, none⟩) smx).trans kfx
  have c1_0_2 : w1.cell? ⟨w.heap.size, 2, none⟩ = some (.int .i64 0) := (hb1.cell (p := ⟨w.heap.size, 2, none⟩) smx).trans kpx
  have f1_0_2 : w1.frozen? ⟨w.heap.size, 2, none⟩ = false := (hb1.frozen (p := ⟨w.heap.size, 2, none⟩) smx).trans kfx
  go_wp2_with fail
  refine (l7Body_any cb _ (HCU.out.ext bxt)).mono ?_
  rintro e w2 ⟨tx, htx, rfl, hd2⟩
  have hz2 := hd2.size; (try simp at hz2)
  have s2_0 : w.heap.size < w2.heap.size := (by omega)
  have c2_0_0 : w2.cell? ⟨w.heap.size, 0, none⟩ = some (.slice none 0 0) := (hd2.cell (x := w.heap.size) (o := 0) smx (by omega)).trans kpx
  have f2_0_0 : w2.frozen? ⟨w.heap.size, 0, none⟩ = false := (hd2.frozen (x := w.heap.size) (o := 0) smx (by omega)).trans kfx
  have c2_0_1 : w2.cell? ⟨w.heap.size, 1, none⟩ = some (.slice none 0 0) := (hd2.cell (x := w.heap.size) (o := 1) smx (by omega)).trans kpx
  have f2_0_1 : w2.frozen? ⟨w.heap.size, 1, none⟩ = false := (hd2.frozen (x := w.heap.size) (o := 1) smx (by omega)).trans kfx
  have c2_0_2 : w2.cell? ⟨w.heap.size, 2, none⟩ = some (.int .i64 0) := (hd2.cell (x := w.heap.size) (o := 2) smx (by omega)).trans kpx
  have f2_0_2 : w2.frozen? ⟨w.heap.size, 2, none⟩ = false := (hd2.frozen (x := w.heap.size) (o := 2) smx (by omega)).trans kfx
  go_wp2_with fail
  refine (l1Once_any cb 12 _ (hd2.cur.ext bxt) (by omega)).mono ?_
  rintro e w3 ⟨t, rfl, hd3⟩
  have hz3 := hd3.size; (try simp at hz3)
  have s3_0 : w.heap.size < w3.heap.size := (by omega)
  have c3_0_0 : w3.cell? ⟨w.heap.size, 0, none⟩ = some (.slice none 0 0) := (hd3.cell (x := w.heap.size) (o := 0) smx (by omega)).trans kpx
  have f3_0_0 : w3.frozen? ⟨w.heap.size, 0, none⟩ = false := (hd3.frozen (x := w.heap.size) (o := 0) smx (by omega)).trans kfx
  have c3_0_1 : w3.cell? ⟨w.heap.size, 1, none⟩ = some (.slice none 0 0) := (hd3.cell (x := w.heap.size) (o := 1) smx (by omega)).trans kpx
  have f3_0_1 : w3.frozen? ⟨w.heap.size, 1, none⟩ = false := (hd3.frozen (x := w.heap.size) (o := 1) smx (by omega)).trans kfx
  have c3_0_2 : w3.cell? ⟨w.heap.size, 2, none⟩ = some (.int .i64 0) := (hd3.cell (x := w.heap.size) (o := 2) smx (by omega)).trans kpx
  have f3_0_2 : w3.frozen? ⟨w.heap.size, 2, none⟩ = false := (hd3.frozen (x := w.heap.size) (o := 2) smx (by omega)).trans kfx
  cases t
  · skip
    go_wp2_with fail
    refine (l12Store_any cb _ (hd3.cur.ext bxt)).mono ?_
    rintro e w4 ⟨ba, bc, zs, la, lc, l, gv, hzl, hsm, hll, hsl, rfl, ho, hd4⟩
    have hz4 := hd4.size; (try simp at hz4)
    have s4_0 : w.heap.size < w4.heap.size := (by omega)
    have c4_0_0 : w4.cell? ⟨w.heap.size, 0, none⟩ = some (.slice none 0 0) := (hd4.cell (x := w.heap.size) (o := 0) smx (by omega)).trans kpx
    have f4_0_0 : w4.frozen? ⟨w.heap.size, 0, none⟩ = false := (hd4.frozen (x := w.heap.size) (o := 0) smx (by omega)).trans kfx
    have c4_0_1 : w4.cell? ⟨w.heap.size, 1, none⟩ = some (.slice none 0 0) := (hd4.cell (x := w.heap.size) (o := 1) smx (by omega)).trans kpx
    have f4_0_1 : w4.frozen? ⟨w.heap.size, 1, none⟩ = false := (hd4.frozen (x := w.heap.size) (o := 1) smx (by omega)).trans kfx
    have c4_0_2 : w4.cell? ⟨w.heap.size, 2, none⟩ = some (.int .i64 0) := (hd4.cell (x := w.heap.size) (o := 2) smx (by omega)).trans kpx
    have f4_0_2 : w4.frozen? ⟨w.heap.size, 2, none⟩ = false := (hd4.frozen (x := w.heap.size) (o := 2) smx (by omega)).trans kfx
    have HSM := Lib.hid hsm; have HSL := Lib.hid hsl; have HO := Lib.hid ho; clear hsm hsl ho
    go_wp2_with fail
    refine (l2Name_any cb _ (hd4.cur.ext bxt)).mono ?_
    rintro e w5 ⟨nm, hnm, rfl, hd5⟩
    have hz5 := hd5.size; (try simp at hz5)
    have s5_0 : w.heap.size < w5.heap.size := (by omega)
    have c5_0_0 : w5.cell? ⟨w.heap.size, 0, none⟩ = some (.slice none 0 0) := (hd5.cell (x := w.heap.size) (o := 0) smx (by omega)).trans kpx
    have f5_0_0 : w5.frozen? ⟨w.heap.size, 0, none⟩ = false := (hd5.frozen (x := w.heap.size) (o := 0) smx (by omega)).trans kfx
    have c5_0_1 : w5.cell? ⟨w.heap.size, 1, none⟩ = some (.slice none 0 0) := (hd5.cell (x := w.heap.size) (o := 1) smx (by omega)).trans kpx
    have f5_0_1 : w5.frozen? ⟨w.heap.size, 1, none⟩ = false := (hd5.frozen (x := w.heap.size) (o := 1) smx (by omega)).trans kfx
    have c5_0_2 : w5.cell? ⟨w.heap.size, 2, none⟩ = some (.int .i64 0) := (hd5.cell (x := w.heap.size) (o := 2) smx (by omega)).trans kpx
    have f5_0_2 : w5.frozen? ⟨w.heap.size, 2, none⟩ = false := (hd5.frozen (x := w.heap.size) (o := 2) smx (by omega)).trans kfx
    go_wp2_with fail
    refine (l5Bits_any cb _ (hd5.cur.ext bxt)).mono ?_
    rintro e w6 ⟨f, -, rfl, hd6⟩
    have hz6 := hd6.size; (try simp at hz6)
    have s6_0 : w.heap.size < w6.heap.size := (by omega)
    have c6_0_0 : w6.cell? ⟨w.heap.size, 0, none⟩ = some (.slice none 0 0) := (hd6.cell (x := w.heap.size) (o := 0) smx (by omega)).trans kpx
    have f6_0_0 : w6.frozen? ⟨w.heap.size, 0, none⟩ = false := (hd6.frozen (x := w.heap.size) (o := 0) smx (by omega)).trans kfx
    have c6_0_1 : w6.cell? ⟨w.heap.size, 1, none⟩ = some (.slice none 0 0) := (hd6.cell (x := w.heap.size) (o := 1) smx (by omega)).trans kpx
    have f6_0_1 : w6.frozen? ⟨w.heap.size, 1, none⟩ = false := (hd6.frozen (x := w.heap.size) (o := 1) smx (by omega)).trans kfx
    have c6_0_2 : w6.cell? ⟨w.heap.size, 2, none⟩ = some (.int .i64 0) := (hd6.cell (x := w.heap.size) (o := 2) smx (by omega)).trans kpx
    have f6_0_2 : w6.frozen? ⟨w.heap.size, 2, none⟩ = false := (hd6.frozen (x := w.heap.size) (o := 2) smx (by omega)).trans kfx
    have hdq : Dr cb w4 w6 := hd5.trans hd6
    have HOq := Lib.hid (HO.out.dr hdq (by omega))
    go_wp2_with fail
    refine bodyPost_ret (v := .tuple #[.agg #[.slice ba zs.length bc, .slice la l.length lc, .int .i64 gv], .string nm, .int .i64 f, .string (tx)]) (by simp [results, Tryz.results35, go_sem, *]) rfl ⟨ba, bc, zs, la, lc, l, gv, nm, f, tx, by omega, by omega, by omega, HSM.out, by omega, HSL.out, rfl, ?_, btx⟩
    refine OwnRt.le (B := w3.heap.size) ?_ (by omega)
    exact (by repeat' (first | with_reducible exact HOq.out | with_reducible refine OwnRt.set_below ?_ smx _))
  · skip
    go_wp2_with fail
    refine (l12Store_any cb _ (hd3.cur.ext bxt)).mono ?_
    rintro e w7 ⟨ba, bc, zs, la, lc, l, gv, hzl, hsm, hll, hsl, rfl, ho, hd7⟩
    have hz7 := hd7.size; (try simp at hz7)
    have s7_0 : w.heap.size < w7.heap.size := (by omega)
    have c7_0_0 : w7.cell? ⟨w.heap.size, 0, none⟩ = some (.slice none 0 0) := (hd7.cell (x := w.heap.size) (o := 0) smx (by omega)).trans kpx
    have f7_0_0 : w7.frozen? ⟨w.heap.size, 0, none⟩ = false := (hd7.frozen (x := w.heap.size) (o := 0) smx (by omega)).trans kfx
    have c7_0_1 : w7.cell? ⟨w.heap.size, 1, none⟩ = some (.slice none 0 0) := (hd7.cell (x := w.heap.size) (o := 1) smx (by omega)).trans kpx
    have f7_0_1 : w7.frozen? ⟨w.heap.size, 1, none⟩ = false := (hd7.frozen (x := w.heap.size) (o := 1) smx (by omega)).trans kfx
    have c7_0_2 : w7.cell? ⟨w.heap.size, 2, none⟩ = some (.int .i64 0) := (hd7.cell (x := w.heap.size) (o := 2) smx (by omega)).trans kpx
    have f7_0_2 : w7.frozen? ⟨w.heap.size, 2, none⟩ = false := (hd7.frozen (x := w.heap.size) (o := 2) smx (by omega)).trans kfx
    have HSM := Lib.hid hsm; have HSL := Lib.hid hsl; have HO := Lib.hid ho; clear hsm hsl ho
    go_wp2_with fail
    refine (l2Name_any cb _ (hd7.cur.ext bxt)).mono ?_
    rintro e w8 ⟨nm, hnm, rfl, hd8⟩
    have hz8 := hd8.size; (try simp at hz8)
    have s8_0 : w.heap.size < w8.heap.size := (by omega)
    have c8_0_0 : w8.cell? ⟨w.heap.size, 0, none⟩ = some (.slice none 0 0) := (hd8.cell (x := w.heap.size) (o := 0) smx (by omega)).trans kpx
    have f8_0_0 : w8.frozen? ⟨w.heap.size, 0, none⟩ = false := (hd8.frozen (x := w.heap.size) (o := 0) smx (by omega)).trans kfx
    have c8_0_1 : w8.cell? ⟨w.heap.size, 1, none⟩ = some (.slice none 0 0) := (hd8.cell (x := w.heap.size) (o := 1) smx (by omega)).trans kpx
    have f8_0_1 : w8.frozen? ⟨w.heap.size, 1, none⟩ = false := (hd8.frozen (x := w.heap.size) (o := 1) smx (by omega)).trans kfx
    have c8_0_2 : w8.cell? ⟨w.heap.size, 2, none⟩ = some (.int .i64 0) := (hd8.cell (x := w.heap.size) (o := 2) smx (by omega)).trans kpx
    have f8_0_2 : w8.frozen? ⟨w.heap.size, 2, none⟩ = false := (hd8.frozen (x := w.heap.size) (o := 2) smx (by omega)).trans kfx
    go_wp2_with fail
    refine (l5Bits_any cb _ (hd8.cur.ext bxt)).mono ?_
    rintro e w9 ⟨f, -, rfl, hd9⟩
    have hz9 := hd9.size; (try simp at hz9)
    have s9_0 : w.heap.size < w9.heap.size := (by omega)
    have c9_0_0 : w9.cell? ⟨w.heap.size, 0, none⟩ = some (.slice none 0 0) := (hd9.cell (x := w.heap.size) (o := 0) smx (by omega)).trans kpx
    have f9_0_0 : w9.frozen? ⟨w.heap.size, 0, none⟩ = false := (hd9.frozen (x := w.heap.size) (o := 0) smx (by omega)).trans kfx
    have c9_0_1 : w9.cell? ⟨w.heap.size, 1, none⟩ = some (.slice none 0 0) := (hd9.cell (x := w.heap.size) (o := 1) smx (by omega)).trans kpx
    have f9_0_1 : w9.frozen? ⟨w.heap.size, 1, none⟩ = false := (hd9.frozen (x := w.heap.size) (o := 1) smx (by omega)).trans kfx
    have c9_0_2 : w9.cell? ⟨w.heap.size, 2, none⟩ = some (.int .i64 0) := (hd9.cell (x := w.heap.size) (o := 2) smx (by omega)).trans kpx
    have f9_0_2 : w9.frozen? ⟨w.heap.size, 2, none⟩ = false := (hd9.frozen (x := w.heap.size) (o := 2) smx (by omega)).trans kfx
    have hdq : Dr cb w7 w9 := hd8.trans hd9
    have HOq := Lib.hid (HO.out.dr hdq (by omega))
    go_wp2_with fail
    refine bodyPost_ret (v := .tuple #[.agg #[.slice ba zs.length bc, .slice la l.length lc, .int .i64 gv], .string nm, .int .i64 f, .string (tx ++ (⟨#[49, 50, 51, 52, 53, 54, 55, 56, 57, 48, 49, 50, 51, 52, 53, 54, 55, 56, 57, 48, 49, 50, 51, 52, 53, 54, 55, 56, 57, 48, 49, 50, 51, 52, 53, 54, 55, 56, 57, 48, 49]⟩ : ByteArray))]) (by simp [results, Tryz.results35, go_sem, *]) rfl ⟨ba, bc, zs, la, lc, l, gv, nm, f, tx ++ (⟨#[49, 50, 51, 52, 53, 54, 55, 56, 57, 48, 49, 50, 51, 52, 53, 54, 55, 56, 57, 48, 49, 50, 51, 52, 53, 54, 55, 56, 57, 48, 49, 50, 51, 52, 53, 54, 55, 56, 57, 48, 49]⟩ : ByteArray), by omega, by rw [ByteArray.size_append]; show tx.size + 41 ≤ 82; omega, by omega, HSM.out, by omega, HSL.out, rfl, ?_, btx⟩
    refine OwnRt.le (B := w3.heap.size) ?_ (by omega)
    exact (by repeat' (first | with_reducible exact HOq.out | with_reducible refine OwnRt.set_below ?_ smx _))
set_option maxRecDepth 100000 in
set_option maxHeartbeats 4000000 in
theorem drawPurge_any (lb : List Int) (a : Option Addr) (c : Nat) (w : World) (R : Rd w a c 1 lb.length (lb.flatMap byteCells)) (hb : ∀ y ∈ lb, 0 ≤ y ∧ y ≤ 255) (hl : lb.length ≤ 1048576) :
    Calls Tryz.prog 39 #[.slice a lb.length c] w (DrPurge w) := by
  have HR := Lib.hid R
  have HB := Lib.hid hb
  clear R hb
  go_enter Tryz.func39, Tryz.ntmps39
  go_wp2_with fail
  refine (l1New_any lb a c _ (HR.out.ext bxt) HB.out hl).mono ?_
  rintro e w1 ⟨cb, hcb, rfl, hcu, hb1⟩
  (try simp at hcb)
  have hcl := hcu.lt
  have HCU := Lib.hid hcu
  clear hcu
  have hz1 := hb1.size; (try simp at hz1)
  have s1_0 : w.heap.size < w1.heap.size := (by omega)
  have c1_0_0 : w1.cell? ⟨w.heap.size, 0, none⟩ = some (.slice none 0 0) := (hb1.cell (p := ⟨w.heap.size, 0, none⟩) smx).trans kpx
  have f1_0_0 : w1.frozen? ⟨w.heap.size, 0, none⟩ = false := (hb1.frozen (p := ⟨w.heap.size, 0, none⟩) smx).trans kfx
  have c1_0_1 : w1.cell? ⟨w.heap.size, 1, none⟩ = some (.slice none 0 0) := (hb1.cell (p := ⟨w.heap.size, 1, none⟩) smx).trans kpx
  have f1_0_1 : w1.frozen? ⟨w.heap.size, 1, none⟩ = false := (hb1.frozen (p := ⟨w.heap.size, 1, none⟩) smx).trans kfx
  have c1_0_2 : w1.cell? ⟨w.heap.size, 2, none⟩ = some (.int .i64 0) := (hb1.cell (p := ⟨w.heap.size, 2, none⟩) smx).trans kpx
  have f1_0_2 : w1.frozen? ⟨w.heap.size, 2, none⟩ = false := (hb1.frozen (p := ⟨w.heap.size, 2, none⟩) smx).trans kfx
  go_wp2_with fail
  refine (l12Store_any cb _ (HCU.out.ext bxt)).mono ?_
  rintro e w2 ⟨ba, bc, zs, la, lc, l, gv, hzl, hsm, hll, hsl, rfl, ho, hd2⟩
  have hz2 := hd2.size; (try simp at hz2)
  have s2_0 : w.heap.size < w2.heap.size := (by omega)
  have c2_0_0 : w2.cell? ⟨w.heap.size, 0, none⟩ = some (.slice none 0 0) := (hd2.cell (x := w.heap.size) (o := 0) smx (by omega)).trans kpx
  have f2_0_0 : w2.frozen? ⟨w.heap.size, 0, none⟩ = false := (hd2.frozen (x := w.heap.size) (o := 0) smx (by omega)).trans kfx
  have c2_0_1 : w2.cell? ⟨w.heap.size, 1, none⟩ = some (.slice none 0 0) := (hd2.cell (x := w.heap.size) (o := 1) smx (by omega)).trans kpx
  have f2_0_1 : w2.frozen? ⟨w.heap.size, 1, none⟩ = false := (hd2.frozen (x := w.heap.size) (o := 1) smx (by omega)).trans kfx
  have c2_0_2 : w2.cell? ⟨w.heap.size, 2, none⟩ = some (.int .i64 0) := (hd2.cell (x := w.heap.size) (o := 2) smx (by omega)).trans kpx
  have f2_0_2 : w2.frozen? ⟨w.heap.size, 2, none⟩ = false := (hd2.frozen (x := w.heap.size) (o := 2) smx (by omega)).trans kfx
  have HSM := Lib.hid hsm; have HSL := Lib.hid hsl; have HO := Lib.hid ho; clear hsm hsl ho
  go_wp2_with fail
  refine (l1Below_any cb 3 _ (hd2.cur.ext bxt) (by omega)).mono ?_
  rintro e w3 ⟨x, ⟨x0, x1, -⟩, rfl, hd3⟩
  have x1 := x1 (by omega)
  have hz3 := hd3.size; (try simp at hz3)
  have s3_0 : w.heap.size < w3.heap.size := (by omega)
  have c3_0_0 : w3.cell? ⟨w.heap.size, 0, none⟩ = some (.slice none 0 0) := (hd3.cell (x := w.heap.size) (o := 0) smx (by omega)).trans kpx
  have f3_0_0 : w3.frozen? ⟨w.heap.size, 0, none⟩ = false := (hd3.frozen (x := w.heap.size) (o := 0) smx (by omega)).trans kfx
  have c3_0_1 : w3.cell? ⟨w.heap.size, 1, none⟩ = some (.slice none 0 0) := (hd3.cell (x := w.heap.size) (o := 1) smx (by omega)).trans kpx
  have f3_0_1 : w3.frozen? ⟨w.heap.size, 1, none⟩ = false := (hd3.frozen (x := w.heap.size) (o := 1) smx (by omega)).trans kfx
  have c3_0_2 : w3.cell? ⟨w.heap.size, 2, none⟩ = some (.int .i64 0) := (hd3.cell (x := w.heap.size) (o := 2) smx (by omega)).trans kpx
  have f3_0_2 : w3.frozen? ⟨w.heap.size, 2, none⟩ = false := (hd3.frozen (x := w.heap.size) (o := 2) smx (by omega)).trans kfx
  go_wp2_with fail
  refine (l1Below_any cb 2 _ (hd3.cur.ext bxt) (by omega)).mono ?_
  rintro e w4 ⟨y, ⟨y0, y1, -⟩, rfl, hd4⟩
  have y1 := y1 (by omega)
  have hz4 := hd4.size; (try simp at hz4)
  have s4_0 : w.heap.size < w4.heap.size := (by omega)
  have c4_0_0 : w4.cell? ⟨w.heap.size, 0, none⟩ = some (.slice none 0 0) := (hd4.cell (x := w.heap.size) (o := 0) smx (by omega)).trans kpx
  have f4_0_0 : w4.frozen? ⟨w.heap.size, 0, none⟩ = false := (hd4.frozen (x := w.heap.size) (o := 0) smx (by omega)).trans kfx
  have c4_0_1 : w4.cell? ⟨w.heap.size, 1, none⟩ = some (.slice none 0 0) := (hd4.cell (x := w.heap.size) (o := 1) smx (by omega)).trans kpx
  have f4_0_1 : w4.frozen? ⟨w.heap.size, 1, none⟩ = false := (hd4.frozen (x := w.heap.size) (o := 1) smx (by omega)).trans kfx
  have c4_0_2 : w4.cell? ⟨w.heap.size, 2, none⟩ = some (.int .i64 0) := (hd4.cell (x := w.heap.size) (o := 2) smx (by omega)).trans kpx
  have f4_0_2 : w4.frozen? ⟨w.heap.size, 2, none⟩ = false := (hd4.frozen (x := w.heap.size) (o := 2) smx (by omega)).trans kfx
  obtain ⟨z, hz0, hz1, hze⟩ : ∃ z : Int, 0 ≤ z ∧ z ≤ 2 ∧ x * y = z := by rcases (show y = 0 ∨ y = 1 by omega) with rfl | rfl <;> exact ⟨_, by omega, by omega, rfl⟩
  go_wp2_with fail
  refine (l12Uids_any cb _ (hd4.cur.ext bxt)).mono ?_
  rintro e w5 ⟨ua, uc, us, hul, rfl, hus, hd5⟩
  have hz5 := hd5.size; (try simp at hz5)
  have s5_0 : w.heap.size < w5.heap.size := (by omega)
  have c5_0_0 : w5.cell? ⟨w.heap.size, 0, none⟩ = some (.slice none 0 0) := (hd5.cell (x := w.heap.size) (o := 0) smx (by omega)).trans kpx
  have f5_0_0 : w5.frozen? ⟨w.heap.size, 0, none⟩ = false := (hd5.frozen (x := w.heap.size) (o := 0) smx (by omega)).trans kfx
  have c5_0_1 : w5.cell? ⟨w.heap.size, 1, none⟩ = some (.slice none 0 0) := (hd5.cell (x := w.heap.size) (o := 1) smx (by omega)).trans kpx
  have f5_0_1 : w5.frozen? ⟨w.heap.size, 1, none⟩ = false := (hd5.frozen (x := w.heap.size) (o := 1) smx (by omega)).trans kfx
  have c5_0_2 : w5.cell? ⟨w.heap.size, 2, none⟩ = some (.int .i64 0) := (hd5.cell (x := w.heap.size) (o := 2) smx (by omega)).trans kpx
  have f5_0_2 : w5.frozen? ⟨w.heap.size, 2, none⟩ = false := (hd5.frozen (x := w.heap.size) (o := 2) smx (by omega)).trans kfx
  have HU := Lib.hid hus; clear hus
  have hdq : Dr cb w2 w5 := (hd3.trans hd4).trans hd5
  have HOq := Lib.hid (HO.out.dr hdq (by omega)); have HUq := HU
  go_wp2_with fail
  refine bodyPost_ret (v := .tuple #[.agg #[.slice ba zs.length bc, .slice la l.length lc, .int .i64 gv], .int .i64 (1 + z), .slice (some ⟨ua, 0, none⟩) us.length uc]) (by simp [results, Tryz.results39, go_sem, *]) rfl ⟨ba, bc, zs, la, lc, l, gv, 1 + z, ua, uc, us, hul, by omega, HSM.out, by omega, HSL.out, rfl, ?_, ?_, btx⟩
  · refine OwnRt.le (B := w1.heap.size) ?_ (by omega)
    exact (by repeat' (first | with_reducible exact HOq.out | with_reducible refine OwnRt.set_below ?_ smx _))
  · refine Own.le (B := w4.heap.size) ?_ (by omega)
    exact (by repeat' (first | with_reducible exact HUq.out | with_reducible refine Own.set_below ?_ smx _))
set_option maxRecDepth 100000 in
set_option maxHeartbeats 4000000 in
theorem drawCopyMsgs_any (lb : List Int) (a : Option Addr) (c : Nat) (w : World) (R : Rd w a c 1 lb.length (lb.flatMap byteCells)) (hb : ∀ y ∈ lb, 0 ≤ y ∧ y ≤ 255) (hl : lb.length ≤ 1048576) :
    Calls Tryz.prog 45 #[.slice a lb.length c] w (DrCopy w) := by
  have HR := Lib.hid R
  have HB := Lib.hid hb
  clear R hb
  go_enter Tryz.func45, Tryz.ntmps45
  go_wp2_with fail
  refine (l1New_any lb a c _ (HR.out.ext bxt) HB.out hl).mono ?_
  rintro e w1 ⟨cb, hcb, rfl, hcu, hb1⟩
  (try simp at hcb)
  have hcl := hcu.lt
  have HCU := Lib.hid hcu
  clear hcu
  have hz1 := hb1.size; (try simp at hz1)
  have s1_0 : w.heap.size < w1.heap.size := (by omega)
  have c1_0_0 : w1.cell? ⟨w.heap.size, 0, none⟩ = some (.slice none 0 0) := (hb1.cell (p := ⟨w.heap.size, 0, none⟩) smx).trans kpx
  have f1_0_0 : w1.frozen? ⟨w.heap.size, 0, none⟩ = false := (hb1.frozen (p := ⟨w.heap.size, 0, none⟩) smx).trans kfx
  have c1_0_1 : w1.cell? ⟨w.heap.size, 1, none⟩ = some (.slice none 0 0) := (hb1.cell (p := ⟨w.heap.size, 1, none⟩) smx).trans kpx
  have f1_0_1 : w1.frozen? ⟨w.heap.size, 1, none⟩ = false := (hb1.frozen (p := ⟨w.heap.size, 1, none⟩) smx).trans kfx
  have c1_0_2 : w1.cell? ⟨w.heap.size, 2, none⟩ = some (.int .i64 0) := (hb1.cell (p := ⟨w.heap.size, 2, none⟩) smx).trans kpx
  have f1_0_2 : w1.frozen? ⟨w.heap.size, 2, none⟩ = false := (hb1.frozen (p := ⟨w.heap.size, 2, none⟩) smx).trans kfx
  go_wp2_with fail
  refine (l12Store_any cb _ (HCU.out.ext bxt)).mono ?_
  rintro e w2 ⟨ba, bc, zs, la, lc, l, gv, hzl, hsm, hll, hsl, rfl, ho, hd2⟩
  have hz2 := hd2.size; (try simp at hz2)
  have s2_0 : w.heap.size < w2.heap.size := (by omega)
  have c2_0_0 : w2.cell? ⟨w.heap.size, 0, none⟩ = some (.slice none 0 0) := (hd2.cell (x := w.heap.size) (o := 0) smx (by omega)).trans kpx
  have f2_0_0 : w2.frozen? ⟨w.heap.size, 0, none⟩ = false := (hd2.frozen (x := w.heap.size) (o := 0) smx (by omega)).trans kfx
  have c2_0_1 : w2.cell? ⟨w.heap.size, 1, none⟩ = some (.slice none 0 0) := (hd2.cell (x := w.heap.size) (o := 1) smx (by omega)).trans kpx
  have f2_0_1 : w2.frozen? ⟨w.heap.size, 1, none⟩ = false := (hd2.frozen (x := w.heap.size) (o := 1) smx (by omega)).trans kfx
  have c2_0_2 : w2.cell? ⟨w.heap.size, 2, none⟩ = some (.int .i64 0) := (hd2.cell (x := w.heap.size) (o := 2) smx (by omega)).trans kpx
  have f2_0_2 : w2.frozen? ⟨w.heap.size, 2, none⟩ = false := (hd2.frozen (x := w.heap.size) (o := 2) smx (by omega)).trans kfx
  have HSM := Lib.hid hsm; have HSL := Lib.hid hsl; have HO := Lib.hid ho; clear hsm hsl ho
  go_wp2_with fail
  refine (l1Below_any cb 3 _ (hd2.cur.ext bxt) (by omega)).mono ?_
  rintro e w3 ⟨x, ⟨x0, x1, -⟩, rfl, hd3⟩
  have x1 := x1 (by omega)
  have hz3 := hd3.size; (try simp at hz3)
  have s3_0 : w.heap.size < w3.heap.size := (by omega)
  have c3_0_0 : w3.cell? ⟨w.heap.size, 0, none⟩ = some (.slice none 0 0) := (hd3.cell (x := w.heap.size) (o := 0) smx (by omega)).trans kpx
  have f3_0_0 : w3.frozen? ⟨w.heap.size, 0, none⟩ = false := (hd3.frozen (x := w.heap.size) (o := 0) smx (by omega)).trans kfx
  have c3_0_1 : w3.cell? ⟨w.heap.size, 1, none⟩ = some (.slice none 0 0) := (hd3.cell (x := w.heap.size) (o := 1) smx (by omega)).trans kpx
  have f3_0_1 : w3.frozen? ⟨w.heap.size, 1, none⟩ = false := (hd3.frozen (x := w.heap.size) (o := 1) smx (by omega)).trans kfx
  have c3_0_2 : w3.cell? ⟨w.heap.size, 2, none⟩ = some (.int .i64 0) := (hd3.cell (x := w.heap.size) (o := 2) smx (by omega)).trans kpx
  have f3_0_2 : w3.frozen? ⟨w.heap.size, 2, none⟩ = false := (hd3.frozen (x := w.heap.size) (o := 2) smx (by omega)).trans kfx
  go_wp2_with fail
  refine (l1Below_any cb 2 _ (hd3.cur.ext bxt) (by omega)).mono ?_
  rintro e w4 ⟨y, ⟨y0, y1, -⟩, rfl, hd4⟩
  have y1 := y1 (by omega)
  have hz4 := hd4.size; (try simp at hz4)
  have s4_0 : w.heap.size < w4.heap.size := (by omega)
  have c4_0_0 : w4.cell? ⟨w.heap.size, 0, none⟩ = some (.slice none 0 0) := (hd4.cell (x := w.heap.size) (o := 0) smx (by omega)).trans kpx
  have f4_0_0 : w4.frozen? ⟨w.heap.size, 0, none⟩ = false := (hd4.frozen (x := w.heap.size) (o := 0) smx (by omega)).trans kfx
  have c4_0_1 : w4.cell? ⟨w.heap.size, 1, none⟩ = some (.slice none 0 0) := (hd4.cell (x := w.heap.size) (o := 1) smx (by omega)).trans kpx
  have f4_0_1 : w4.frozen? ⟨w.heap.size, 1, none⟩ = false := (hd4.frozen (x := w.heap.size) (o := 1) smx (by omega)).trans kfx
  have c4_0_2 : w4.cell? ⟨w.heap.size, 2, none⟩ = some (.int .i64 0) := (hd4.cell (x := w.heap.size) (o := 2) smx (by omega)).trans kpx
  have f4_0_2 : w4.frozen? ⟨w.heap.size, 2, none⟩ = false := (hd4.frozen (x := w.heap.size) (o := 2) smx (by omega)).trans kfx
  obtain ⟨z, hz0, hz1, hze⟩ : ∃ z : Int, 0 ≤ z ∧ z ≤ 2 ∧ x * y = z := by rcases (show y = 0 ∨ y = 1 by omega) with rfl | rfl <;> exact ⟨_, by omega, by omega, rfl⟩
  go_wp2_with fail
  refine (l12Uids_any cb _ (hd4.cur.ext bxt)).mono ?_
  rintro e w5 ⟨ua, uc, us, hul, rfl, hus, hd5⟩
  have hz5 := hd5.size; (try simp at hz5)
  have s5_0 : w.heap.size < w5.heap.size := (by omega)
  have c5_0_0 : w5.cell? ⟨w.heap.size, 0, none⟩ = some (.slice none 0 0) := (hd5.cell (x := w.heap.size) (o := 0) smx (by omega)).trans kpx
  have f5_0_0 : w5.frozen? ⟨w.heap.size, 0, none⟩ = false := (hd5.frozen (x := w.heap.size) (o := 0) smx (by omega)).trans kfx
  have c5_0_1 : w5.cell? ⟨w.heap.size, 1, none⟩ = some (.slice none 0 0) := (hd5.cell (x := w.heap.size) (o := 1) smx (by omega)).trans kpx
  have f5_0_1 : w5.frozen? ⟨w.heap.size, 1, none⟩ = false := (hd5.frozen (x := w.heap.size) (o := 1) smx (by omega)).trans kfx
  have c5_0_2 : w5.cell? ⟨w.heap.size, 2, none⟩ = some (.int .i64 0) := (hd5.cell (x := w.heap.size) (o := 2) smx (by omega)).trans kpx
  have f5_0_2 : w5.frozen? ⟨w.heap.size, 2, none⟩ = false := (hd5.frozen (x := w.heap.size) (o := 2) smx (by omega)).trans kfx
  have HU := Lib.hid hus; clear hus
  go_wp2_with fail
  refine (l2Name_any cb _ (hd5.cur.ext bxt)).mono ?_
  rintro e w6 ⟨nm, hnm, rfl, hd6⟩
  have hz6 := hd6.size; (try simp at hz6)
  have s6_0 : w.heap.size < w6.heap.size := (by omega)
  have c6_0_0 : w6.cell? ⟨w.heap.size, 0, none⟩ = some (.slice none 0 0) := (hd6.cell (x := w.heap.size) (o := 0) smx (by omega)).trans kpx
  have f6_0_0 : w6.frozen? ⟨w.heap.size, 0, none⟩ = false := (hd6.frozen (x := w.heap.size) (o := 0) smx (by omega)).trans kfx
  have c6_0_1 : w6.cell? ⟨w.heap.size, 1, none⟩ = some (.slice none 0 0) := (hd6.cell (x := w.heap.size) (o := 1) smx (by omega)).trans kpx
  have f6_0_1 : w6.frozen? ⟨w.heap.size, 1, none⟩ = false := (hd6.frozen (x := w.heap.size) (o := 1) smx (by omega)).trans kfx
  have c6_0_2 : w6.cell? ⟨w.heap.size, 2, none⟩ = some (.int .i64 0) := (hd6.cell (x := w.heap.size) (o := 2) smx (by omega)).trans kpx
  have f6_0_2 : w6.frozen? ⟨w.heap.size, 2, none⟩ = false := (hd6.frozen (x := w.heap.size) (o := 2) smx (by omega)).trans kfx
  have hdq : Dr cb w2 w6 := ((hd3.trans hd4).trans hd5).trans hd6
  have HOq := Lib.hid (HO.out.dr hdq (by omega)); have HUq := Lib.hid (HU.out.dr hd6 (by omega))
  go_wp2_with fail
  refine bodyPost_ret (v := .tuple #[.agg #[.slice ba zs.length bc, .slice la l.length lc, .int .i64 gv], .int .i64 (1 + z), .slice (some ⟨ua, 0, none⟩) us.length uc, .string nm]) (by simp [results, Tryz.results45, go_sem, *]) rfl ⟨ba, bc, zs, la, lc, l, gv, 1 + z, ua, uc, us, nm, hul, by omega, by omega, HSM.out, by omega, HSL.out, rfl, ?_, ?_, btx⟩
  · refine OwnRt.le (B := w1.heap.size) ?_ (by omega)
    exact (by repeat' (first | with_reducible exact HOq.out | with_reducible refine OwnRt.set_below ?_ smx _))
  · refine Own.le (B := w4.heap.size) ?_ (by omega)
    exact (by repeat' (first | with_reducible exact HUq.out | with_reducible refine Own.set_below ?_ smx _))
end Go.Proofs.YtjcnhkmhcfmoeaaGreat
