/-
  The law FnOps: its walk.
-/
import Derived.Test.YtjcnhkmhcfmoeaaGreatDraw14
import Derived.Test.YtjcnhkmhcfmoeaaGreatXName
import Derived.Test.YtjcnhkmhcfmoeaaGreatXMake
import Derived.Test.YtjcnhkmhcfmoeaaGreatXDrop
import Derived.Test.YtjcnhkmhcfmoeaaGreatWBoxIdx
import Derived.Test.YtjcnhkmhcfmoeaaGreatXSq
import Derived.Test.YtjcnhkmhcfmoeaaGreatXDr
import Derived.Deep.RegionHeld3
import Derived.BigQuiet
namespace Go.Proofs.YtjcnhkmhcfmoeaaGreat
open Go.RowKit
set_option linter.unusedVariables false
set_option linter.unusedSimpArgs false

theorem implNameBox_sq (zs : List PBox) (ba : Option Addr) (bc : Nat) (lg : List DCommit) (la : Option Addr) (lc : Nat) (gv : Int) (n t : ByteArray) (w : World) (h : Sq w ba bc zs la lc lg) (hn : n.size ≤ 100) (ht : t.size ≤ 100) (hm : MaxLen w) (rs : DStore) (rok : Int) (H : Hid (nameD ⟨zs.map PBox.box, lg, gv⟩ n t = (rs, rok))) : Calls Tryz.prog 50 #[.agg #[.slice ba zs.length bc, .slice la lg.length lc, .int .i64 gv], .string n, .string t] w (fun e w' => ∃ g q z2 g2 q2, e = .returned (.tuple #[.agg #[.slice g z2.length q, .slice g2 rs.log.length q2, .int .i64 rs.given], .int .i64 rok]) ∧ OwnSt w' w.heap.size 49 66 41 g q z2 g2 q2 rs.log ∧ z2.map PBox.box = rs.boxes ∧ Ext w w') :=
  implNameBox_law zs ba bc lg la lc gv n t w h.rd h.rdm h.rl (by have := h.len; omega) (fun y hy => by have := (h.sm y hy).2.1; omega) (by have := h.ll; omega) (fun y hy => by have := (h.sm y hy).1; omega) (fun y hy t ht => by have := (h.sm y hy).2.2 t ht; omega) (fun y hy => by have := h.sl y hy; exact ⟨by omega, by omega⟩) (by omega) (by omega) hm rs rok H
theorem specNameBox_sq (zs : List PBox) (ba : Option Addr) (bc : Nat) (lg : List DCommit) (la : Option Addr) (lc : Nat) (gv : Int) (n t : ByteArray) (w : World) (h : Sq w ba bc zs la lc lg) (hn : n.size ≤ 100) (ht : t.size ≤ 100) (rs : DStore) (rok : Int) (H : Hid (nameD ⟨zs.map PBox.box, lg, gv⟩ n t = (rs, rok))) : Calls Tryz.prog 53 #[.agg #[.slice ba zs.length bc, .slice la lg.length lc, .int .i64 gv], .string n, .string t] w (fun e w' => ∃ g q z2 g2 q2, e = .returned (.tuple #[.agg #[.slice g z2.length q, .slice g2 rs.log.length q2, .int .i64 rs.given], .int .i64 rok]) ∧ OwnSt w' w.heap.size 49 66 41 g q z2 g2 q2 rs.log ∧ z2.map PBox.box = rs.boxes ∧ Ext w w') :=
  specNameBox_law zs ba bc lg la lc gv n t w h.rd h.rdm h.rl (by have := h.len; omega) (fun y hy => by have := (h.sm y hy).2.1; omega) (by have := h.ll; omega) (fun y hy => by have := (h.sm y hy).1; omega) (fun y hy t ht => by have := (h.sm y hy).2.2 t ht; omega) (fun y hy => by have := h.sl y hy; exact ⟨by omega, by omega⟩) (by omega) (by omega) rs rok H
theorem implMakeBox_sq (zs : List PBox) (ba : Option Addr) (bc : Nat) (lg : List DCommit) (la : Option Addr) (lc : Nat) (gv : Int) (n : ByteArray) (w : World) (h : Sq w ba bc zs la lc lg) (hn : n.size ≤ 100) (hm : MaxLen w) (rs : DStore) (rok : Int) (H : Hid (makeD ⟨zs.map PBox.box, lg, gv⟩ n = (rs, rok))) : Calls Tryz.prog 51 #[.agg #[.slice ba zs.length bc, .slice la lg.length lc, .int .i64 gv], .string n] w (fun e w' => ∃ g q z2 g2 q2, e = .returned (.tuple #[.agg #[.slice g z2.length q, .slice g2 rs.log.length q2, .int .i64 rs.given], .int .i64 rok]) ∧ OwnSt w' w.heap.size 49 66 41 g q z2 g2 q2 rs.log ∧ z2.map PBox.box = rs.boxes ∧ Ext w w') :=
  implMakeBox_law zs ba bc lg la lc gv n w h.rd h.rdm h.rl (by have := h.len; omega) (fun y hy => by have := (h.sm y hy).2.1; omega) (by have := h.ll; omega) (fun y hy => by have := (h.sm y hy).1; omega) (fun y hy t ht => by have := (h.sm y hy).2.2 t ht; omega) (fun y hy => by have := h.sl y hy; exact ⟨by omega, by omega⟩) (by omega) hm rs rok H
theorem specMakeBox_sq (zs : List PBox) (ba : Option Addr) (bc : Nat) (lg : List DCommit) (la : Option Addr) (lc : Nat) (gv : Int) (n : ByteArray) (w : World) (h : Sq w ba bc zs la lc lg) (hn : n.size ≤ 100) (rs : DStore) (rok : Int) (H : Hid (makeD ⟨zs.map PBox.box, lg, gv⟩ n = (rs, rok))) : Calls Tryz.prog 54 #[.agg #[.slice ba zs.length bc, .slice la lg.length lc, .int .i64 gv], .string n] w (fun e w' => ∃ g q z2 g2 q2, e = .returned (.tuple #[.agg #[.slice g z2.length q, .slice g2 rs.log.length q2, .int .i64 rs.given], .int .i64 rok]) ∧ OwnSt w' w.heap.size 49 66 41 g q z2 g2 q2 rs.log ∧ z2.map PBox.box = rs.boxes ∧ Ext w w') :=
  specMakeBox_law zs ba bc lg la lc gv n w h.rd h.rdm h.rl (by have := h.len; omega) (fun y hy => by have := (h.sm y hy).2.1; omega) (by have := h.ll; omega) (fun y hy => by have := (h.sm y hy).1; omega) (fun y hy t ht => by have := (h.sm y hy).2.2 t ht; omega) (fun y hy => by have := h.sl y hy; exact ⟨by omega, by omega⟩) (by omega) rs rok H
theorem implDropBox_sq (zs : List PBox) (ba : Option Addr) (bc : Nat) (lg : List DCommit) (la : Option Addr) (lc : Nat) (gv : Int) (n : ByteArray) (w : World) (h : Sq w ba bc zs la lc lg) (hn : n.size ≤ 100) (hm : MaxLen w) (rs : DStore) (rok : Int) (H : Hid (dropD ⟨zs.map PBox.box, lg, gv⟩ n = (rs, rok))) : Calls Tryz.prog 52 #[.agg #[.slice ba zs.length bc, .slice la lg.length lc, .int .i64 gv], .string n] w (fun e w' => ∃ g q z2 g2 q2, e = .returned (.tuple #[.agg #[.slice g z2.length q, .slice g2 rs.log.length q2, .int .i64 rs.given], .int .i64 rok]) ∧ OwnSt w' w.heap.size 49 66 41 g q z2 g2 q2 rs.log ∧ z2.map PBox.box = rs.boxes ∧ Ext w w') :=
  implDropBox_law zs ba bc lg la lc gv n w h.rd h.rdm h.rl (by have := h.len; omega) (fun y hy => by have := (h.sm y hy).2.1; omega) (by have := h.ll; omega) (fun y hy => by have := (h.sm y hy).1; omega) (fun y hy t ht => by have := (h.sm y hy).2.2 t ht; omega) (fun y hy => by have := h.sl y hy; exact ⟨by omega, by omega⟩) (by omega) hm rs rok H
theorem specDropBox_sq (zs : List PBox) (ba : Option Addr) (bc : Nat) (lg : List DCommit) (la : Option Addr) (lc : Nat) (gv : Int) (n : ByteArray) (w : World) (h : Sq w ba bc zs la lc lg) (hn : n.size ≤ 100) (rs : DStore) (rok : Int) (H : Hid (dropD ⟨zs.map PBox.box, lg, gv⟩ n = (rs, rok))) : Calls Tryz.prog 55 #[.agg #[.slice ba zs.length bc, .slice la lg.length lc, .int .i64 gv], .string n] w (fun e w' => ∃ g q z2 g2 q2, e = .returned (.tuple #[.agg #[.slice g z2.length q, .slice g2 rs.log.length q2, .int .i64 rs.given], .int .i64 rok]) ∧ OwnSt w' w.heap.size 49 66 41 g q z2 g2 q2 rs.log ∧ z2.map PBox.box = rs.boxes ∧ Ext w w') :=
  specDropBox_law zs ba bc lg la lc gv n w h.rd h.rdm h.rl (by have := h.len; omega) (fun y hy => by have := (h.sm y hy).2.1; omega) (by have := h.ll; omega) (fun y hy => by have := (h.sm y hy).1; omega) (fun y hy t ht => by have := (h.sm y hy).2.2 t ht; omega) (fun y hy => by have := h.sl y hy; exact ⟨by omega, by omega⟩) (by omega) rs rok H
set_option maxRecDepth 100000 in
set_option maxHeartbeats 16000000 in
theorem fnOps_walk (l : List Int) (a : Option Addr) (c : Nat) (w : World) : MaxLen w → Rd w a c 1 l.length (l.flatMap byteCells) → (∀ y ∈ l, 0 ≤ y ∧ y ≤ 255) →
    Calls Tryz.prog 10 #[.slice a l.length c] w fun e w' => e = .returned (.bool true) ∧ Below w.heap.size w w' := by
  intro hmx R hb
  have hln : l.length ≤ 9223372036854775807 := Nat.le_trans R.nc R.cm
  have HMX := Lib.hid hmx
  have HR := Lib.hid R
  have HB := Lib.hid hb
  clear R hb hmx
  obtain ⟨d, hd⟩ := boolOf (1048576 < l.length)
  have HDB := Lib.hid hd
  clear hd
  go_enter Tryz.func10, Tryz.ntmps10
  go_wp2_with fail
  refine (big_any l.length a c _ hln d HDB).mono ?_
  rintro e w1 ⟨rfl, rfl⟩
  cases d
  rotate_left
  · go_wp2_with fail
    go_ret
    exact ⟨rfl, bxt⟩
  have hl : l.length ≤ 1048576 := by have := no_of HDB.out; omega
  go_wp2_with fail
  refine (drawNameBox_any l a c _ (HR.out.ext bxt) HB.out hl).mono ?_
  rintro e w1 ⟨ba, bc, zs, la, lc, lg, gv, x, y, hx, hy, hzl, hsm, hll, hsl, rfl, ho, hb1⟩
  have HS := Lib.hid (ho.sq hzl hsm hll hsl)
  clear ho hsm hsl
  have hzz1 := hb1.size; (try simp at hzz1)
  obtain ⟨hc1, hf1⟩ := bcell hb1
  obtain ⟨r0, c0, hrel0⟩ : ∃ rs rok, nameD ⟨zs.map PBox.box, lg, gv⟩ x y = (rs, rok) := ⟨_, _, rfl⟩
  have hor0 : r0 = ⟨zs.map PBox.box, lg, gv⟩ ∨ StoreP r0 := by (by_cases h0 : c0 = 0; (subst h0; exact Or.inr (name_zero hrel0).1); exact Or.inl (name_ref hrel0 h0))
  have HOR0 := Lib.hid hor0
  have HREL0 := Lib.hid hrel0
  clear hrel0 hor0
  obtain ⟨r1, c1, hrel1⟩ : ∃ rs rok, makeD ⟨zs.map PBox.box, lg, gv⟩ y = (rs, rok) := ⟨_, _, rfl⟩
  have hor1 : r1 = ⟨zs.map PBox.box, lg, gv⟩ ∨ StoreP r1 := by (by_cases h0 : c1 = 0; (subst h0; exact Or.inr (make_zero hrel1).1); exact Or.inl (make_ref hrel1 h0))
  have HOR1 := Lib.hid hor1
  have HREL1 := Lib.hid hrel1
  clear hrel1 hor1
  obtain ⟨r2, c2, hrel2⟩ : ∃ rs rok, dropD ⟨zs.map PBox.box, lg, gv⟩ x = (rs, rok) := ⟨_, _, rfl⟩
  have hor2 : r2 = ⟨zs.map PBox.box, lg, gv⟩ ∨ StoreP r2 := by (by_cases h0 : c2 = 0; (subst h0; exact Or.inr (drop_zero hrel2).1); exact Or.inl (drop_ref hrel2 h0))
  have HOR2 := Lib.hid hor2
  have HREL2 := Lib.hid hrel2
  clear hrel2 hor2
  go_wp2_with fail
  refine (implNameBox_sq zs ba bc lg la lc gv x y _ (HS.out.ext bxt) (by omega) (by omega) (HMX.out.ext bxt) r0 c0 HREL0).mono ?_
  rintro e w2 ⟨g2, q2, z2, a2, d2, rfl, ho2, hz2, hb2⟩
  have HS2 := Lib.hid (ho2.sq hz2 HS.out HOR0.out)
  have HZ2 := Lib.hid hz2
  clear ho2 hz2
  have hzz2 := hb2.size; (try simp at hzz2)
  obtain ⟨hc2, hf2⟩ := bcell hb2
  have hs2_0 : w1.heap.size < w2.heap.size := by (have hss := hb2.size; first | omega | (simp at hss <;> omega))
  go_wp2_with fail
  refine (implMakeBox_sq zs ba bc lg la lc gv y _ (HS.out.ext bxt) (by omega) (HMX.out.ext bxt) r1 c1 HREL1).mono ?_
  rintro e w3 ⟨g3, q3, z3, a3, d3, rfl, ho3, hz3, hb3⟩
  have HS3 := Lib.hid (ho3.sq hz3 HS.out HOR1.out)
  have HZ3 := Lib.hid hz3
  clear ho3 hz3
  have hzz3 := hb3.size; (try simp at hzz3)
  obtain ⟨hc3, hf3⟩ := bcell hb3
  have hs3_0 : w1.heap.size < w3.heap.size := by (have hss := hb3.size; first | omega | (simp at hss <;> omega))
  have hs3_1 : w2.heap.size < w3.heap.size := by (have hss := hb3.size; first | omega | (simp at hss <;> omega))
  go_wp2_with fail
  refine (implDropBox_sq zs ba bc lg la lc gv x _ (HS.out.ext bxt) (by omega) (HMX.out.ext bxt) r2 c2 HREL2).mono ?_
  rintro e w4 ⟨g4, q4, z4, a4, d4, rfl, ho4, hz4, hb4⟩
  have HS4 := Lib.hid (ho4.sq hz4 HS.out HOR2.out)
  have HZ4 := Lib.hid hz4
  clear ho4 hz4
  have hzz4 := hb4.size; (try simp at hzz4)
  obtain ⟨hc4, hf4⟩ := bcell hb4
  have hs4_0 : w1.heap.size < w4.heap.size := by (have hss := hb4.size; first | omega | (simp at hss <;> omega))
  have hs4_1 : w2.heap.size < w4.heap.size := by (have hss := hb4.size; first | omega | (simp at hss <;> omega))
  have hs4_2 : w3.heap.size < w4.heap.size := by (have hss := hb4.size; first | omega | (simp at hss <;> omega))
  go_wp2_with fail
  refine (specNameBox_sq zs ba bc lg la lc gv x y _ (HS.out.ext bxt) (by omega) (by omega) r0 c0 HREL0).mono ?_
  rintro e w5 ⟨g5, q5, z5, a5, d5, rfl, ho5, hz5, hb5⟩
  have HS5 := Lib.hid (ho5.sq hz5 HS.out HOR0.out)
  have HZ5 := Lib.hid hz5
  clear ho5 hz5
  have hzz5 := hb5.size; (try simp at hzz5)
  obtain ⟨hc5, hf5⟩ := bcell hb5
  have hs5_0 : w1.heap.size < w5.heap.size := by (have hss := hb5.size; first | omega | (simp at hss <;> omega))
  have hs5_1 : w2.heap.size < w5.heap.size := by (have hss := hb5.size; first | omega | (simp at hss <;> omega))
  have hs5_2 : w3.heap.size < w5.heap.size := by (have hss := hb5.size; first | omega | (simp at hss <;> omega))
  have hs5_3 : w4.heap.size < w5.heap.size := by (have hss := hb5.size; first | omega | (simp at hss <;> omega))
  go_wp2_with fail
  refine (specMakeBox_sq zs ba bc lg la lc gv y _ (HS.out.ext bxt) (by omega) r1 c1 HREL1).mono ?_
  rintro e w6 ⟨g6, q6, z6, a6, d6, rfl, ho6, hz6, hb6⟩
  have HS6 := Lib.hid (ho6.sq hz6 HS.out HOR1.out)
  have HZ6 := Lib.hid hz6
  clear ho6 hz6
  have hzz6 := hb6.size; (try simp at hzz6)
  obtain ⟨hc6, hf6⟩ := bcell hb6
  have hs6_0 : w1.heap.size < w6.heap.size := by (have hss := hb6.size; first | omega | (simp at hss <;> omega))
  have hs6_1 : w2.heap.size < w6.heap.size := by (have hss := hb6.size; first | omega | (simp at hss <;> omega))
  have hs6_2 : w3.heap.size < w6.heap.size := by (have hss := hb6.size; first | omega | (simp at hss <;> omega))
  have hs6_3 : w4.heap.size < w6.heap.size := by (have hss := hb6.size; first | omega | (simp at hss <;> omega))
  have hs6_4 : w5.heap.size < w6.heap.size := by (have hss := hb6.size; first | omega | (simp at hss <;> omega))
  go_wp2_with fail
  refine (specDropBox_sq zs ba bc lg la lc gv x _ (HS.out.ext bxt) (by omega) r2 c2 HREL2).mono ?_
  rintro e w7 ⟨g7, q7, z7, a7, d7, rfl, ho7, hz7, hb7⟩
  have HS7 := Lib.hid (ho7.sq hz7 HS.out HOR2.out)
  have HZ7 := Lib.hid hz7
  clear ho7 hz7
  have hzz7 := hb7.size; (try simp at hzz7)
  obtain ⟨hc7, hf7⟩ := bcell hb7
  have hs7_0 : w1.heap.size < w7.heap.size := by (have hss := hb7.size; first | omega | (simp at hss <;> omega))
  have hs7_1 : w2.heap.size < w7.heap.size := by (have hss := hb7.size; first | omega | (simp at hss <;> omega))
  have hs7_2 : w3.heap.size < w7.heap.size := by (have hss := hb7.size; first | omega | (simp at hss <;> omega))
  have hs7_3 : w4.heap.size < w7.heap.size := by (have hss := hb7.size; first | omega | (simp at hss <;> omega))
  have hs7_4 : w5.heap.size < w7.heap.size := by (have hss := hb7.size; first | omega | (simp at hss <;> omega))
  have hs7_5 : w6.heap.size < w7.heap.size := by (have hss := hb7.size; first | omega | (simp at hss <;> omega))
  have hd0 : (c0 != c0) = false := by simp
  have hd1 : (c1 != c1) = false := by simp
  have hd2 : (c2 != c2) = false := by simp
  by_cases h0 : c0 = 0
  · subst h0
    by_cases h1 : c1 = 0
    · subst h1
      by_cases h2 : c2 = 0
      · subst h2
        obtain ⟨ok0, p0, p1⟩ := name_zero HREL0.out
        have OK0 := Lib.hid ok0
        clear ok0
        obtain ⟨ok1, p2⟩ := make_zero HREL1.out
        have OK1 := Lib.hid ok1
        clear ok1
        obtain ⟨ok2, p3⟩ := drop_zero HREL2.out
        have OK2 := Lib.hid ok2
        clear ok2
        go_wp2_with fail
        refine (specStoreOk_sq z2 g2 q2 r0.log a2 d2 r0.given _ (HS2.out.ext bxt) true (Lib.hid (⟨fun _ => (by rw [HZ2.out]; exact OK0.out), fun _ => rfl⟩))).mono ?_
        rintro e w8 ⟨rfl, hb8⟩
        have hzz8 := hb8.size; (try simp at hzz8)
        obtain ⟨hc8, hf8⟩ := bcell hb8
        have hs8_0 : w1.heap.size < w8.heap.size := by (have hss := hb8.size; first | omega | (simp at hss <;> omega))
        have hs8_1 : w2.heap.size < w8.heap.size := by (have hss := hb8.size; first | omega | (simp at hss <;> omega))
        have hs8_2 : w3.heap.size < w8.heap.size := by (have hss := hb8.size; first | omega | (simp at hss <;> omega))
        have hs8_3 : w4.heap.size < w8.heap.size := by (have hss := hb8.size; first | omega | (simp at hss <;> omega))
        obtain ⟨v9, hv9⟩ : ∃ v : Int, boxNamed y (z2.map PBox.box) = v := ⟨_, rfl⟩
        have Hv9 := Lib.hid hv9
        have kv9 : 0 ≤ v9 := by (rw [← hv9, HZ2.out]; exact p0)
        have dv9 : decide (0 ≤ v9) = true := decide_eq_true kv9
        clear hv9
        go_wp2_with fail
        refine (implBoxNamed_any z2 g2 q2 y _ (HS2.out.rd.ext bxt) v9 Hv9).mono ?_
        rintro e w9 ⟨rfl, hb9⟩
        have hzz9 := hb9.size; (try simp at hzz9)
        obtain ⟨hc9, hf9⟩ := bcell hb9
        have hs9_0 : w1.heap.size < w9.heap.size := by (have hss := hb9.size; first | omega | (simp at hss <;> omega))
        have hs9_1 : w2.heap.size < w9.heap.size := by (have hss := hb9.size; first | omega | (simp at hss <;> omega))
        have hs9_2 : w3.heap.size < w9.heap.size := by (have hss := hb9.size; first | omega | (simp at hss <;> omega))
        have hs9_3 : w4.heap.size < w9.heap.size := by (have hss := hb9.size; first | omega | (simp at hss <;> omega))
        obtain ⟨v10, hv10⟩ : ∃ v : Int, boxNamed x (z2.map PBox.box) = v := ⟨_, rfl⟩
        have Hv10 := Lib.hid hv10
        have kv10 : v10 < 0 := by (rw [← hv10, HZ2.out]; exact p1)
        have dv10 : decide (v10 < 0) = true := decide_eq_true kv10
        clear hv10
        go_wp2_with fail
        refine (implBoxNamed_any z2 g2 q2 x _ (HS2.out.rd.ext bxt) v10 Hv10).mono ?_
        rintro e w10 ⟨rfl, hb10⟩
        have hzz10 := hb10.size; (try simp at hzz10)
        obtain ⟨hc10, hf10⟩ := bcell hb10
        have hs10_0 : w1.heap.size < w10.heap.size := by (have hss := hb10.size; first | omega | (simp at hss <;> omega))
        have hs10_1 : w2.heap.size < w10.heap.size := by (have hss := hb10.size; first | omega | (simp at hss <;> omega))
        have hs10_2 : w3.heap.size < w10.heap.size := by (have hss := hb10.size; first | omega | (simp at hss <;> omega))
        have hs10_3 : w4.heap.size < w10.heap.size := by (have hss := hb10.size; first | omega | (simp at hss <;> omega))
        go_wp2_with fail
        refine (specStoreOk_sq z3 g3 q3 r1.log a3 d3 r1.given _ (HS3.out.ext bxt) true (Lib.hid (⟨fun _ => (by rw [HZ3.out]; exact OK1.out), fun _ => rfl⟩))).mono ?_
        rintro e w11 ⟨rfl, hb11⟩
        have hzz11 := hb11.size; (try simp at hzz11)
        obtain ⟨hc11, hf11⟩ := bcell hb11
        have hs11_0 : w1.heap.size < w11.heap.size := by (have hss := hb11.size; first | omega | (simp at hss <;> omega))
        have hs11_1 : w2.heap.size < w11.heap.size := by (have hss := hb11.size; first | omega | (simp at hss <;> omega))
        have hs11_2 : w3.heap.size < w11.heap.size := by (have hss := hb11.size; first | omega | (simp at hss <;> omega))
        have hs11_3 : w4.heap.size < w11.heap.size := by (have hss := hb11.size; first | omega | (simp at hss <;> omega))
        obtain ⟨v12, hv12⟩ : ∃ v : Int, boxNamed y (z3.map PBox.box) = v := ⟨_, rfl⟩
        have Hv12 := Lib.hid hv12
        have kv12 : 0 ≤ v12 := by (rw [← hv12, HZ3.out]; exact p2)
        have dv12 : decide (0 ≤ v12) = true := decide_eq_true kv12
        clear hv12
        go_wp2_with fail
        refine (implBoxNamed_any z3 g3 q3 y _ (HS3.out.rd.ext bxt) v12 Hv12).mono ?_
        rintro e w12 ⟨rfl, hb12⟩
        have hzz12 := hb12.size; (try simp at hzz12)
        obtain ⟨hc12, hf12⟩ := bcell hb12
        have hs12_0 : w1.heap.size < w12.heap.size := by (have hss := hb12.size; first | omega | (simp at hss <;> omega))
        have hs12_1 : w2.heap.size < w12.heap.size := by (have hss := hb12.size; first | omega | (simp at hss <;> omega))
        have hs12_2 : w3.heap.size < w12.heap.size := by (have hss := hb12.size; first | omega | (simp at hss <;> omega))
        have hs12_3 : w4.heap.size < w12.heap.size := by (have hss := hb12.size; first | omega | (simp at hss <;> omega))
        go_wp2_with fail
        refine (specStoreOk_sq z4 g4 q4 r2.log a4 d4 r2.given _ (HS4.out.ext bxt) true (Lib.hid (⟨fun _ => (by rw [HZ4.out]; exact OK2.out), fun _ => rfl⟩))).mono ?_
        rintro e w13 ⟨rfl, hb13⟩
        have hzz13 := hb13.size; (try simp at hzz13)
        obtain ⟨hc13, hf13⟩ := bcell hb13
        have hs13_0 : w1.heap.size < w13.heap.size := by (have hss := hb13.size; first | omega | (simp at hss <;> omega))
        have hs13_1 : w2.heap.size < w13.heap.size := by (have hss := hb13.size; first | omega | (simp at hss <;> omega))
        have hs13_2 : w3.heap.size < w13.heap.size := by (have hss := hb13.size; first | omega | (simp at hss <;> omega))
        have hs13_3 : w4.heap.size < w13.heap.size := by (have hss := hb13.size; first | omega | (simp at hss <;> omega))
        obtain ⟨v14, hv14⟩ : ∃ v : Int, boxNamed x (z4.map PBox.box) = v := ⟨_, rfl⟩
        have Hv14 := Lib.hid hv14
        have kv14 : v14 < 0 := by (rw [← hv14, HZ4.out]; exact p3)
        have dv14 : decide (v14 < 0) = true := decide_eq_true kv14
        clear hv14
        go_wp2_with fail
        refine (implBoxNamed_any z4 g4 q4 x _ (HS4.out.rd.ext bxt) v14 Hv14).mono ?_
        rintro e w14 ⟨rfl, hb14⟩
        have hzz14 := hb14.size; (try simp at hzz14)
        obtain ⟨hc14, hf14⟩ := bcell hb14
        have hs14_0 : w1.heap.size < w14.heap.size := by (have hss := hb14.size; first | omega | (simp at hss <;> omega))
        have hs14_1 : w2.heap.size < w14.heap.size := by (have hss := hb14.size; first | omega | (simp at hss <;> omega))
        have hs14_2 : w3.heap.size < w14.heap.size := by (have hss := hb14.size; first | omega | (simp at hss <;> omega))
        have hs14_3 : w4.heap.size < w14.heap.size := by (have hss := hb14.size; first | omega | (simp at hss <;> omega))
        go_wp2_with fail
        go_ret
        exact ⟨rfl, bxt⟩
      · skip
        obtain ⟨ok0, p0, p1⟩ := name_zero HREL0.out
        have OK0 := Lib.hid ok0
        clear ok0
        obtain ⟨ok1, p2⟩ := make_zero HREL1.out
        have OK1 := Lib.hid ok1
        clear ok1
        have HRS2 := Lib.hid (show r2 = ⟨zs.map PBox.box, lg, gv⟩ from drop_ref HREL2.out h2)
        have e2 : (c2 != 0) = true := by simpa using h2
        clear h2
        go_wp2_with fail
        refine (specSameStore_sq z4 g4 q4 r2.log a4 d4 r2.given zs ba bc lg la lc gv _ (HS4.out.ext bxt) (HS.out.ext bxt) true (Lib.hid (by simp [HZ4.out, HRS2.out]))).mono ?_
        rintro e w8 ⟨rfl, hb8⟩
        have hzz8 := hb8.size; (try simp at hzz8)
        obtain ⟨hc8, hf8⟩ := bcell hb8
        have hs8_0 : w1.heap.size < w8.heap.size := by (have hss := hb8.size; first | omega | (simp at hss <;> omega))
        have hs8_1 : w2.heap.size < w8.heap.size := by (have hss := hb8.size; first | omega | (simp at hss <;> omega))
        have hs8_2 : w3.heap.size < w8.heap.size := by (have hss := hb8.size; first | omega | (simp at hss <;> omega))
        have hs8_3 : w4.heap.size < w8.heap.size := by (have hss := hb8.size; first | omega | (simp at hss <;> omega))
        go_wp2_with fail
        refine (specStoreOk_sq z2 g2 q2 r0.log a2 d2 r0.given _ (HS2.out.ext bxt) true (Lib.hid (⟨fun _ => (by rw [HZ2.out]; exact OK0.out), fun _ => rfl⟩))).mono ?_
        rintro e w9 ⟨rfl, hb9⟩
        have hzz9 := hb9.size; (try simp at hzz9)
        obtain ⟨hc9, hf9⟩ := bcell hb9
        have hs9_0 : w1.heap.size < w9.heap.size := by (have hss := hb9.size; first | omega | (simp at hss <;> omega))
        have hs9_1 : w2.heap.size < w9.heap.size := by (have hss := hb9.size; first | omega | (simp at hss <;> omega))
        have hs9_2 : w3.heap.size < w9.heap.size := by (have hss := hb9.size; first | omega | (simp at hss <;> omega))
        have hs9_3 : w4.heap.size < w9.heap.size := by (have hss := hb9.size; first | omega | (simp at hss <;> omega))
        obtain ⟨v10, hv10⟩ : ∃ v : Int, boxNamed y (z2.map PBox.box) = v := ⟨_, rfl⟩
        have Hv10 := Lib.hid hv10
        have kv10 : 0 ≤ v10 := by (rw [← hv10, HZ2.out]; exact p0)
        have dv10 : decide (0 ≤ v10) = true := decide_eq_true kv10
        clear hv10
        go_wp2_with fail
        refine (implBoxNamed_any z2 g2 q2 y _ (HS2.out.rd.ext bxt) v10 Hv10).mono ?_
        rintro e w10 ⟨rfl, hb10⟩
        have hzz10 := hb10.size; (try simp at hzz10)
        obtain ⟨hc10, hf10⟩ := bcell hb10
        have hs10_0 : w1.heap.size < w10.heap.size := by (have hss := hb10.size; first | omega | (simp at hss <;> omega))
        have hs10_1 : w2.heap.size < w10.heap.size := by (have hss := hb10.size; first | omega | (simp at hss <;> omega))
        have hs10_2 : w3.heap.size < w10.heap.size := by (have hss := hb10.size; first | omega | (simp at hss <;> omega))
        have hs10_3 : w4.heap.size < w10.heap.size := by (have hss := hb10.size; first | omega | (simp at hss <;> omega))
        obtain ⟨v11, hv11⟩ : ∃ v : Int, boxNamed x (z2.map PBox.box) = v := ⟨_, rfl⟩
        have Hv11 := Lib.hid hv11
        have kv11 : v11 < 0 := by (rw [← hv11, HZ2.out]; exact p1)
        have dv11 : decide (v11 < 0) = true := decide_eq_true kv11
        clear hv11
        go_wp2_with fail
        refine (implBoxNamed_any z2 g2 q2 x _ (HS2.out.rd.ext bxt) v11 Hv11).mono ?_
        rintro e w11 ⟨rfl, hb11⟩
        have hzz11 := hb11.size; (try simp at hzz11)
        obtain ⟨hc11, hf11⟩ := bcell hb11
        have hs11_0 : w1.heap.size < w11.heap.size := by (have hss := hb11.size; first | omega | (simp at hss <;> omega))
        have hs11_1 : w2.heap.size < w11.heap.size := by (have hss := hb11.size; first | omega | (simp at hss <;> omega))
        have hs11_2 : w3.heap.size < w11.heap.size := by (have hss := hb11.size; first | omega | (simp at hss <;> omega))
        have hs11_3 : w4.heap.size < w11.heap.size := by (have hss := hb11.size; first | omega | (simp at hss <;> omega))
        go_wp2_with fail
        refine (specStoreOk_sq z3 g3 q3 r1.log a3 d3 r1.given _ (HS3.out.ext bxt) true (Lib.hid (⟨fun _ => (by rw [HZ3.out]; exact OK1.out), fun _ => rfl⟩))).mono ?_
        rintro e w12 ⟨rfl, hb12⟩
        have hzz12 := hb12.size; (try simp at hzz12)
        obtain ⟨hc12, hf12⟩ := bcell hb12
        have hs12_0 : w1.heap.size < w12.heap.size := by (have hss := hb12.size; first | omega | (simp at hss <;> omega))
        have hs12_1 : w2.heap.size < w12.heap.size := by (have hss := hb12.size; first | omega | (simp at hss <;> omega))
        have hs12_2 : w3.heap.size < w12.heap.size := by (have hss := hb12.size; first | omega | (simp at hss <;> omega))
        have hs12_3 : w4.heap.size < w12.heap.size := by (have hss := hb12.size; first | omega | (simp at hss <;> omega))
        obtain ⟨v13, hv13⟩ : ∃ v : Int, boxNamed y (z3.map PBox.box) = v := ⟨_, rfl⟩
        have Hv13 := Lib.hid hv13
        have kv13 : 0 ≤ v13 := by (rw [← hv13, HZ3.out]; exact p2)
        have dv13 : decide (0 ≤ v13) = true := decide_eq_true kv13
        clear hv13
        go_wp2_with fail
        refine (implBoxNamed_any z3 g3 q3 y _ (HS3.out.rd.ext bxt) v13 Hv13).mono ?_
        rintro e w13 ⟨rfl, hb13⟩
        have hzz13 := hb13.size; (try simp at hzz13)
        obtain ⟨hc13, hf13⟩ := bcell hb13
        have hs13_0 : w1.heap.size < w13.heap.size := by (have hss := hb13.size; first | omega | (simp at hss <;> omega))
        have hs13_1 : w2.heap.size < w13.heap.size := by (have hss := hb13.size; first | omega | (simp at hss <;> omega))
        have hs13_2 : w3.heap.size < w13.heap.size := by (have hss := hb13.size; first | omega | (simp at hss <;> omega))
        have hs13_3 : w4.heap.size < w13.heap.size := by (have hss := hb13.size; first | omega | (simp at hss <;> omega))
        go_wp2_with fail
        go_ret
        exact ⟨rfl, bxt⟩
    · skip
      by_cases h2 : c2 = 0
      · subst h2
        obtain ⟨ok0, p0, p1⟩ := name_zero HREL0.out
        have OK0 := Lib.hid ok0
        clear ok0
        have HRS1 := Lib.hid (show r1 = ⟨zs.map PBox.box, lg, gv⟩ from make_ref HREL1.out h1)
        have e1 : (c1 != 0) = true := by simpa using h1
        clear h1
        obtain ⟨ok2, p3⟩ := drop_zero HREL2.out
        have OK2 := Lib.hid ok2
        clear ok2
        go_wp2_with fail
        refine (specSameStore_sq z3 g3 q3 r1.log a3 d3 r1.given zs ba bc lg la lc gv _ (HS3.out.ext bxt) (HS.out.ext bxt) true (Lib.hid (by simp [HZ3.out, HRS1.out]))).mono ?_
        rintro e w8 ⟨rfl, hb8⟩
        have hzz8 := hb8.size; (try simp at hzz8)
        obtain ⟨hc8, hf8⟩ := bcell hb8
        have hs8_0 : w1.heap.size < w8.heap.size := by (have hss := hb8.size; first | omega | (simp at hss <;> omega))
        have hs8_1 : w2.heap.size < w8.heap.size := by (have hss := hb8.size; first | omega | (simp at hss <;> omega))
        have hs8_2 : w3.heap.size < w8.heap.size := by (have hss := hb8.size; first | omega | (simp at hss <;> omega))
        have hs8_3 : w4.heap.size < w8.heap.size := by (have hss := hb8.size; first | omega | (simp at hss <;> omega))
        go_wp2_with fail
        refine (specStoreOk_sq z2 g2 q2 r0.log a2 d2 r0.given _ (HS2.out.ext bxt) true (Lib.hid (⟨fun _ => (by rw [HZ2.out]; exact OK0.out), fun _ => rfl⟩))).mono ?_
        rintro e w9 ⟨rfl, hb9⟩
        have hzz9 := hb9.size; (try simp at hzz9)
        obtain ⟨hc9, hf9⟩ := bcell hb9
        have hs9_0 : w1.heap.size < w9.heap.size := by (have hss := hb9.size; first | omega | (simp at hss <;> omega))
        have hs9_1 : w2.heap.size < w9.heap.size := by (have hss := hb9.size; first | omega | (simp at hss <;> omega))
        have hs9_2 : w3.heap.size < w9.heap.size := by (have hss := hb9.size; first | omega | (simp at hss <;> omega))
        have hs9_3 : w4.heap.size < w9.heap.size := by (have hss := hb9.size; first | omega | (simp at hss <;> omega))
        obtain ⟨v10, hv10⟩ : ∃ v : Int, boxNamed y (z2.map PBox.box) = v := ⟨_, rfl⟩
        have Hv10 := Lib.hid hv10
        have kv10 : 0 ≤ v10 := by (rw [← hv10, HZ2.out]; exact p0)
        have dv10 : decide (0 ≤ v10) = true := decide_eq_true kv10
        clear hv10
        go_wp2_with fail
        refine (implBoxNamed_any z2 g2 q2 y _ (HS2.out.rd.ext bxt) v10 Hv10).mono ?_
        rintro e w10 ⟨rfl, hb10⟩
        have hzz10 := hb10.size; (try simp at hzz10)
        obtain ⟨hc10, hf10⟩ := bcell hb10
        have hs10_0 : w1.heap.size < w10.heap.size := by (have hss := hb10.size; first | omega | (simp at hss <;> omega))
        have hs10_1 : w2.heap.size < w10.heap.size := by (have hss := hb10.size; first | omega | (simp at hss <;> omega))
        have hs10_2 : w3.heap.size < w10.heap.size := by (have hss := hb10.size; first | omega | (simp at hss <;> omega))
        have hs10_3 : w4.heap.size < w10.heap.size := by (have hss := hb10.size; first | omega | (simp at hss <;> omega))
        obtain ⟨v11, hv11⟩ : ∃ v : Int, boxNamed x (z2.map PBox.box) = v := ⟨_, rfl⟩
        have Hv11 := Lib.hid hv11
        have kv11 : v11 < 0 := by (rw [← hv11, HZ2.out]; exact p1)
        have dv11 : decide (v11 < 0) = true := decide_eq_true kv11
        clear hv11
        go_wp2_with fail
        refine (implBoxNamed_any z2 g2 q2 x _ (HS2.out.rd.ext bxt) v11 Hv11).mono ?_
        rintro e w11 ⟨rfl, hb11⟩
        have hzz11 := hb11.size; (try simp at hzz11)
        obtain ⟨hc11, hf11⟩ := bcell hb11
        have hs11_0 : w1.heap.size < w11.heap.size := by (have hss := hb11.size; first | omega | (simp at hss <;> omega))
        have hs11_1 : w2.heap.size < w11.heap.size := by (have hss := hb11.size; first | omega | (simp at hss <;> omega))
        have hs11_2 : w3.heap.size < w11.heap.size := by (have hss := hb11.size; first | omega | (simp at hss <;> omega))
        have hs11_3 : w4.heap.size < w11.heap.size := by (have hss := hb11.size; first | omega | (simp at hss <;> omega))
        go_wp2_with fail
        refine (specStoreOk_sq z4 g4 q4 r2.log a4 d4 r2.given _ (HS4.out.ext bxt) true (Lib.hid (⟨fun _ => (by rw [HZ4.out]; exact OK2.out), fun _ => rfl⟩))).mono ?_
        rintro e w12 ⟨rfl, hb12⟩
        have hzz12 := hb12.size; (try simp at hzz12)
        obtain ⟨hc12, hf12⟩ := bcell hb12
        have hs12_0 : w1.heap.size < w12.heap.size := by (have hss := hb12.size; first | omega | (simp at hss <;> omega))
        have hs12_1 : w2.heap.size < w12.heap.size := by (have hss := hb12.size; first | omega | (simp at hss <;> omega))
        have hs12_2 : w3.heap.size < w12.heap.size := by (have hss := hb12.size; first | omega | (simp at hss <;> omega))
        have hs12_3 : w4.heap.size < w12.heap.size := by (have hss := hb12.size; first | omega | (simp at hss <;> omega))
        obtain ⟨v13, hv13⟩ : ∃ v : Int, boxNamed x (z4.map PBox.box) = v := ⟨_, rfl⟩
        have Hv13 := Lib.hid hv13
        have kv13 : v13 < 0 := by (rw [← hv13, HZ4.out]; exact p3)
        have dv13 : decide (v13 < 0) = true := decide_eq_true kv13
        clear hv13
        go_wp2_with fail
        refine (implBoxNamed_any z4 g4 q4 x _ (HS4.out.rd.ext bxt) v13 Hv13).mono ?_
        rintro e w13 ⟨rfl, hb13⟩
        have hzz13 := hb13.size; (try simp at hzz13)
        obtain ⟨hc13, hf13⟩ := bcell hb13
        have hs13_0 : w1.heap.size < w13.heap.size := by (have hss := hb13.size; first | omega | (simp at hss <;> omega))
        have hs13_1 : w2.heap.size < w13.heap.size := by (have hss := hb13.size; first | omega | (simp at hss <;> omega))
        have hs13_2 : w3.heap.size < w13.heap.size := by (have hss := hb13.size; first | omega | (simp at hss <;> omega))
        have hs13_3 : w4.heap.size < w13.heap.size := by (have hss := hb13.size; first | omega | (simp at hss <;> omega))
        go_wp2_with fail
        go_ret
        exact ⟨rfl, bxt⟩
      · skip
        obtain ⟨ok0, p0, p1⟩ := name_zero HREL0.out
        have OK0 := Lib.hid ok0
        clear ok0
        have HRS1 := Lib.hid (show r1 = ⟨zs.map PBox.box, lg, gv⟩ from make_ref HREL1.out h1)
        have e1 : (c1 != 0) = true := by simpa using h1
        clear h1
        have HRS2 := Lib.hid (show r2 = ⟨zs.map PBox.box, lg, gv⟩ from drop_ref HREL2.out h2)
        have e2 : (c2 != 0) = true := by simpa using h2
        clear h2
        go_wp2_with fail
        refine (specSameStore_sq z3 g3 q3 r1.log a3 d3 r1.given zs ba bc lg la lc gv _ (HS3.out.ext bxt) (HS.out.ext bxt) true (Lib.hid (by simp [HZ3.out, HRS1.out]))).mono ?_
        rintro e w8 ⟨rfl, hb8⟩
        have hzz8 := hb8.size; (try simp at hzz8)
        obtain ⟨hc8, hf8⟩ := bcell hb8
        have hs8_0 : w1.heap.size < w8.heap.size := by (have hss := hb8.size; first | omega | (simp at hss <;> omega))
        have hs8_1 : w2.heap.size < w8.heap.size := by (have hss := hb8.size; first | omega | (simp at hss <;> omega))
        have hs8_2 : w3.heap.size < w8.heap.size := by (have hss := hb8.size; first | omega | (simp at hss <;> omega))
        have hs8_3 : w4.heap.size < w8.heap.size := by (have hss := hb8.size; first | omega | (simp at hss <;> omega))
        go_wp2_with fail
        refine (specSameStore_sq z4 g4 q4 r2.log a4 d4 r2.given zs ba bc lg la lc gv _ (HS4.out.ext bxt) (HS.out.ext bxt) true (Lib.hid (by simp [HZ4.out, HRS2.out]))).mono ?_
        rintro e w9 ⟨rfl, hb9⟩
        have hzz9 := hb9.size; (try simp at hzz9)
        obtain ⟨hc9, hf9⟩ := bcell hb9
        have hs9_0 : w1.heap.size < w9.heap.size := by (have hss := hb9.size; first | omega | (simp at hss <;> omega))
        have hs9_1 : w2.heap.size < w9.heap.size := by (have hss := hb9.size; first | omega | (simp at hss <;> omega))
        have hs9_2 : w3.heap.size < w9.heap.size := by (have hss := hb9.size; first | omega | (simp at hss <;> omega))
        have hs9_3 : w4.heap.size < w9.heap.size := by (have hss := hb9.size; first | omega | (simp at hss <;> omega))
        go_wp2_with fail
        refine (specStoreOk_sq z2 g2 q2 r0.log a2 d2 r0.given _ (HS2.out.ext bxt) true (Lib.hid (⟨fun _ => (by rw [HZ2.out]; exact OK0.out), fun _ => rfl⟩))).mono ?_
        rintro e w10 ⟨rfl, hb10⟩
        have hzz10 := hb10.size; (try simp at hzz10)
        obtain ⟨hc10, hf10⟩ := bcell hb10
        have hs10_0 : w1.heap.size < w10.heap.size := by (have hss := hb10.size; first | omega | (simp at hss <;> omega))
        have hs10_1 : w2.heap.size < w10.heap.size := by (have hss := hb10.size; first | omega | (simp at hss <;> omega))
        have hs10_2 : w3.heap.size < w10.heap.size := by (have hss := hb10.size; first | omega | (simp at hss <;> omega))
        have hs10_3 : w4.heap.size < w10.heap.size := by (have hss := hb10.size; first | omega | (simp at hss <;> omega))
        obtain ⟨v11, hv11⟩ : ∃ v : Int, boxNamed y (z2.map PBox.box) = v := ⟨_, rfl⟩
        have Hv11 := Lib.hid hv11
        have kv11 : 0 ≤ v11 := by (rw [← hv11, HZ2.out]; exact p0)
        have dv11 : decide (0 ≤ v11) = true := decide_eq_true kv11
        clear hv11
        go_wp2_with fail
        refine (implBoxNamed_any z2 g2 q2 y _ (HS2.out.rd.ext bxt) v11 Hv11).mono ?_
        rintro e w11 ⟨rfl, hb11⟩
        have hzz11 := hb11.size; (try simp at hzz11)
        obtain ⟨hc11, hf11⟩ := bcell hb11
        have hs11_0 : w1.heap.size < w11.heap.size := by (have hss := hb11.size; first | omega | (simp at hss <;> omega))
        have hs11_1 : w2.heap.size < w11.heap.size := by (have hss := hb11.size; first | omega | (simp at hss <;> omega))
        have hs11_2 : w3.heap.size < w11.heap.size := by (have hss := hb11.size; first | omega | (simp at hss <;> omega))
        have hs11_3 : w4.heap.size < w11.heap.size := by (have hss := hb11.size; first | omega | (simp at hss <;> omega))
        obtain ⟨v12, hv12⟩ : ∃ v : Int, boxNamed x (z2.map PBox.box) = v := ⟨_, rfl⟩
        have Hv12 := Lib.hid hv12
        have kv12 : v12 < 0 := by (rw [← hv12, HZ2.out]; exact p1)
        have dv12 : decide (v12 < 0) = true := decide_eq_true kv12
        clear hv12
        go_wp2_with fail
        refine (implBoxNamed_any z2 g2 q2 x _ (HS2.out.rd.ext bxt) v12 Hv12).mono ?_
        rintro e w12 ⟨rfl, hb12⟩
        have hzz12 := hb12.size; (try simp at hzz12)
        obtain ⟨hc12, hf12⟩ := bcell hb12
        have hs12_0 : w1.heap.size < w12.heap.size := by (have hss := hb12.size; first | omega | (simp at hss <;> omega))
        have hs12_1 : w2.heap.size < w12.heap.size := by (have hss := hb12.size; first | omega | (simp at hss <;> omega))
        have hs12_2 : w3.heap.size < w12.heap.size := by (have hss := hb12.size; first | omega | (simp at hss <;> omega))
        have hs12_3 : w4.heap.size < w12.heap.size := by (have hss := hb12.size; first | omega | (simp at hss <;> omega))
        go_wp2_with fail
        go_ret
        exact ⟨rfl, bxt⟩
  · skip
    by_cases h1 : c1 = 0
    · subst h1
      by_cases h2 : c2 = 0
      · subst h2
        have HRS0 := Lib.hid (show r0 = ⟨zs.map PBox.box, lg, gv⟩ from name_ref HREL0.out h0)
        have e0 : (c0 != 0) = true := by simpa using h0
        clear h0
        obtain ⟨ok1, p2⟩ := make_zero HREL1.out
        have OK1 := Lib.hid ok1
        clear ok1
        obtain ⟨ok2, p3⟩ := drop_zero HREL2.out
        have OK2 := Lib.hid ok2
        clear ok2
        go_wp2_with fail
        refine (specSameStore_sq z2 g2 q2 r0.log a2 d2 r0.given zs ba bc lg la lc gv _ (HS2.out.ext bxt) (HS.out.ext bxt) true (Lib.hid (by simp [HZ2.out, HRS0.out]))).mono ?_
        rintro e w8 ⟨rfl, hb8⟩
        have hzz8 := hb8.size; (try simp at hzz8)
        obtain ⟨hc8, hf8⟩ := bcell hb8
        have hs8_0 : w1.heap.size < w8.heap.size := by (have hss := hb8.size; first | omega | (simp at hss <;> omega))
        have hs8_1 : w2.heap.size < w8.heap.size := by (have hss := hb8.size; first | omega | (simp at hss <;> omega))
        have hs8_2 : w3.heap.size < w8.heap.size := by (have hss := hb8.size; first | omega | (simp at hss <;> omega))
        have hs8_3 : w4.heap.size < w8.heap.size := by (have hss := hb8.size; first | omega | (simp at hss <;> omega))
        go_wp2_with fail
        refine (specStoreOk_sq z3 g3 q3 r1.log a3 d3 r1.given _ (HS3.out.ext bxt) true (Lib.hid (⟨fun _ => (by rw [HZ3.out]; exact OK1.out), fun _ => rfl⟩))).mono ?_
        rintro e w9 ⟨rfl, hb9⟩
        have hzz9 := hb9.size; (try simp at hzz9)
        obtain ⟨hc9, hf9⟩ := bcell hb9
        have hs9_0 : w1.heap.size < w9.heap.size := by (have hss := hb9.size; first | omega | (simp at hss <;> omega))
        have hs9_1 : w2.heap.size < w9.heap.size := by (have hss := hb9.size; first | omega | (simp at hss <;> omega))
        have hs9_2 : w3.heap.size < w9.heap.size := by (have hss := hb9.size; first | omega | (simp at hss <;> omega))
        have hs9_3 : w4.heap.size < w9.heap.size := by (have hss := hb9.size; first | omega | (simp at hss <;> omega))
        obtain ⟨v10, hv10⟩ : ∃ v : Int, boxNamed y (z3.map PBox.box) = v := ⟨_, rfl⟩
        have Hv10 := Lib.hid hv10
        have kv10 : 0 ≤ v10 := by (rw [← hv10, HZ3.out]; exact p2)
        have dv10 : decide (0 ≤ v10) = true := decide_eq_true kv10
        clear hv10
        go_wp2_with fail
        refine (implBoxNamed_any z3 g3 q3 y _ (HS3.out.rd.ext bxt) v10 Hv10).mono ?_
        rintro e w10 ⟨rfl, hb10⟩
        have hzz10 := hb10.size; (try simp at hzz10)
        obtain ⟨hc10, hf10⟩ := bcell hb10
        have hs10_0 : w1.heap.size < w10.heap.size := by (have hss := hb10.size; first | omega | (simp at hss <;> omega))
        have hs10_1 : w2.heap.size < w10.heap.size := by (have hss := hb10.size; first | omega | (simp at hss <;> omega))
        have hs10_2 : w3.heap.size < w10.heap.size := by (have hss := hb10.size; first | omega | (simp at hss <;> omega))
        have hs10_3 : w4.heap.size < w10.heap.size := by (have hss := hb10.size; first | omega | (simp at hss <;> omega))
        go_wp2_with fail
        refine (specStoreOk_sq z4 g4 q4 r2.log a4 d4 r2.given _ (HS4.out.ext bxt) true (Lib.hid (⟨fun _ => (by rw [HZ4.out]; exact OK2.out), fun _ => rfl⟩))).mono ?_
        rintro e w11 ⟨rfl, hb11⟩
        have hzz11 := hb11.size; (try simp at hzz11)
        obtain ⟨hc11, hf11⟩ := bcell hb11
        have hs11_0 : w1.heap.size < w11.heap.size := by (have hss := hb11.size; first | omega | (simp at hss <;> omega))
        have hs11_1 : w2.heap.size < w11.heap.size := by (have hss := hb11.size; first | omega | (simp at hss <;> omega))
        have hs11_2 : w3.heap.size < w11.heap.size := by (have hss := hb11.size; first | omega | (simp at hss <;> omega))
        have hs11_3 : w4.heap.size < w11.heap.size := by (have hss := hb11.size; first | omega | (simp at hss <;> omega))
        obtain ⟨v12, hv12⟩ : ∃ v : Int, boxNamed x (z4.map PBox.box) = v := ⟨_, rfl⟩
        have Hv12 := Lib.hid hv12
        have kv12 : v12 < 0 := by (rw [← hv12, HZ4.out]; exact p3)
        have dv12 : decide (v12 < 0) = true := decide_eq_true kv12
        clear hv12
        go_wp2_with fail
        refine (implBoxNamed_any z4 g4 q4 x _ (HS4.out.rd.ext bxt) v12 Hv12).mono ?_
        rintro e w12 ⟨rfl, hb12⟩
        have hzz12 := hb12.size; (try simp at hzz12)
        obtain ⟨hc12, hf12⟩ := bcell hb12
        have hs12_0 : w1.heap.size < w12.heap.size := by (have hss := hb12.size; first | omega | (simp at hss <;> omega))
        have hs12_1 : w2.heap.size < w12.heap.size := by (have hss := hb12.size; first | omega | (simp at hss <;> omega))
        have hs12_2 : w3.heap.size < w12.heap.size := by (have hss := hb12.size; first | omega | (simp at hss <;> omega))
        have hs12_3 : w4.heap.size < w12.heap.size := by (have hss := hb12.size; first | omega | (simp at hss <;> omega))
        go_wp2_with fail
        go_ret
        exact ⟨rfl, bxt⟩
      · skip
        have HRS0 := Lib.hid (show r0 = ⟨zs.map PBox.box, lg, gv⟩ from name_ref HREL0.out h0)
        have e0 : (c0 != 0) = true := by simpa using h0
        clear h0
        obtain ⟨ok1, p2⟩ := make_zero HREL1.out
        have OK1 := Lib.hid ok1
        clear ok1
        have HRS2 := Lib.hid (show r2 = ⟨zs.map PBox.box, lg, gv⟩ from drop_ref HREL2.out h2)
        have e2 : (c2 != 0) = true := by simpa using h2
        clear h2
        go_wp2_with fail
        refine (specSameStore_sq z2 g2 q2 r0.log a2 d2 r0.given zs ba bc lg la lc gv _ (HS2.out.ext bxt) (HS.out.ext bxt) true (Lib.hid (by simp [HZ2.out, HRS0.out]))).mono ?_
        rintro e w8 ⟨rfl, hb8⟩
        have hzz8 := hb8.size; (try simp at hzz8)
        obtain ⟨hc8, hf8⟩ := bcell hb8
        have hs8_0 : w1.heap.size < w8.heap.size := by (have hss := hb8.size; first | omega | (simp at hss <;> omega))
        have hs8_1 : w2.heap.size < w8.heap.size := by (have hss := hb8.size; first | omega | (simp at hss <;> omega))
        have hs8_2 : w3.heap.size < w8.heap.size := by (have hss := hb8.size; first | omega | (simp at hss <;> omega))
        have hs8_3 : w4.heap.size < w8.heap.size := by (have hss := hb8.size; first | omega | (simp at hss <;> omega))
        go_wp2_with fail
        refine (specSameStore_sq z4 g4 q4 r2.log a4 d4 r2.given zs ba bc lg la lc gv _ (HS4.out.ext bxt) (HS.out.ext bxt) true (Lib.hid (by simp [HZ4.out, HRS2.out]))).mono ?_
        rintro e w9 ⟨rfl, hb9⟩
        have hzz9 := hb9.size; (try simp at hzz9)
        obtain ⟨hc9, hf9⟩ := bcell hb9
        have hs9_0 : w1.heap.size < w9.heap.size := by (have hss := hb9.size; first | omega | (simp at hss <;> omega))
        have hs9_1 : w2.heap.size < w9.heap.size := by (have hss := hb9.size; first | omega | (simp at hss <;> omega))
        have hs9_2 : w3.heap.size < w9.heap.size := by (have hss := hb9.size; first | omega | (simp at hss <;> omega))
        have hs9_3 : w4.heap.size < w9.heap.size := by (have hss := hb9.size; first | omega | (simp at hss <;> omega))
        go_wp2_with fail
        refine (specStoreOk_sq z3 g3 q3 r1.log a3 d3 r1.given _ (HS3.out.ext bxt) true (Lib.hid (⟨fun _ => (by rw [HZ3.out]; exact OK1.out), fun _ => rfl⟩))).mono ?_
        rintro e w10 ⟨rfl, hb10⟩
        have hzz10 := hb10.size; (try simp at hzz10)
        obtain ⟨hc10, hf10⟩ := bcell hb10
        have hs10_0 : w1.heap.size < w10.heap.size := by (have hss := hb10.size; first | omega | (simp at hss <;> omega))
        have hs10_1 : w2.heap.size < w10.heap.size := by (have hss := hb10.size; first | omega | (simp at hss <;> omega))
        have hs10_2 : w3.heap.size < w10.heap.size := by (have hss := hb10.size; first | omega | (simp at hss <;> omega))
        have hs10_3 : w4.heap.size < w10.heap.size := by (have hss := hb10.size; first | omega | (simp at hss <;> omega))
        obtain ⟨v11, hv11⟩ : ∃ v : Int, boxNamed y (z3.map PBox.box) = v := ⟨_, rfl⟩
        have Hv11 := Lib.hid hv11
        have kv11 : 0 ≤ v11 := by (rw [← hv11, HZ3.out]; exact p2)
        have dv11 : decide (0 ≤ v11) = true := decide_eq_true kv11
        clear hv11
        go_wp2_with fail
        refine (implBoxNamed_any z3 g3 q3 y _ (HS3.out.rd.ext bxt) v11 Hv11).mono ?_
        rintro e w11 ⟨rfl, hb11⟩
        have hzz11 := hb11.size; (try simp at hzz11)
        obtain ⟨hc11, hf11⟩ := bcell hb11
        have hs11_0 : w1.heap.size < w11.heap.size := by (have hss := hb11.size; first | omega | (simp at hss <;> omega))
        have hs11_1 : w2.heap.size < w11.heap.size := by (have hss := hb11.size; first | omega | (simp at hss <;> omega))
        have hs11_2 : w3.heap.size < w11.heap.size := by (have hss := hb11.size; first | omega | (simp at hss <;> omega))
        have hs11_3 : w4.heap.size < w11.heap.size := by (have hss := hb11.size; first | omega | (simp at hss <;> omega))
        go_wp2_with fail
        go_ret
        exact ⟨rfl, bxt⟩
    · skip
      by_cases h2 : c2 = 0
      · subst h2
        have HRS0 := Lib.hid (show r0 = ⟨zs.map PBox.box, lg, gv⟩ from name_ref HREL0.out h0)
        have e0 : (c0 != 0) = true := by simpa using h0
        clear h0
        have HRS1 := Lib.hid (show r1 = ⟨zs.map PBox.box, lg, gv⟩ from make_ref HREL1.out h1)
        have e1 : (c1 != 0) = true := by simpa using h1
        clear h1
        obtain ⟨ok2, p3⟩ := drop_zero HREL2.out
        have OK2 := Lib.hid ok2
        clear ok2
        go_wp2_with fail
        refine (specSameStore_sq z2 g2 q2 r0.log a2 d2 r0.given zs ba bc lg la lc gv _ (HS2.out.ext bxt) (HS.out.ext bxt) true (Lib.hid (by simp [HZ2.out, HRS0.out]))).mono ?_
        rintro e w8 ⟨rfl, hb8⟩
        have hzz8 := hb8.size; (try simp at hzz8)
        obtain ⟨hc8, hf8⟩ := bcell hb8
        have hs8_0 : w1.heap.size < w8.heap.size := by (have hss := hb8.size; first | omega | (simp at hss <;> omega))
        have hs8_1 : w2.heap.size < w8.heap.size := by (have hss := hb8.size; first | omega | (simp at hss <;> omega))
        have hs8_2 : w3.heap.size < w8.heap.size := by (have hss := hb8.size; first | omega | (simp at hss <;> omega))
        have hs8_3 : w4.heap.size < w8.heap.size := by (have hss := hb8.size; first | omega | (simp at hss <;> omega))
        go_wp2_with fail
        refine (specSameStore_sq z3 g3 q3 r1.log a3 d3 r1.given zs ba bc lg la lc gv _ (HS3.out.ext bxt) (HS.out.ext bxt) true (Lib.hid (by simp [HZ3.out, HRS1.out]))).mono ?_
        rintro e w9 ⟨rfl, hb9⟩
        have hzz9 := hb9.size; (try simp at hzz9)
        obtain ⟨hc9, hf9⟩ := bcell hb9
        have hs9_0 : w1.heap.size < w9.heap.size := by (have hss := hb9.size; first | omega | (simp at hss <;> omega))
        have hs9_1 : w2.heap.size < w9.heap.size := by (have hss := hb9.size; first | omega | (simp at hss <;> omega))
        have hs9_2 : w3.heap.size < w9.heap.size := by (have hss := hb9.size; first | omega | (simp at hss <;> omega))
        have hs9_3 : w4.heap.size < w9.heap.size := by (have hss := hb9.size; first | omega | (simp at hss <;> omega))
        go_wp2_with fail
        refine (specStoreOk_sq z4 g4 q4 r2.log a4 d4 r2.given _ (HS4.out.ext bxt) true (Lib.hid (⟨fun _ => (by rw [HZ4.out]; exact OK2.out), fun _ => rfl⟩))).mono ?_
        rintro e w10 ⟨rfl, hb10⟩
        have hzz10 := hb10.size; (try simp at hzz10)
        obtain ⟨hc10, hf10⟩ := bcell hb10
        have hs10_0 : w1.heap.size < w10.heap.size := by (have hss := hb10.size; first | omega | (simp at hss <;> omega))
        have hs10_1 : w2.heap.size < w10.heap.size := by (have hss := hb10.size; first | omega | (simp at hss <;> omega))
        have hs10_2 : w3.heap.size < w10.heap.size := by (have hss := hb10.size; first | omega | (simp at hss <;> omega))
        have hs10_3 : w4.heap.size < w10.heap.size := by (have hss := hb10.size; first | omega | (simp at hss <;> omega))
        obtain ⟨v11, hv11⟩ : ∃ v : Int, boxNamed x (z4.map PBox.box) = v := ⟨_, rfl⟩
        have Hv11 := Lib.hid hv11
        have kv11 : v11 < 0 := by (rw [← hv11, HZ4.out]; exact p3)
        have dv11 : decide (v11 < 0) = true := decide_eq_true kv11
        clear hv11
        go_wp2_with fail
        refine (implBoxNamed_any z4 g4 q4 x _ (HS4.out.rd.ext bxt) v11 Hv11).mono ?_
        rintro e w11 ⟨rfl, hb11⟩
        have hzz11 := hb11.size; (try simp at hzz11)
        obtain ⟨hc11, hf11⟩ := bcell hb11
        have hs11_0 : w1.heap.size < w11.heap.size := by (have hss := hb11.size; first | omega | (simp at hss <;> omega))
        have hs11_1 : w2.heap.size < w11.heap.size := by (have hss := hb11.size; first | omega | (simp at hss <;> omega))
        have hs11_2 : w3.heap.size < w11.heap.size := by (have hss := hb11.size; first | omega | (simp at hss <;> omega))
        have hs11_3 : w4.heap.size < w11.heap.size := by (have hss := hb11.size; first | omega | (simp at hss <;> omega))
        go_wp2_with fail
        go_ret
        exact ⟨rfl, bxt⟩
      · skip
        have HRS0 := Lib.hid (show r0 = ⟨zs.map PBox.box, lg, gv⟩ from name_ref HREL0.out h0)
        have e0 : (c0 != 0) = true := by simpa using h0
        clear h0
        have HRS1 := Lib.hid (show r1 = ⟨zs.map PBox.box, lg, gv⟩ from make_ref HREL1.out h1)
        have e1 : (c1 != 0) = true := by simpa using h1
        clear h1
        have HRS2 := Lib.hid (show r2 = ⟨zs.map PBox.box, lg, gv⟩ from drop_ref HREL2.out h2)
        have e2 : (c2 != 0) = true := by simpa using h2
        clear h2
        go_wp2_with fail
        refine (specSameStore_sq z2 g2 q2 r0.log a2 d2 r0.given zs ba bc lg la lc gv _ (HS2.out.ext bxt) (HS.out.ext bxt) true (Lib.hid (by simp [HZ2.out, HRS0.out]))).mono ?_
        rintro e w8 ⟨rfl, hb8⟩
        have hzz8 := hb8.size; (try simp at hzz8)
        obtain ⟨hc8, hf8⟩ := bcell hb8
        have hs8_0 : w1.heap.size < w8.heap.size := by (have hss := hb8.size; first | omega | (simp at hss <;> omega))
        have hs8_1 : w2.heap.size < w8.heap.size := by (have hss := hb8.size; first | omega | (simp at hss <;> omega))
        have hs8_2 : w3.heap.size < w8.heap.size := by (have hss := hb8.size; first | omega | (simp at hss <;> omega))
        have hs8_3 : w4.heap.size < w8.heap.size := by (have hss := hb8.size; first | omega | (simp at hss <;> omega))
        go_wp2_with fail
        refine (specSameStore_sq z3 g3 q3 r1.log a3 d3 r1.given zs ba bc lg la lc gv _ (HS3.out.ext bxt) (HS.out.ext bxt) true (Lib.hid (by simp [HZ3.out, HRS1.out]))).mono ?_
        rintro e w9 ⟨rfl, hb9⟩
        have hzz9 := hb9.size; (try simp at hzz9)
        obtain ⟨hc9, hf9⟩ := bcell hb9
        have hs9_0 : w1.heap.size < w9.heap.size := by (have hss := hb9.size; first | omega | (simp at hss <;> omega))
        have hs9_1 : w2.heap.size < w9.heap.size := by (have hss := hb9.size; first | omega | (simp at hss <;> omega))
        have hs9_2 : w3.heap.size < w9.heap.size := by (have hss := hb9.size; first | omega | (simp at hss <;> omega))
        have hs9_3 : w4.heap.size < w9.heap.size := by (have hss := hb9.size; first | omega | (simp at hss <;> omega))
        go_wp2_with fail
        refine (specSameStore_sq z4 g4 q4 r2.log a4 d4 r2.given zs ba bc lg la lc gv _ (HS4.out.ext bxt) (HS.out.ext bxt) true (Lib.hid (by simp [HZ4.out, HRS2.out]))).mono ?_
        rintro e w10 ⟨rfl, hb10⟩
        have hzz10 := hb10.size; (try simp at hzz10)
        obtain ⟨hc10, hf10⟩ := bcell hb10
        have hs10_0 : w1.heap.size < w10.heap.size := by (have hss := hb10.size; first | omega | (simp at hss <;> omega))
        have hs10_1 : w2.heap.size < w10.heap.size := by (have hss := hb10.size; first | omega | (simp at hss <;> omega))
        have hs10_2 : w3.heap.size < w10.heap.size := by (have hss := hb10.size; first | omega | (simp at hss <;> omega))
        have hs10_3 : w4.heap.size < w10.heap.size := by (have hss := hb10.size; first | omega | (simp at hss <;> omega))
        go_wp2_with fail
        go_ret
        exact ⟨rfl, bxt⟩
end Go.Proofs.YtjcnhkmhcfmoeaaGreat
