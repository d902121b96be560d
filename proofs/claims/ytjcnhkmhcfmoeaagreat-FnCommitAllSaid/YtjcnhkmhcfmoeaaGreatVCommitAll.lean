/-
  The law FnCommitAll: its walk.
-/
import Derived.Test.YtjcnhkmhcfmoeaaGreatDraw17
import Derived.Test.YtjcnhkmhcfmoeaaGreatWComAll
import Derived.Test.YtjcnhkmhcfmoeaaGreatXOps
import Derived.Test.YtjcnhkmhcfmoeaaGreatXSq
import Derived.Test.YtjcnhkmhcfmoeaaGreatXDr
import Derived.Deep.RegionHeld3
import Derived.BigQuiet
namespace Go.Proofs.YtjcnhkmhcfmoeaaGreat
open Go.RowKit
set_option linter.unusedVariables false
set_option linter.unusedSimpArgs false

theorem implCommitAll_sq (zs : List PBox) (ba : Option Addr) (bc : Nat) (lg : List DCommit) (la : Option Addr) (lc : Nat) (gv : Int) (log : List DCommit) (ka : Option Addr) (kc : Nat) (w : World) (h : Sq w ba bc zs la lc lg) (RK : Rd w ka kc 6 log.length (log.flatMap DCommit.cells)) (hkl : log.length ≤ 20) (gk : SmL log) (hm : MaxLen w) (rs : DStore) (rok : Bool) (H : Hid (CmtAllRel ⟨zs.map PBox.box, lg, gv⟩ log rs rok)) : Calls Tryz.prog 14 #[.agg #[.slice ba zs.length bc, .slice la lg.length lc, .int .i64 gv], .slice ka log.length kc] w (fun e w' => ∃ g q z2 g2 q2, e = .returned (.tuple #[.agg #[.slice g z2.length q, .slice g2 rs.log.length q2, .int .i64 rs.given], .bool rok]) ∧ OwnSt w' w.heap.size 49 66 41 g q z2 g2 q2 rs.log ∧ z2.map PBox.box = rs.boxes ∧ Ext w w') :=
  implCommitAll_law zs ba bc lg la lc gv log ka kc w h.rd h.rdm h.rl (by have := h.len; omega) (fun y hy => by have := (h.sm y hy).2.1; omega) (by have := h.ll; omega) (fun y hy => by have := (h.sm y hy).1; omega) (fun y hy t ht => by have := (h.sm y hy).2.2 t ht; omega) (fun y hy => by have := h.sl y hy; exact ⟨by omega, by omega⟩) RK (by omega) (fun y hy => by have := gk y hy; exact ⟨by omega, by omega⟩) hm rs rok H
theorem specCommitAll_sq (zs : List PBox) (ba : Option Addr) (bc : Nat) (lg : List DCommit) (la : Option Addr) (lc : Nat) (gv : Int) (log : List DCommit) (ka : Option Addr) (kc : Nat) (w : World) (h : Sq w ba bc zs la lc lg) (RK : Rd w ka kc 6 log.length (log.flatMap DCommit.cells)) (hkl : log.length ≤ 20) (gk : SmL log) (rs : DStore) (rok : Bool) (H : Hid (CmtAllRel ⟨zs.map PBox.box, lg, gv⟩ log rs rok)) : Calls Tryz.prog 15 #[.agg #[.slice ba zs.length bc, .slice la lg.length lc, .int .i64 gv], .slice ka log.length kc] w (fun e w' => ∃ g q z2 g2 q2, e = .returned (.tuple #[.agg #[.slice g z2.length q, .slice g2 rs.log.length q2, .int .i64 rs.given], .bool rok]) ∧ OwnSt w' w.heap.size 49 66 41 g q z2 g2 q2 rs.log ∧ z2.map PBox.box = rs.boxes ∧ Ext w w') :=
  specCommitAll_law zs ba bc lg la lc gv log ka kc w h.rd h.rdm h.rl (by have := h.len; omega) (fun y hy => by have := (h.sm y hy).2.1; omega) (by have := h.ll; omega) (fun y hy => by have := (h.sm y hy).1; omega) (fun y hy t ht => by have := (h.sm y hy).2.2 t ht; omega) (fun y hy => by have := h.sl y hy; exact ⟨by omega, by omega⟩) RK (by omega) (fun y hy => by have := gk y hy; exact ⟨by omega, by omega⟩) rs rok H
set_option maxRecDepth 100000 in
set_option maxHeartbeats 4000000 in
theorem fnCommitAll_walk (l : List Int) (a : Option Addr) (c : Nat) (w : World) : MaxLen w → Rd w a c 1 l.length (l.flatMap byteCells) → (∀ y ∈ l, 0 ≤ y ∧ y ≤ 255) →
    Calls Tryz.prog 3 #[.slice a l.length c] w fun e w' => e = .returned (.bool true) ∧ Below w.heap.size w w' := by
  intro hmx R hb
  have hln : l.length ≤ 9223372036854775807 := Nat.le_trans R.nc R.cm
  have HMX := Lib.hid hmx
  have HR := Lib.hid R
  have HB := Lib.hid hb
  clear R hb hmx
  obtain ⟨d, hd⟩ := boolOf (1048576 < l.length)
  have HDB := Lib.hid hd
  clear hd
  go_enter Tryz.func3, Tryz.ntmps3
  go_wp2_with fail
  refine (big_any l.length a c _ hln d HDB).mono ?_
  rintro e w1 ⟨rfl, rfl⟩
  cases d
  rotate_left
  · go_wp2_with fail
    go_ret
    exact ⟨rfl, bxt⟩
  have hl : l.length ≤ 1048576 := by have := no_of HDB.out; omega
  go_wp2_with fail
  refine (drawCommitAll_any l a c _ (HR.out.ext bxt) HB.out hl).mono ?_
  rintro e w1 ⟨ba, bc, zs, la, lc, lg, gv, ka, kc, log, hkl, hks, hzl, hsm, hll, hsl, rfl, ho, hok, hb1⟩
  have HS := Lib.hid (ho.sq hzl hsm hll hsl)
  have HK := Lib.hid (Rd.of_Own hok)
  have HKS := Lib.hid hks
  clear hok hks
  clear ho hsm hsl
  have hzz1 := hb1.size; (try simp at hzz1)
  obtain ⟨hc1, hf1⟩ := bcell hb1
  obtain ⟨rs, rok, hrel⟩ := cmtAllRel_ex ⟨zs.map PBox.box, lg, gv⟩ log
  have HREL := Lib.hid hrel
  clear hrel
  cases rok
  · skip
    have HRS := Lib.hid (show rs = ⟨zs.map PBox.box, lg, gv⟩ from by obtain ⟨t, -, h⟩ := HREL.out; exact h)
    go_wp2_with fail
    refine (implCommitAll_sq zs ba bc lg la lc gv log ka kc _ (HS.out.ext bxt) (HK.out.ext bxt) (by omega) HKS.out (HMX.out.ext bxt) rs false HREL).mono ?_
    rintro e w2 ⟨g2, q2, z2, a2, d2, rfl, ho2, hz2, hb2⟩
    have HS2 := Lib.hid (ho2.sq hz2 HS.out (gv := gv) (Or.inl HRS.out))
    have HZ2 := Lib.hid hz2
    clear ho2 hz2
    have hzz2 := hb2.size; (try simp at hzz2)
    obtain ⟨hc2, hf2⟩ := bcell hb2
    have hs2_0 : w1.heap.size < w2.heap.size := by (have hss := hb2.size; first | omega | (simp at hss <;> omega))
    go_wp2_with fail
    refine (specCommitAll_sq zs ba bc lg la lc gv log ka kc _ (HS.out.ext bxt) (HK.out.ext bxt) (by omega) HKS.out rs false HREL).mono ?_
    rintro e w3 ⟨g3, q3, z3, a3, d3, rfl, ho3, hz3, hb3⟩
    have HS3 := Lib.hid (ho3.sq hz3 HS.out (gv := gv) (Or.inl HRS.out))
    have HZ3 := Lib.hid hz3
    clear ho3 hz3
    have hzz3 := hb3.size; (try simp at hzz3)
    obtain ⟨hc3, hf3⟩ := bcell hb3
    have hs3_0 : w1.heap.size < w3.heap.size := by (have hss := hb3.size; first | omega | (simp at hss <;> omega))
    have hs3_1 : w2.heap.size < w3.heap.size := by (have hss := hb3.size; first | omega | (simp at hss <;> omega))
    go_wp2_with fail
    refine (specSameStore_sq z2 g2 q2 rs.log a2 d2 rs.given zs ba bc lg la lc gv _ (HS2.out.ext bxt) (HS.out.ext bxt) true (Lib.hid (by simp [HZ2.out, HRS.out]))).mono ?_
    rintro e w4 ⟨rfl, hb4⟩
    have hzz4 := hb4.size; (try simp at hzz4)
    obtain ⟨hc4, hf4⟩ := bcell hb4
    have hs4_0 : w1.heap.size < w4.heap.size := by (have hss := hb4.size; first | omega | (simp at hss <;> omega))
    have hs4_1 : w2.heap.size < w4.heap.size := by (have hss := hb4.size; first | omega | (simp at hss <;> omega))
    go_wp2_with fail
    go_ret
    exact ⟨rfl, bxt⟩
  · skip
    go_wp2_with fail
    refine (implCommitAll_sq zs ba bc lg la lc gv log ka kc _ (HS.out.ext bxt) (HK.out.ext bxt) (by omega) HKS.out (HMX.out.ext bxt) rs true HREL).mono ?_
    rintro e w2 ⟨g2, q2, z2, a2, d2, rfl, ho2, hz2, hb2⟩
    clear ho2 hz2
    have hzz2 := hb2.size; (try simp at hzz2)
    obtain ⟨hc2, hf2⟩ := bcell hb2
    have hs2_0 : w1.heap.size < w2.heap.size := by (have hss := hb2.size; first | omega | (simp at hss <;> omega))
    go_wp2_with fail
    refine (specCommitAll_sq zs ba bc lg la lc gv log ka kc _ (HS.out.ext bxt) (HK.out.ext bxt) (by omega) HKS.out rs true HREL).mono ?_
    rintro e w3 ⟨g3, q3, z3, a3, d3, rfl, ho3, hz3, hb3⟩
    clear ho3 hz3
    have hzz3 := hb3.size; (try simp at hzz3)
    obtain ⟨hc3, hf3⟩ := bcell hb3
    have hs3_0 : w1.heap.size < w3.heap.size := by (have hss := hb3.size; first | omega | (simp at hss <;> omega))
    have hs3_1 : w2.heap.size < w3.heap.size := by (have hss := hb3.size; first | omega | (simp at hss <;> omega))
    have hle : rs.log.length = lg.length + log.length := by (obtain ⟨t, h1, h2⟩ := HREL.out; have h := cmtAll_len log ⟨zs.map PBox.box, lg, gv⟩ (by rw [h1]); rw [h1] at h; rw [h2]; exact h)
    have hle2 : ((rs.log.length : Int) == (lg.length : Int) + (log.length : Int)) = true := by simp; omega
    have hw1 : IntKind.i64.wrap ((lg.length : Int) + (log.length : Int)) = (lg.length : Int) + (log.length : Int) := IntWalk.i64_in _ (by omega)
    have hle3 : (rs.log.length == lg.length + log.length) = true := by simp; omega
    have HLE := Lib.hid hle
    clear hle
    go_wp2_with fail
    go_ret
    exact ⟨ret_bool (by simp [HLE.out]), bxt⟩
end Go.Proofs.YtjcnhkmhcfmoeaaGreat
