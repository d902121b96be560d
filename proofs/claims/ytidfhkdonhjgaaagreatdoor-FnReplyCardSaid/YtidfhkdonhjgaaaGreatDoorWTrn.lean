/-
  A drawn text turned a little: l1Turned.
-/
import Derived.Test.YtidfhkdonhjgaaaGreatDoorXDr
import Derived.Test.YtidfhkdonhjgaaaGreatDoorWStr
import Derived.Deep.RegionHeldLaw
import Derived.Deep.DeepCutAuto
import Derived.BigQuiet
import Derived.Deep.RegionLaw
namespace Go.Proofs.YtidfhkdonhjgaaaGreatDoor
open Go.RowKit
set_option linter.unusedVariables false
set_option linter.unusedSimpArgs false
set_option maxRecDepth 100000 in
set_option maxHeartbeats 4000000 in
theorem l1Turned_any (cb n m : Nat) (cs : List Value) (a : Option Addr) (c : Nat) (s : ByteArray) (w : World) (hc : Cur w cb) (R : Rd w a c 1 n cs) (h0 : 0 < n) (hn : n ≤ 1000) (hm : strMax m cs = true) (hcb : ∀ b o, a = some ⟨b, o, none⟩ → b ≠ cb) (hs : s.size ≤ 1000000000) (hmm : m ≤ 1000000) :
    Calls Tryz.prog 44 #[.pointer (some ⟨cb, 0, none⟩), .string s, .slice a n c] w (DrT (s.size + m) cb w) := by
  have hcl := hc.lt
  have HC := Lib.hid hc
  have HR := Lib.hid R
  have HM := Lib.hid hm
  have HCB := Lib.hid hcb
  clear hc R hm hcb
  go_enter Tryz.func44, Tryz.ntmps44
  go_wp2_with fail
  refine (l1Below_any cb ((s.size : Int) + 1) _ (HC.out.ext bxt) (by omega)).mono ?_
  rintro e w1 ⟨x, ⟨x0, x1, -⟩, rfl, hd1⟩
  have x2 := x1 (by omega)
  clear x1
  obtain ⟨p, rfl⟩ := Int.eq_ofNat_of_zero_le x0
  have hp : p ≤ s.size := by omega
  have k1 : (p : Int) ≤ (s.size : Int) := by omega
  have z1 : (s.extract 0 p).size = p := by simp [ByteArray.size_extract]; omega
  have z2 : (s.extract p s.size).size = s.size - p := by simp [ByteArray.size_extract]
  have HR1 := Lib.hid (HR.out.dr hd1 (fun _ => HCB.out))
  clear HR
  go_wp2_with fail
  refine (l1Below_any cb 6 _ (hd1.cur.ext bxt) (by omega)).mono ?_
  rintro e w2 ⟨y, ⟨y0, y1, -⟩, rfl, hd2⟩
  have HD2 := Lib.hid (hd1.trans hd2)
  by_cases e0 : y = 0
  · subst e0
    have HR2 := Lib.hid (HR1.out.dr hd2 (fun _ => HCB.out))
    go_upto_region 4 with fail
    go_region_law ((go_simp; go_at_call 69; refine (l1Pick_any cb n m cs a c _ (HD2.out.cur.ext bxt) (HR2.out.ext bxt) h0 hn HM.out HCB.out).mono ?_; rintro e w3 ⟨v, hv, rfl, hd3⟩; have t1 : ¬ 9223372036854775807 < p + v.size := (by omega); have t2 : ¬ 9223372036854775807 < p + v.size + (s.size - p) := (by omega)))
    all_goals go_wp2_with fail
    all_goals go_ret
    all_goals exact ⟨_, by simp [ByteArray.size_append]; omega, rfl, dtx⟩
  have b0 : (y == 0) = false := by simpa using e0
  by_cases e1 : y = 1
  · subst e1
    go_wp2_with fail
    go_ret
    exact ⟨_, by omega, rfl, dtx⟩
  have b1 : (y == 1) = false := by simpa using e1
  go_wp2_with fail
  go_ret
  exact ⟨_, by omega, rfl, dtx⟩
end Go.Proofs.YtidfhkdonhjgaaaGreatDoor
