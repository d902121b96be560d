/-
  The laws' functions over Seen: equality, size, copy; over slices of it.
-/
import Derived.Test.YtidfhkdonhjgaaaGreatDoorTy
namespace Go.Proofs.YtidfhkdonhjgaaaGreatDoor
open Go.RowKit
set_option linter.unusedVariables false
set_option linter.unusedSimpArgs false

set_option maxHeartbeats 1000000 in
theorem eqSeen_any (a b : DSeen) (w : World) (r : Bool) (Hr : Hid (decide (a = b) = r)) :
    Calls Tryz.prog 94 #[.agg #[.int .i64 a.uid, .int .i64 a.flags], .agg #[.int .i64 b.uid, .int .i64 b.flags]] w fun e w' => e = .returned (.bool r) ∧ Ext w w' := by
  go_enter Tryz.func94, Tryz.ntmps94
  go_wp2
  all_goals go_ret
  all_goals go_tidy
  all_goals refine ⟨ret_bool ?_, bxt⟩
  all_goals rw [← Hr.out]
  all_goals cases a
  all_goals cases b
  all_goals simp_all [str_beq]

set_option maxHeartbeats 1000000 in
theorem eqSeenS_any (x y : List DSeen) (a1 a2 : Option Addr) (c1 c2 : Nat) (w : World) (R1 : Rd w a1 c1 2 x.length (x.flatMap DSeen.cells)) (R2 : Rd w a2 c2 2 y.length (y.flatMap DSeen.cells)) (r : Bool) (Hr : Hid (decide (x = y) = r)) :
    Calls Tryz.prog 51 #[.slice a1 x.length c1, .slice a2 y.length c2] w fun e w' => e = .returned (.bool r) ∧ Ext w w' := by
  have hlx : x.length ≤ 9223372036854775807 := Nat.le_trans R1.nc R1.cm
  have H1 := Lib.hid R1
  have H2 := Lib.hid R2
  clear R1 R2
  by_cases hne : x.length = y.length
  · rw [← hne]
    have HN := Lib.hid hne
    clear hne
    go_enter Tryz.func51, Tryz.ntmps51
    go_wp2_with fail
    go_loopw [5] (fun i wr => ∃ k : Nat, k ≤ x.length ∧ i = .int .i64 k ∧ Hid (∀ j, j < k → x[j]? = y[j]?) ∧ Below w.heap.size w wr) (fun i _ => x.length - (intOf i).toNat)
    case atStart => exact ⟨0, Nat.zero_le _, rfl, by simp [Hid], Below.refl _ _⟩
    case round =>
      obtain ⟨k, hk, rfl, HP, hb⟩ := hrel
      by_cases hlt : k < x.length
      · have hlty : k < y.length := by have := HN.out; omega
        obtain ⟨b1, o1, rfl, hb1, hat1⟩ := H1.out.ptr (by omega)
        obtain ⟨b2, o2, rfl, hb2, hat2⟩ := H2.out.ptr (by omega)
        obtain ⟨hx0, hx1⟩ := DSeen.at (hat1.ext hb1 hb) k hlt
        obtain ⟨hy0, hy1⟩ := DSeen.at (hat2.ext hb2 hb) k hlty
        have hbw : w.heap.size ≤ wr.heap.size := hb.size
        have hb1' : b1 < wr.heap.size := by omega
        have hb2' : b2 < wr.heap.size := by omega
        have HA1 := Lib.hid hat1
        have HA2 := Lib.hid hat2
        clear hat1 hat2
        obtain ⟨d, hd⟩ : ∃ d, decide (x[k] = y[k]) = d := ⟨_, rfl⟩
        have HD := Lib.hid hd
        clear hd
        go_wp2_with fail
        go_region_held3 (fun w' => Below wr.heap.size wr w' ∧ (∀ b o, b < wr.heap.size → w'.cell? ⟨b, o, none⟩ = wr.cell? ⟨b, o, none⟩)) (first | exact sBeg _ | exact sExt (by assumption) (by assumption)) ((go_at_call 94; refine (eqSeen_any x[k] y[k] _ d HD).mono ?_; rintro e w1 ⟨rfl, hq1⟩))
        have hb3 : Below w.heap.size w w1 := Below.ext hb (Below.ext (Below.refl _ _).drew hq1)
        clear hx0 hx1 hy0 hy1
        cases d
        · go_wp2_with fail
          go_ret
          refine ⟨ret_bool ?_, hb3⟩
          rw [← Hr.out]
          simp only [ne_at hlt hlty (of_decide_eq_false HD.out), decide_false]
        · go_wp2_with fail
          go_roundw
          case rel => exact ⟨k + 1, by omega, by go_num, pre_succ HP.out hlt hlty (of_decide_eq_true HD.out), hb3⟩
          case measure => simp [intOf]; omega
      · go_wp2_with fail
        go_ret
        refine ⟨ret_bool ?_, hb⟩
        rw [← Hr.out]
        have hkk : k = x.length := by omega
        subst hkk
        simp only [all_pre HP.out HN.out, decide_true]
  · have hn1 : ((x.length : Int) != (y.length : Int)) = true := by simp; omega
    have HN := Lib.hid hne
    clear hne
    go_enter Tryz.func51, Tryz.ntmps51
    go_wp2_with fail
    go_ret
    refine ⟨ret_bool ?_, Below.refl _ _⟩
    rw [← Hr.out]
    have : x ≠ y := fun h => HN.out (by rw [h])
    simp only [this, decide_false]

/-- two structs held against each other -/
theorem eqSeenB (x y : DSeen) (d : Bool) (hd : decide (x = y) = d) (w : World) :
    (Op.equalIn 10000 89 (.agg #[.int .i64 x.uid, .int .i64 x.flags]) (.agg #[.int .i64 y.uid, .int .i64 y.flags])).run Tryz.prog w = .ok d w := by
  have h1 : Tryz.prog.underlying 89 = some (.struct (Tryz.prog.fieldsOf 89)) := by kernel_rfl
  have h2 : Tryz.prog.stoodInHeld 89 = false := by kernel_rfl
  have h3 := Option.some.inj (h1.symm.trans Tryz.underlying89)
  simp only [TypeDesc.struct.injEq] at h3
  rw [run_equalIn_agg _ _ _ _ _ h1 h2, h3]
  subst hd
  cases x
  cases y
  simp [Op.eqFields, go_sem]
  repeat' split
  all_goals simp_all
theorem eqSeenG : Tryz.prog.eqGuardType Tryz.prog.depth 89 = false := by kernel_rfl

theorem info_Seen : (Tryz.prog.info? 89).map (fun i => (i.zero, i.size, i.bytes)) = some (some (.agg #[.int .i64 0, .int .i64 0]), 2, 16) := by kernel_rfl

end Go.Proofs.YtidfhkdonhjgaaaGreatDoor
