/-
  The laws' functions over Seen: equality, size, copy; over slices of it.
-/
import Derived.Test.YtpameapajhbdnaaTy
namespace Go.Proofs.Ytpameapajhbdnaa
open Go.RowKit
set_option linter.unusedVariables false
set_option linter.unusedSimpArgs false

set_option maxHeartbeats 1000000 in
theorem eqSeen_any (a b : DSeen) (w : World) (r : Bool) (Hr : Hid (decide (a = b) = r)) :
    Calls Try.prog 169 #[.agg #[.int .i64 a.uid, .int .i64 a.flags], .agg #[.int .i64 b.uid, .int .i64 b.flags]] w fun e w' => e = .returned (.bool r) ∧ Ext w w' := by
  go_enter Try.func169, Try.ntmps169
  go_wp2
  all_goals go_ret
  all_goals go_tidy
  all_goals refine ⟨ret_bool ?_, bxt⟩
  all_goals rw [← Hr.out]
  all_goals cases a
  all_goals cases b
  all_goals simp_all [str_beq]

set_option maxHeartbeats 1000000 in
theorem eqSeenS_any (x y : List DSeen) (a1 a2 : Option Addr) (c1 c2 : Nat) (w : World) (R1 : Rd w a1 c1 2 x.length (x.flatMap DSeen.cells)) (R2 : Rd w a2 c2 2 y.length (y.flatMap DSeen.cells)) (r : Bool) (Hr : Hid (decide (x = y) = r)) :
    Calls Try.prog 126 #[.slice a1 x.length c1, .slice a2 y.length c2] w fun e w' => e = .returned (.bool r) ∧ Ext w w' := by
  have hlx : x.length ≤ 9223372036854775807 := Nat.le_trans R1.nc R1.cm
  have H1 := Lib.hid R1
  have H2 := Lib.hid R2
  clear R1 R2
  by_cases hne : x.length = y.length
  · rw [← hne]
    have HN := Lib.hid hne
    clear hne
    go_enter Try.func126, Try.ntmps126
    go_wp2_with fail
    go_loopw [5] (fun i wr => ∃ k : Nat, k ≤ x.length ∧ i = .int .i64 k ∧ Hid (∀ j, j < k → x[j]? = y[j]?) ∧ Below w.heap.size w wr) (fun i _ => x.length - (intOf i).toNat)
    case atStart => exact ⟨0, Nat.zero_le _, rfl, by simp [Hid], Below.refl _ _⟩
    case round =>
      obtain ⟨k, hk, rfl, HP, hb⟩ := hrel
      by_cases hlt : k < x.length
      · have hlty : k < y.length := by have := HN.out; omega
        obtain ⟨b1, o1, rfl, hb1, hat1⟩ := H1.out.ptr (by omega)
        obtain ⟨b2, o2, rfl, hb2, hat2⟩ := H2.out.ptr (by omega)
        obtain ⟨hx0, hx1⟩ := DSeen.at (hat1.ext hb1 hb) k hlt
        obtain ⟨hy0, hy1⟩ := DSeen.at (hat2.ext hb2 hb) k hlty
        have hbw : w.heap.size ≤ wr.heap.size := hb.size
        have hb1' : b1 < wr.heap.size := by omega
        have hb2' : b2 < wr.heap.size := by omega
        have HA1 := Lib.hid hat1
        have HA2 := Lib.hid hat2
        clear hat1 hat2
        obtain ⟨d, hd⟩ : ∃ d, decide (x[k] = y[k]) = d := ⟨_, rfl⟩
        have HD := Lib.hid hd
        clear hd
        go_wp2_with fail
        go_region_held3 (fun w' => Below wr.heap.size wr w' ∧ (∀ b o, b < wr.heap.size → w'.cell? ⟨b, o, none⟩ = wr.cell? ⟨b, o, none⟩)) (first | exact sBeg _ | exact sExt (by assumption) (by assumption)) ((go_at_call 169; refine (eqSeen_any x[k] y[k] _ d HD).mono ?_; rintro e w1 ⟨rfl, hq1⟩))
        have hb3 : Below w.heap.size w w1 := Below.ext hb (Below.ext (Below.refl _ _).drew hq1)
        clear hx0 hx1 hy0 hy1
        cases d
        · go_wp2_with fail
          go_ret
          refine ⟨ret_bool ?_, hb3⟩
          rw [← Hr.out]
          simp only [ne_at hlt hlty (of_decide_eq_false HD.out), decide_false]
        · go_wp2_with fail
          go_roundw
          case rel => exact ⟨k + 1, by omega, by go_num, pre_succ HP.out hlt hlty (of_decide_eq_true HD.out), hb3⟩
          case measure => simp [intOf]; omega
      · go_wp2_with fail
        go_ret
        refine ⟨ret_bool ?_, hb⟩
        rw [← Hr.out]
        have hkk : k = x.length := by omega
        subst hkk
        simp only [all_pre HP.out HN.out, decide_true]
  · have hn1 : ((x.length : Int) != (y.length : Int)) = true := by simp; omega
    have HN := Lib.hid hne
    clear hne
    go_enter Try.func126, Try.ntmps126
    go_wp2_with fail
    go_ret
    refine ⟨ret_bool ?_, Below.refl _ _⟩
    rw [← Hr.out]
    have : x ≠ y := fun h => HN.out (by rw [h])
    simp only [this, decide_false]

/-- two structs held against each other -/
theorem eqSeenB (x y : DSeen) (d : Bool) (hd : decide (x = y) = d) (w : World) :
    (Op.equalIn 10000 129 (.agg #[.int .i64 x.uid, .int .i64 x.flags]) (.agg #[.int .i64 y.uid, .int .i64 y.flags])).run Try.prog w = .ok d w := by
  have h1 : Try.prog.underlying 129 = some (.struct (Try.prog.fieldsOf 129)) := by kernel_rfl
  have h2 : Try.prog.stoodInHeld 129 = false := by kernel_rfl
  have h3 := Option.some.inj (h1.symm.trans Try.underlying129)
  simp only [TypeDesc.struct.injEq] at h3
  rw [run_equalIn_agg _ _ _ _ _ h1 h2, h3]
  subst hd
  cases x
  cases y
  simp [Op.eqFields, go_sem]
  repeat' split
  all_goals simp_all
theorem eqSeenG : Try.prog.eqGuardType Try.prog.depth 129 = false := by kernel_rfl

set_option maxRecDepth 100000 in
set_option maxHeartbeats 1000000 in
theorem equalSeenS_any (x y : List DSeen) (a1 a2 : Option Addr) (c1 c2 : Nat) (w : World) (R1 : Rd w a1 c1 2 x.length (x.flatMap DSeen.cells)) (R2 : Rd w a2 c2 2 y.length (y.flatMap DSeen.cells)) (r : Bool) (Hr : Hid (decide (x = y) = r)) :
    Calls Try.prog 112 #[.slice a1 x.length c1, .slice a2 y.length c2] w fun e w' => e = .returned (.bool r) ∧ ∃ n, w' = w.drewN n := by
  have hlx : x.length ≤ 9223372036854775807 := Nat.le_trans R1.nc R1.cm
  have H1 := Lib.hid R1
  have H2 := Lib.hid R2
  clear R1 R2
  have h3 := eqSeenG
  by_cases hne : x.length = y.length
  · rw [← hne]
    have HN := Lib.hid hne
    clear hne
    go_enter Try.func112, Try.ntmps112
    go_wp2_with fail
    go_loopw [13] (fun i wr => ∃ k : Nat, k ≤ x.length ∧ i = .int .i64 k ∧ Hid (∀ j, j < k → x[j]? = y[j]?) ∧ Hid (∃ n, wr = w.drewN n)) (fun i _ => x.length - (intOf i).toNat)
    case atStart => exact ⟨0, Nat.zero_le _, rfl, by simp [Hid], ⟨0, rfl⟩⟩
    case round =>
      obtain ⟨k, hk, rfl, HP, HB⟩ := hrel
      obtain ⟨nq0, hw0⟩ := HB.out
      subst hw0
      by_cases hlt : k < x.length
      · have hlty : k < y.length := by have := HN.out; omega
        obtain ⟨b1, o1, rfl, hb1, hat1⟩ := H1.out.ptr (by omega)
        obtain ⟨b2, o2, rfl, hb2, hat2⟩ := H2.out.ptr (by omega)
        obtain ⟨hx0, hx1⟩ := DSeen.at hat1 k hlt
        obtain ⟨hy0, hy1⟩ := DSeen.at hat2 k hlty
        have HA1 := Lib.hid hat1
        have HA2 := Lib.hid hat2
        clear hat1 hat2
        obtain ⟨d, hd⟩ : ∃ d, decide (x[k] = y[k]) = d := ⟨_, rfl⟩
        have hq := eqSeenB x[k] y[k] d hd
        have HD := Lib.hid hd
        clear hd
        go_wp2_with fail
        go_quiet (fail)
        cases d
        · go_wp2_with fail
          go_ret
          refine ⟨ret_bool ?_, _, World.drewN_drewN ..⟩
          rw [← Hr.out]
          simp only [ne_at hlt hlty (of_decide_eq_false HD.out), decide_false]
        · go_wp2_with fail
          go_roundw
          case rel => exact ⟨k + 1, by omega, by go_num, pre_succ HP.out hlt hlty (of_decide_eq_true HD.out), ⟨_, rfl⟩⟩
          case measure => simp [intOf]; omega
      · go_wp2_with fail
        go_ret
        refine ⟨ret_bool ?_, _, rfl⟩
        rw [← Hr.out]
        have hkk : k = x.length := by omega
        subst hkk
        simp only [all_pre HP.out HN.out, decide_true]
  · have hn1 : ((x.length : Int) != (y.length : Int)) = true := by simp; omega
    have HN := Lib.hid hne
    clear hne
    go_enter Try.func112, Try.ntmps112
    go_wp2_with fail
    go_ret
    refine ⟨ret_bool ?_, 0, rfl⟩
    rw [← Hr.out]
    have : x ≠ y := fun h => HN.out (by rw [h])
    simp only [this, decide_false]

set_option maxHeartbeats 1000000 in
theorem szSeenS_any (l : List DSeen) (a : Option Addr) (c : Nat) (left : Int) (w : World) (h0 : 0 ≤ left) (h1 : left ≤ 1048576) (hl : l.length ≤ 9223372036854775807) :
    Calls Try.prog 123 #[.slice a l.length c, .int .i64 left] w (SzPost left (DSeen.szS l) w) := by
  have hz : DSeen.szS l = l.length := by
    unfold DSeen.szS
    have : (l.map DSeen.sz).sum = 0 := by
      induction l with
      | nil => rfl
      | cons y l ih => simp only [List.map_cons, List.sum_cons, DSeen.sz, ih (by simp at hl; omega)]
    omega
  rw [hz]
  clear hz
  go_enter Try.func123, Try.ntmps123
  go_wp2
  all_goals go_ret
  all_goals go_tidy
  · exact ⟨_, rfl, Or.inl (by omega), Below.refl _ _⟩
  · exact ⟨_, rfl, Or.inr (by omega), Below.refl _ _⟩

set_option maxHeartbeats 1000000 in
theorem toSeen_any (a : DSeen) (w : World) :
    Calls Try.prog 168 #[.agg #[.int .i64 a.uid, .int .i64 a.flags]] w fun e w' => e = .returned (.agg #[.int .i64 a.uid, .int .i64 a.flags]) ∧ Ext w w' := by
  go_enter Try.func168, Try.ntmps168
  go_wp2
  refine bodyPost_ret (v := .agg #[.int .i64 a.uid, .int .i64 a.flags]) (by simp [results, Try.results168, go_sem]) rfl ⟨rfl, ?_⟩
  repeat' (first | with_reducible exact Below.refl _ _ | with_reducible assumption | with_reducible refine Below.alloc ?_ ?_ _ | with_reducible refine Below.setCell ?_ ?_ _ | with_reducible refine Below.drew ?_ | with_reducible refine Below.drewN ?_ _ | with_reducible refine Below.ext ?_ (by assumption) | (simp <;> omega) | omega)

theorem info_Seen : (Try.prog.info? 129).map (fun i => (i.zero, i.size, i.bytes)) = some (some (.agg #[.int .i64 0, .int .i64 0]), 2, 16) := by kernel_rfl

set_option maxHeartbeats 1000000 in
theorem toSeenS_any (l : List DSeen) (a : Option Addr) (c : Nat) (w : World) (R : Rd w a c 2 l.length (l.flatMap DSeen.cells)) (hl : l.length ≤ 1048576) :
    Calls Try.prog 124 #[.slice a l.length c] w fun e w' => ∃ g, e = .returned (.slice (some ⟨g, 0, none⟩) l.length l.length) ∧ w'.ownsRow w.heap.size 129 2 (.slice (some ⟨g, 0, none⟩) l.length l.length) l.length (l.flatMap DSeen.cells) ∧ Ext w w' := by
  obtain ⟨i0, hi, hz0, hz1, hz2⟩ := info_parts info_Seen
  obtain ⟨G, hG⟩ : ∃ G, w.heap.size = G := ⟨_, rfl⟩
  have hmk := run_mk w 58 129 i0 _ 2 16 Try.underlying58 hi hz0 hz1 hz2 l.length (by omega) (by omega)
  have HS := Lib.hid (ToRel.start DSeen.cells_len ⟨0, 0⟩ #[.int .i64 0, .int .i64 0] rfl l w G 129 hG (by omega))
  rw [hG] at hmk
  clear hi hz0 hz1 hz2
  have HG := Lib.hid hG
  clear hG
  have HR := Lib.hid R
  clear R
  go_enter Try.func124, Try.ntmps124
  go_wp2_with fail
  go_loopw [4] (ToRel DSeen.cells 2 ⟨0, 0⟩ l w G 129) (fun i _ => l.length - (intOf i).toNat)
  case atStart => exact HS.out
  case round =>
    obtain ⟨k, hk, rfl, hw, hb⟩ := hrel
    have HW := Lib.hid hw
    clear hw
    by_cases hlt : k < l.length
    · obtain ⟨b, o, rfl, hbs, hat⟩ := HR.out.ptr (by omega)
      obtain ⟨hx0, hx1⟩ := DSeen.at (hat.ext hbs hb) k hlt
      have HAT := Lib.hid hat
      clear hat
      go_wp2_with ((go_at_call 168; refine (toSeen_any l[k] _).mono ?_; rintro e w1 ⟨rfl, hb1⟩; have HW1 := Lib.hid (own_ext HW.out hb1); obtain ⟨⟨v0, hc0⟩, hf0⟩ := own_slot HW1.out (k * 2) (by omega); obtain ⟨⟨v1, hc1⟩, hf1⟩ := own_slot HW1.out (k * 2 + 1) (by omega)))
      go_roundw
      case rel => exact ToRel.next DSeen.cells_len hlt HG.out HW.out hb hb1
      case measure => simp [intOf]; omega
    · go_wp2_with fail
      go_ret
      exact ⟨G, rfl, ToRel.done hk hlt HW.out, hb⟩

end Go.Proofs.Ytpameapajhbdnaa
