/-
  The laws' functions over Msg: equality, size, copy; over slices of it.
  The laws' functions over Commit: equality, size, copy; over slices of it.
  The laws' functions over Box: equality, size, copy.
  Mailboxes in a slice: the plain data, the cells, and the laws' functions over them.
  The laws' functions over a store: size, copy, equality.
-/
import Derived.Test.YtpameapajhbdnaaTy
import Derived.Test.YtpameapajhbdnaaXOwn
namespace Go.Proofs.Ytpameapajhbdnaa
open Go.RowKit
set_option linter.unusedVariables false
set_option linter.unusedSimpArgs false

set_option maxHeartbeats 1000000 in
theorem eqMsg_any (a b : DMsg) (w : World) (r : Bool) (Hr : Hid (decide (a = b) = r)) :
    Calls Try.prog 172 #[.agg #[.int .i64 a.uid, .int .i64 a.flags, .string a.text], .agg #[.int .i64 b.uid, .int .i64 b.flags, .string b.text]] w fun e w' => e = .returned (.bool r) ∧ Ext w w' := by
  go_enter Try.func172, Try.ntmps172
  go_wp2
  all_goals go_ret
  all_goals go_tidy
  all_goals refine ⟨ret_bool ?_, bxt⟩
  all_goals rw [← Hr.out]
  all_goals cases a
  all_goals cases b
  all_goals simp_all [str_beq]

set_option maxHeartbeats 1000000 in
theorem eqMsgS_any (x y : List DMsg) (a1 a2 : Option Addr) (c1 c2 : Nat) (w : World) (R1 : Rd w a1 c1 3 x.length (x.flatMap DMsg.cells)) (R2 : Rd w a2 c2 3 y.length (y.flatMap DMsg.cells)) (r : Bool) (Hr : Hid (decide (x = y) = r)) :
    Calls Try.prog 130 #[.slice a1 x.length c1, .slice a2 y.length c2] w fun e w' => e = .returned (.bool r) ∧ Ext w w' := by
  have hlx : x.length ≤ 9223372036854775807 := Nat.le_trans R1.nc R1.cm
  have H1 := Lib.hid R1
  have H2 := Lib.hid R2
  clear R1 R2
  by_cases hne : x.length = y.length
  · rw [← hne]
    have HN := Lib.hid hne
    clear hne
    go_enter Try.func130, Try.ntmps130
    go_wp2_with fail
    go_loopw [5] (fun i wr => ∃ k : Nat, k ≤ x.length ∧ i = .int .i64 k ∧ Hid (∀ j, j < k → x[j]? = y[j]?) ∧ Below w.heap.size w wr) (fun i _ => x.length - (intOf i).toNat)
    case atStart => exact ⟨0, Nat.zero_le _, rfl, by simp [Hid], Below.refl _ _⟩
    case round =>
      obtain ⟨k, hk, rfl, HP, hb⟩ := hrel
      by_cases hlt : k < x.length
      · have hlty : k < y.length := by have := HN.out; omega
        obtain ⟨b1, o1, rfl, hb1, hat1⟩ := H1.out.ptr (by omega)
        obtain ⟨b2, o2, rfl, hb2, hat2⟩ := H2.out.ptr (by omega)
        obtain ⟨hx0, hx1, hx2⟩ := DMsg.at (hat1.ext hb1 hb) k hlt
        obtain ⟨hy0, hy1, hy2⟩ := DMsg.at (hat2.ext hb2 hb) k hlty
        have hbw : w.heap.size ≤ wr.heap.size := hb.size
        have hb1' : b1 < wr.heap.size := by omega
        have hb2' : b2 < wr.heap.size := by omega
        have HA1 := Lib.hid hat1
        have HA2 := Lib.hid hat2
        clear hat1 hat2
        obtain ⟨d, hd⟩ : ∃ d, decide (x[k] = y[k]) = d := ⟨_, rfl⟩
        have HD := Lib.hid hd
        clear hd
        go_wp2_with fail
        go_region_held3 (fun w' => Below wr.heap.size wr w' ∧ (∀ b o, b < wr.heap.size → w'.cell? ⟨b, o, none⟩ = wr.cell? ⟨b, o, none⟩)) (first | exact sBeg _ | exact sExt (by assumption) (by assumption)) ((go_at_call 172; refine (eqMsg_any x[k] y[k] _ d HD).mono ?_; rintro e w1 ⟨rfl, hq1⟩))
        have hb3 : Below w.heap.size w w1 := Below.ext hb (Below.ext (Below.refl _ _).drew hq1)
        clear hx0 hx1 hx2 hy0 hy1 hy2
        cases d
        · go_wp2_with fail
          go_ret
          refine ⟨ret_bool ?_, hb3⟩
          rw [← Hr.out]
          simp only [ne_at hlt hlty (of_decide_eq_false HD.out), decide_false]
        · go_wp2_with fail
          go_roundw
          case rel => exact ⟨k + 1, by omega, by go_num, pre_succ HP.out hlt hlty (of_decide_eq_true HD.out), hb3⟩
          case measure => simp [intOf]; omega
      · go_wp2_with fail
        go_ret
        refine ⟨ret_bool ?_, hb⟩
        rw [← Hr.out]
        have hkk : k = x.length := by omega
        subst hkk
        simp only [all_pre HP.out HN.out, decide_true]
  · have hn1 : ((x.length : Int) != (y.length : Int)) = true := by simp; omega
    have HN := Lib.hid hne
    clear hne
    go_enter Try.func130, Try.ntmps130
    go_wp2_with fail
    go_ret
    refine ⟨ret_bool ?_, Below.refl _ _⟩
    rw [← Hr.out]
    have : x ≠ y := fun h => HN.out (by rw [h])
    simp only [this, decide_false]

/-- two structs held against each other -/
theorem eqMsgB (x y : DMsg) (d : Bool) (hd : decide (x = y) = d) (w : World) :
    (Op.equalIn 10000 111 (.agg #[.int .i64 x.uid, .int .i64 x.flags, .string x.text]) (.agg #[.int .i64 y.uid, .int .i64 y.flags, .string y.text])).run Try.prog w = .ok d w := by
  have h1 : Try.prog.underlying 111 = some (.struct (Try.prog.fieldsOf 111)) := by kernel_rfl
  have h2 : Try.prog.stoodInHeld 111 = false := by kernel_rfl
  have h3 := Option.some.inj (h1.symm.trans Try.underlying111)
  simp only [TypeDesc.struct.injEq] at h3
  rw [run_equalIn_agg _ _ _ _ _ h1 h2, h3]
  subst hd
  cases x
  cases y
  simp [Op.eqFields, go_sem, str_beq]
  repeat' split
  all_goals simp_all
theorem eqMsgG : Try.prog.eqGuardType Try.prog.depth 111 = false := by kernel_rfl

set_option maxHeartbeats 1000000 in
theorem szMsg_any (a : DMsg) (left : Int) (w : World) (h0 : 0 ≤ left) (h1 : left ≤ 1048576) (htext : a.text.size ≤ 9223372036854775807) :
    Calls Try.prog 170 #[.agg #[.int .i64 a.uid, .int .i64 a.flags, .string a.text], .int .i64 left] w (SzPost left a.sz w) := by
  go_enter Try.func170, Try.ntmps170
  go_wp2
  all_goals go_ret
  all_goals go_tidy
  all_goals refine ⟨_, rfl, ?_, bxt⟩
  all_goals unfold szR DMsg.sz
  all_goals first | (exact Or.inl (by omega)) | (exact Or.inr (by omega))

set_option maxHeartbeats 1000000 in
theorem szMsgS_any (l : List DMsg) (a : Option Addr) (c : Nat) (left : Int) (w : World) (R : Rd w a c 3 l.length (l.flatMap DMsg.cells)) (h0 : 0 ≤ left) (h1 : left ≤ 1048576) (hstext : ∀ y ∈ l, y.text.size ≤ 9223372036854775807) :
    Calls Try.prog 128 #[.slice a l.length c, .int .i64 left] w (SzPost left (DMsg.szS l) w) := by
  have hl : l.length ≤ 9223372036854775807 := Nat.le_trans R.nc R.cm
  have HR := Lib.hid R
  clear R
  have HStext := Lib.hid hstext
  clear hstext
  by_cases hneg : left - l.length < 0
  · go_enter Try.func128, Try.ntmps128
    go_wp2_with fail
    go_ret
    exact ⟨_, rfl, Or.inl (by omega), Below.refl _ _⟩
  · go_enter Try.func128, Try.ntmps128
    go_wp2_with fail
    go_loopw [1, 5] (fun r i wr => ∃ k : Nat, ∃ q : Int, k ≤ l.length ∧ i = .int .i64 k ∧ r = .int .i64 q ∧ 0 ≤ q ∧ q + l.length + ((l.take k).map DMsg.sz).sum ≤ left ∧ Below w.heap.size w wr) (fun _ i _ => l.length - (intOf i).toNat)
    case atStart => exact ⟨0, left - l.length, Nat.zero_le _, rfl, rfl, by omega, by simp, Below.refl _ _⟩
    case round =>
      obtain ⟨k, q, hk, rfl, rfl, hq0, hq, hb⟩ := hrel
      by_cases hlt : k < l.length
      · obtain ⟨b, o, rfl, hbs, hat⟩ := HR.out.ptr (by omega)
        obtain ⟨hx0, hx1, hx2⟩ := DMsg.at (hat.ext hbs hb) k hlt
        have HA := Lib.hid hat
        clear hat
        have HQ := Lib.hid hq
        have hq1 : q ≤ 1048576 := by omega
        clear hq
        go_wp2_with fail
        refine (szMsg_any l[k] q _ hq0 hq1 (HStext.out _ (List.getElem_mem hlt))).mono ?_
        rintro e w1 ⟨r, rfl, hr, hb1⟩
        rcases hr with hr | ⟨hr0, hr⟩
        · go_wp2_with fail
          go_ret
          exact ⟨_, rfl, Or.inl (by omega), Below.ext hb hb1⟩
        · have HR2 := Lib.hid hr
          clear hr
          go_wp2_with fail
          go_roundw
          case rel => exact ⟨k + 1, r, by omega, by go_num, rfl, hr0, by rw [sum_take_succ _ _ _ hlt]; have := HR2.out; have := HQ.out; omega, Below.ext hb hb1⟩
          case measure => simp [intOf]; omega
      · go_wp2_with fail
        go_ret
        have hkk : k = l.length := by omega
        subst hkk
        rw [List.take_length] at hq
        exact ⟨_, rfl, Or.inr ⟨hq0, by unfold DMsg.szS; omega⟩, hb⟩

set_option maxHeartbeats 1000000 in
theorem toMsg_any (a : DMsg) (w : World) :
    Calls Try.prog 171 #[.agg #[.int .i64 a.uid, .int .i64 a.flags, .string a.text]] w fun e w' => e = .returned (.agg #[.int .i64 a.uid, .int .i64 a.flags, .string a.text]) ∧ Ext w w' := by
  go_enter Try.func171, Try.ntmps171
  go_wp2
  refine bodyPost_ret (v := .agg #[.int .i64 a.uid, .int .i64 a.flags, .string a.text]) (by simp [results, Try.results171, go_sem]) rfl ⟨rfl, ?_⟩
  repeat' (first | with_reducible exact Below.refl _ _ | with_reducible assumption | with_reducible refine Below.alloc ?_ ?_ _ | with_reducible refine Below.setCell ?_ ?_ _ | with_reducible refine Below.drew ?_ | with_reducible refine Below.drewN ?_ _ | with_reducible refine Below.ext ?_ (by assumption) | (simp <;> omega) | omega)

theorem info_Msg : (Try.prog.info? 111).map (fun i => (i.zero, i.size, i.bytes)) = some (some (.agg #[.int .i64 0, .int .i64 0, .string ByteArray.empty]), 3, 32) := by kernel_rfl

set_option maxHeartbeats 1000000 in
theorem toMsgS_any (l : List DMsg) (a : Option Addr) (c : Nat) (w : World) (R : Rd w a c 3 l.length (l.flatMap DMsg.cells)) (hl : l.length ≤ 1048576) :
    Calls Try.prog 129 #[.slice a l.length c] w fun e w' => ∃ g, e = .returned (.slice (some ⟨g, 0, none⟩) l.length l.length) ∧ w'.ownsRow w.heap.size 111 3 (.slice (some ⟨g, 0, none⟩) l.length l.length) l.length (l.flatMap DMsg.cells) ∧ Ext w w' := by
  obtain ⟨i0, hi, hz0, hz1, hz2⟩ := info_parts info_Msg
  obtain ⟨G, hG⟩ : ∃ G, w.heap.size = G := ⟨_, rfl⟩
  have hmk := run_mk w 50 111 i0 _ 3 32 Try.underlying50 hi hz0 hz1 hz2 l.length (by omega) (by omega)
  have HS := Lib.hid (ToRel.start DMsg.cells_len ⟨0, 0, ByteArray.empty⟩ #[.int .i64 0, .int .i64 0, .string ByteArray.empty] rfl l w G 111 hG (by omega))
  rw [hG] at hmk
  clear hi hz0 hz1 hz2
  have HG := Lib.hid hG
  clear hG
  have HR := Lib.hid R
  clear R
  go_enter Try.func129, Try.ntmps129
  go_wp2_with fail
  go_loopw [4] (ToRel DMsg.cells 3 ⟨0, 0, ByteArray.empty⟩ l w G 111) (fun i _ => l.length - (intOf i).toNat)
  case atStart => exact HS.out
  case round =>
    obtain ⟨k, hk, rfl, hw, hb⟩ := hrel
    have HW := Lib.hid hw
    clear hw
    by_cases hlt : k < l.length
    · obtain ⟨b, o, rfl, hbs, hat⟩ := HR.out.ptr (by omega)
      obtain ⟨hx0, hx1, hx2⟩ := DMsg.at (hat.ext hbs hb) k hlt
      have HAT := Lib.hid hat
      clear hat
      go_wp2_with ((go_at_call 171; refine (toMsg_any l[k] _).mono ?_; rintro e w1 ⟨rfl, hb1⟩; have HW1 := Lib.hid (own_ext HW.out hb1); obtain ⟨⟨v0, hc0⟩, hf0⟩ := own_slot HW1.out (k * 3) (by omega); obtain ⟨⟨v1, hc1⟩, hf1⟩ := own_slot HW1.out (k * 3 + 1) (by omega); obtain ⟨⟨v2, hc2⟩, hf2⟩ := own_slot HW1.out (k * 3 + 2) (by omega)))
      go_roundw
      case rel => exact ToRel.next DMsg.cells_len hlt HG.out HW.out hb hb1
      case measure => simp [intOf]; omega
    · go_wp2_with fail
      go_ret
      exact ⟨G, rfl, ToRel.done hk hlt HW.out, hb⟩

end Go.Proofs.Ytpameapajhbdnaa

namespace Go.Proofs.Ytpameapajhbdnaa
open Go.RowKit
set_option linter.unusedVariables false
set_option linter.unusedSimpArgs false

set_option maxHeartbeats 1000000 in
theorem eqCommit_any (a b : DCommit) (w : World) (r : Bool) (Hr : Hid (decide (a = b) = r)) :
    Calls Try.prog 136 #[.agg #[.int .i64 a.kind, .int .i64 a.validity, .int .i64 a.uid, .int .i64 a.flags, .string a.name, .string a.text], .agg #[.int .i64 b.kind, .int .i64 b.validity, .int .i64 b.uid, .int .i64 b.flags, .string b.name, .string b.text]] w fun e w' => e = .returned (.bool r) ∧ Ext w w' := by
  go_enter Try.func136, Try.ntmps136
  go_wp2
  all_goals go_ret
  all_goals go_tidy
  all_goals refine ⟨ret_bool ?_, bxt⟩
  all_goals rw [← Hr.out]
  all_goals cases a
  all_goals cases b
  all_goals simp_all [str_beq]

set_option maxHeartbeats 1000000 in
theorem eqCommitS_any (x y : List DCommit) (a1 a2 : Option Addr) (c1 c2 : Nat) (w : World) (R1 : Rd w a1 c1 6 x.length (x.flatMap DCommit.cells)) (R2 : Rd w a2 c2 6 y.length (y.flatMap DCommit.cells)) (r : Bool) (Hr : Hid (decide (x = y) = r)) :
    Calls Try.prog 79 #[.slice a1 x.length c1, .slice a2 y.length c2] w fun e w' => e = .returned (.bool r) ∧ Ext w w' := by
  have hlx : x.length ≤ 9223372036854775807 := Nat.le_trans R1.nc R1.cm
  have H1 := Lib.hid R1
  have H2 := Lib.hid R2
  clear R1 R2
  by_cases hne : x.length = y.length
  · rw [← hne]
    have HN := Lib.hid hne
    clear hne
    go_enter Try.func79, Try.ntmps79
    go_wp2_with fail
    go_loopw [5] (fun i wr => ∃ k : Nat, k ≤ x.length ∧ i = .int .i64 k ∧ Hid (∀ j, j < k → x[j]? = y[j]?) ∧ Below w.heap.size w wr) (fun i _ => x.length - (intOf i).toNat)
    case atStart => exact ⟨0, Nat.zero_le _, rfl, by simp [Hid], Below.refl _ _⟩
    case round =>
      obtain ⟨k, hk, rfl, HP, hb⟩ := hrel
      by_cases hlt : k < x.length
      · have hlty : k < y.length := by have := HN.out; omega
        obtain ⟨b1, o1, rfl, hb1, hat1⟩ := H1.out.ptr (by omega)
        obtain ⟨b2, o2, rfl, hb2, hat2⟩ := H2.out.ptr (by omega)
        obtain ⟨hx0, hx1, hx2, hx3, hx4, hx5⟩ := DCommit.at (hat1.ext hb1 hb) k hlt
        obtain ⟨hy0, hy1, hy2, hy3, hy4, hy5⟩ := DCommit.at (hat2.ext hb2 hb) k hlty
        have hbw : w.heap.size ≤ wr.heap.size := hb.size
        have hb1' : b1 < wr.heap.size := by omega
        have hb2' : b2 < wr.heap.size := by omega
        have HA1 := Lib.hid hat1
        have HA2 := Lib.hid hat2
        clear hat1 hat2
        obtain ⟨d, hd⟩ : ∃ d, decide (x[k] = y[k]) = d := ⟨_, rfl⟩
        have HD := Lib.hid hd
        clear hd
        go_wp2_with fail
        go_region_held3 (fun w' => Below wr.heap.size wr w' ∧ (∀ b o, b < wr.heap.size → w'.cell? ⟨b, o, none⟩ = wr.cell? ⟨b, o, none⟩)) (first | exact sBeg _ | exact sExt (by assumption) (by assumption)) ((go_at_call 136; refine (eqCommit_any x[k] y[k] _ d HD).mono ?_; rintro e w1 ⟨rfl, hq1⟩))
        have hb3 : Below w.heap.size w w1 := Below.ext hb (Below.ext (Below.refl _ _).drew hq1)
        clear hx0 hx1 hx2 hx3 hx4 hx5 hy0 hy1 hy2 hy3 hy4 hy5
        cases d
        · go_wp2_with fail
          go_ret
          refine ⟨ret_bool ?_, hb3⟩
          rw [← Hr.out]
          simp only [ne_at hlt hlty (of_decide_eq_false HD.out), decide_false]
        · go_wp2_with fail
          go_roundw
          case rel => exact ⟨k + 1, by omega, by go_num, pre_succ HP.out hlt hlty (of_decide_eq_true HD.out), hb3⟩
          case measure => simp [intOf]; omega
      · go_wp2_with fail
        go_ret
        refine ⟨ret_bool ?_, hb⟩
        rw [← Hr.out]
        have hkk : k = x.length := by omega
        subst hkk
        simp only [all_pre HP.out HN.out, decide_true]
  · have hn1 : ((x.length : Int) != (y.length : Int)) = true := by simp; omega
    have HN := Lib.hid hne
    clear hne
    go_enter Try.func79, Try.ntmps79
    go_wp2_with fail
    go_ret
    refine ⟨ret_bool ?_, Below.refl _ _⟩
    rw [← Hr.out]
    have : x ≠ y := fun h => HN.out (by rw [h])
    simp only [this, decide_false]

/-- two structs held against each other -/
theorem eqCommitB (x y : DCommit) (d : Bool) (hd : decide (x = y) = d) (w : World) :
    (Op.equalIn 10000 38 (.agg #[.int .i64 x.kind, .int .i64 x.validity, .int .i64 x.uid, .int .i64 x.flags, .string x.name, .string x.text]) (.agg #[.int .i64 y.kind, .int .i64 y.validity, .int .i64 y.uid, .int .i64 y.flags, .string y.name, .string y.text])).run Try.prog w = .ok d w := by
  have h1 : Try.prog.underlying 38 = some (.struct (Try.prog.fieldsOf 38)) := by kernel_rfl
  have h2 : Try.prog.stoodInHeld 38 = false := by kernel_rfl
  have h3 := Option.some.inj (h1.symm.trans Try.underlying38)
  simp only [TypeDesc.struct.injEq] at h3
  rw [run_equalIn_agg _ _ _ _ _ h1 h2, h3]
  subst hd
  cases x
  cases y
  simp [Op.eqFields, go_sem, str_beq]
  repeat' split
  all_goals simp_all
theorem eqCommitG : Try.prog.eqGuardType Try.prog.depth 38 = false := by kernel_rfl

set_option maxHeartbeats 1000000 in
theorem szCommit_any (a : DCommit) (left : Int) (w : World) (h0 : 0 ≤ left) (h1 : left ≤ 1048576) (hname : a.name.size ≤ 9223372036854775807) (htext : a.text.size ≤ 9223372036854775807) :
    Calls Try.prog 21 #[.agg #[.int .i64 a.kind, .int .i64 a.validity, .int .i64 a.uid, .int .i64 a.flags, .string a.name, .string a.text], .int .i64 left] w (SzPost left a.sz w) := by
  go_enter Try.func21, Try.ntmps21
  go_wp2
  all_goals go_ret
  all_goals go_tidy
  all_goals refine ⟨_, rfl, ?_, bxt⟩
  all_goals unfold szR DCommit.sz
  all_goals first | (exact Or.inl (by omega)) | (exact Or.inr (by omega))

set_option maxHeartbeats 1000000 in
theorem toCommit_any (a : DCommit) (w : World) :
    Calls Try.prog 24 #[.agg #[.int .i64 a.kind, .int .i64 a.validity, .int .i64 a.uid, .int .i64 a.flags, .string a.name, .string a.text]] w fun e w' => e = .returned (.agg #[.int .i64 a.kind, .int .i64 a.validity, .int .i64 a.uid, .int .i64 a.flags, .string a.name, .string a.text]) ∧ Ext w w' := by
  go_enter Try.func24, Try.ntmps24
  go_wp2
  refine bodyPost_ret (v := .agg #[.int .i64 a.kind, .int .i64 a.validity, .int .i64 a.uid, .int .i64 a.flags, .string a.name, .string a.text]) (by simp [results, Try.results24, go_sem]) rfl ⟨rfl, ?_⟩
  repeat' (first | with_reducible exact Below.refl _ _ | with_reducible assumption | with_reducible refine Below.alloc ?_ ?_ _ | with_reducible refine Below.setCell ?_ ?_ _ | with_reducible refine Below.drew ?_ | with_reducible refine Below.drewN ?_ _ | with_reducible refine Below.ext ?_ (by assumption) | (simp <;> omega) | omega)

theorem info_Commit : (Try.prog.info? 38).map (fun i => (i.zero, i.size, i.bytes)) = some (some (.agg #[.int .i64 0, .int .i64 0, .int .i64 0, .int .i64 0, .string ByteArray.empty, .string ByteArray.empty]), 6, 64) := by kernel_rfl

end Go.Proofs.Ytpameapajhbdnaa

namespace Go.Proofs.Ytpameapajhbdnaa
open Go.RowKit
set_option linter.unusedVariables false
set_option linter.unusedSimpArgs false

set_option maxHeartbeats 1000000 in
theorem eqBox_any (xname : ByteArray) (xvalidity : Int) (xnext : Int) (xmsgs : List DMsg) (xmsgsA : Option Addr) (xmsgsC : Nat) (yname : ByteArray) (yvalidity : Int) (ynext : Int) (ymsgs : List DMsg) (ymsgsA : Option Addr) (ymsgsC : Nat) (w : World) (xmsgsR : Rd w xmsgsA xmsgsC 3 xmsgs.length (xmsgs.flatMap DMsg.cells)) (ymsgsR : Rd w ymsgsA ymsgsC 3 ymsgs.length (ymsgs.flatMap DMsg.cells)) (r : Bool) (Hr : Hid (decide (xname = yname ∧ xvalidity = yvalidity ∧ xnext = ynext ∧ xmsgs = ymsgs) = r)) :
    Calls Try.prog 68 #[.agg #[.string xname, .int .i64 xvalidity, .int .i64 xnext, .slice xmsgsA xmsgs.length xmsgsC], .agg #[.string yname, .int .i64 yvalidity, .int .i64 ynext, .slice ymsgsA ymsgs.length ymsgsC]] w fun e w' => e = .returned (.bool r) ∧ Ext w w' := by
  obtain ⟨d0, hd0⟩ : ∃ d, decide (xmsgs = ymsgs) = d := ⟨_, rfl⟩
  have HD0 := Lib.hid hd0
  clear hd0
  have Hxmsgs := Lib.hid xmsgsR
  clear xmsgsR
  have Hymsgs := Lib.hid ymsgsR
  clear ymsgsR
  go_enter Try.func68, Try.ntmps68
  go_wp2_with (first | (go_at_call 130; refine (eqMsgS_any _ _ _ _ _ _ _ (Hxmsgs.out.ext bxt) (Hymsgs.out.ext bxt) d0 HD0).mono ?_; rintro e w1 ⟨rfl, hb1⟩; obtain ⟨hc1, hf1⟩ := bcell hb1))
  all_goals go_ret
  all_goals go_tidy
  all_goals refine ⟨ret_bool ?_, bxt⟩
  all_goals rw [← Hr.out]
  all_goals (have hdd := HD0.out)
  all_goals clear HD0
  all_goals simp_all [str_beq]

set_option maxHeartbeats 1000000 in
theorem szBox_any (xname : ByteArray) (xvalidity : Int) (xnext : Int) (xmsgs : List DMsg) (xmsgsA : Option Addr) (xmsgsC : Nat) (left : Int) (w : World) (xmsgsR : Rd w xmsgsA xmsgsC 3 xmsgs.length (xmsgs.flatMap DMsg.cells)) (h0 : 0 ≤ left) (h1 : left ≤ 1048576) (hname : xname.size ≤ 9223372036854775807) (hsmsgstext : ∀ y ∈ xmsgs, y.text.size ≤ 9223372036854775807) :
    Calls Try.prog 64 #[.agg #[.string xname, .int .i64 xvalidity, .int .i64 xnext, .slice xmsgsA xmsgs.length xmsgsC], .int .i64 left] w (SzPost left (xname.size + DMsg.szS xmsgs) w) := by
  have Hxmsgs := Lib.hid xmsgsR
  clear xmsgsR
  have HStext := Lib.hid hsmsgstext
  clear hsmsgstext
  go_enter Try.func64, Try.ntmps64
  go_wp2_with ((go_at_call 128; refine (szMsgS_any xmsgs _ _ _ _ (Hxmsgs.out.ext bxt) (by omega) (by omega) HStext.out).mono ?_; rintro e w1 ⟨r, rfl, hr, hb1⟩))
  all_goals go_ret
  all_goals go_tidy
  all_goals refine ⟨_, rfl, ?_, bxt⟩
  all_goals unfold szR at *
  all_goals first | (exact Or.inl (by omega)) | (exact Or.inr (by omega))

set_option maxHeartbeats 1000000 in
theorem toBox_any (xname : ByteArray) (xvalidity : Int) (xnext : Int) (xmsgs : List DMsg) (xmsgsA : Option Addr) (xmsgsC : Nat) (w : World) (xmsgsR : Rd w xmsgsA xmsgsC 3 xmsgs.length (xmsgs.flatMap DMsg.cells)) (hl : xmsgs.length ≤ 1048576) :
    Calls Try.prog 66 #[.agg #[.string xname, .int .i64 xvalidity, .int .i64 xnext, .slice xmsgsA xmsgs.length xmsgsC]] w fun e w' => ∃ g, e = .returned (.agg #[.string xname, .int .i64 xvalidity, .int .i64 xnext, .slice (some ⟨g, 0, none⟩) xmsgs.length xmsgs.length]) ∧ w'.ownsRow w.heap.size 111 3 (.slice (some ⟨g, 0, none⟩) xmsgs.length xmsgs.length) xmsgs.length (xmsgs.flatMap DMsg.cells) ∧ Ext w w' := by
  have Hxmsgs := Lib.hid xmsgsR
  clear xmsgsR
  go_enter Try.func66, Try.ntmps66
  go_wp2_with ((go_at_call 129; refine (toMsgS_any xmsgs _ _ _ (Hxmsgs.out.ext bxt) hl).mono ?_; rintro e w1 ⟨g, rfl, hown, hb1⟩; have HO := Lib.hid (own_le hown (by simp <;> omega : w.heap.size + 3 ≤ _)); clear hown; obtain ⟨hc1, hf1⟩ := bcell hb1; have hsz := hb1.size; simp at hsz))
  refine bodyPost_ret (v := .agg #[.string xname, .int .i64 xvalidity, .int .i64 xnext, .slice (some ⟨g, 0, none⟩) xmsgs.length xmsgs.length]) (by simp [results, Try.results66, go_sem, hc1, hf1]) rfl ⟨g, rfl, ?_, ?_⟩
  · refine own_le ?_ (by omega : w.heap.size ≤ w.heap.size + 3)
    repeat (with_reducible refine ownsRow_setCell_below ?_ (by simp <;> omega) _)
    with_reducible exact HO.out
  · repeat' (first | with_reducible exact Below.refl _ _ | with_reducible assumption | with_reducible refine Below.alloc ?_ ?_ _ | with_reducible refine Below.setCell ?_ ?_ _ | with_reducible refine Below.drew ?_ | with_reducible refine Below.drewN ?_ _ | with_reducible refine Below.ext ?_ (by assumption) | (simp <;> omega) | omega)

end Go.Proofs.Ytpameapajhbdnaa

namespace Go.Proofs.Ytpameapajhbdnaa
open Go.RowKit
set_option linter.unusedVariables false
set_option linter.unusedSimpArgs false

structure DBox where
  name : ByteArray
  validity : Int
  next : Int
  msgs : List DMsg
deriving DecidableEq
/-- a mailbox, and where its messages lie -/
structure PBox where
  name : ByteArray
  validity : Int
  next : Int
  msgs : List DMsg
  ma : Option Addr
  mc : Nat
instance : Inhabited PBox := ⟨⟨ByteArray.empty, 0, 0, [], none, 0⟩⟩
def PBox.cells (p : PBox) : List Value := [.string p.name, .int .i64 p.validity, .int .i64 p.next, .slice p.ma p.msgs.length p.mc]
theorem PBox.cells_len (p : PBox) : p.cells.length = 4 := rfl
def PBox.key (p : PBox) : Value := .slice p.ma p.msgs.length p.mc
def PBox.box (p : PBox) : DBox := ⟨p.name, p.validity, p.next, p.msgs⟩
def PBox.sz (p : PBox) : Nat := p.name.size + DMsg.szS p.msgs
def PBox.szS (l : List PBox) : Nat := l.length + (l.map PBox.sz).sum
theorem PBox.len_le (l : List PBox) : l.length ≤ PBox.szS l := by unfold PBox.szS; omega
theorem PBox.msgs_le (l : List PBox) (k : Nat) (hk : k < l.length) : l[k].msgs.length ≤ PBox.szS l := by
  have h1 := sum_mem PBox.sz l _ (List.getElem_mem hk)
  have h2 := DMsg.len_le l[k].msgs
  unfold PBox.szS
  simp only [PBox.sz] at h1 ⊢
  omega
theorem PBox.at {w : World} {b o : Nat} {l : List PBox} (h : At w b o (l.flatMap PBox.cells)) (k : Nat) (hk : k < l.length) :
      w.cell? ⟨b, o + k * 4, none⟩ = some (.string l[k].name) ∧ w.cell? ⟨b, o + k * 4 + 1, none⟩ = some (.int .i64 l[k].validity) ∧
      w.cell? ⟨b, o + k * 4 + 2, none⟩ = some (.int .i64 l[k].next) ∧ w.cell? ⟨b, o + k * 4 + 3, none⟩ = some (.slice l[k].ma l[k].msgs.length l[k].mc) :=
  ⟨At.el PBox.cells_len h k hk 0 _ rfl, At.el PBox.cells_len h k hk 1 _ rfl, At.el PBox.cells_len h k hk 2 _ rfl, At.el PBox.cells_len h k hk 3 _ rfl⟩
/-- the messages of each mailbox can be read -/
def RdM (w : World) (l : List PBox) : Prop := ∀ y ∈ l, Rd w y.ma y.mc 3 y.msgs.length (y.msgs.flatMap DMsg.cells)
theorem RdM.ext {w w' : World} {l : List PBox} (h : RdM w l) (hb : Below w.heap.size w w') : RdM w' l := fun y hy => (h y hy).ext hb
theorem RdM.at {w : World} {l : List PBox} (h : RdM w l) (k : Nat) (hk : k < l.length) : Rd w l[k].ma l[k].mc 3 l[k].msgs.length (l[k].msgs.flatMap DMsg.cells) := h _ (List.getElem_mem hk)
theorem off_row {w : World} {B E s n G m c : Nat} {v : Value} {xs : List Value} (h : Own w B E s v n xs) (hb : G < B) : Off2 v (.slice (some ⟨G, 0, none⟩) m c) := by
  cases hf : foot v with
  | none => exact Or.inl hf
  | some x =>
    refine Or.inr (fun e => ?_)
    have h1 := (h.lt x hf).1
    rw [hf] at e
    obtain ⟨_, y, hy, rfl⟩ := (foot_slice _ _ _ _).1 e.symm
    cases hy
    exact absurd hb (Nat.not_lt.2 h1)
theorem box_len {l m : List PBox} (h : l.map PBox.box = m.map PBox.box) : l.length = m.length := by
  have := congrArg List.length h
  simpa using this
theorem box_at {l m : List PBox} (h : l.map PBox.box = m.map PBox.box) (k : Nat) (hk : k < l.length) (hk2 : k < m.length) : l[k].box = m[k].box := by
  have := congrArg (fun x => x[k]?) h
  simpa [hk, hk2] using this
theorem box_mem {l m : List PBox} (h : l.map PBox.box = m.map PBox.box) : ∀ y ∈ l, ∃ u ∈ m, u.box = y.box := fun y hy => by
  have h1 : y.box ∈ l.map PBox.box := List.mem_map_of_mem hy
  rw [h] at h1
  obtain ⟨u, hu, e⟩ := List.mem_map.1 h1
  exact ⟨u, hu, e⟩
theorem box_names {l m : List PBox} {n : Nat} (h : l.map PBox.box = m.map PBox.box) (hm : ∀ y ∈ m, y.name.size ≤ n) : ∀ y ∈ l, y.name.size ≤ n := fun y hy => by
  obtain ⟨u, hu, e⟩ := box_mem h y hy
  have e1 : u.name = y.name := congrArg DBox.name e
  rw [← e1]; exact hm u hu
theorem box_texts {l m : List PBox} {n : Nat} (h : l.map PBox.box = m.map PBox.box) (hm : ∀ y ∈ m, ∀ t ∈ y.msgs, t.text.size ≤ n) : ∀ y ∈ l, ∀ t ∈ y.msgs, t.text.size ≤ n := fun y hy => by
  obtain ⟨u, hu, e⟩ := box_mem h y hy
  have e1 : u.msgs = y.msgs := congrArg DBox.msgs e
  rw [← e1]; exact hm u hu
/-- mailboxes of the call's own: the row, and the rows of their messages, no two alike -/
structure OwnBs (w : World) (B E EM : Nat) (a : Option Addr) (c : Nat) (l : List PBox) : Prop where
  row : Own w B E 4 (.slice a l.length c) l.length (l.flatMap PBox.cells)
  msg : ∀ z ∈ l, Own w B EM 3 (.slice z.ma z.msgs.length z.mc) z.msgs.length (z.msgs.flatMap DMsg.cells)
  off : ∀ v ∈ l.map PBox.key, Off2 v (.slice a l.length c)
  apart : (l.map PBox.key).Pairwise Off2
theorem OwnBs.ext {w w' : World} {B E EM c : Nat} {a : Option Addr} {l : List PBox} (h : OwnBs w B E EM a c l) (hb : Below w.heap.size w w') : OwnBs w' B E EM a c l :=
  ⟨h.row.ext hb, fun z hz => (h.msg z hz).ext hb, h.off, h.apart⟩
theorem OwnBs.le {w : World} {B B' E EM c : Nat} {a : Option Addr} {l : List PBox} (h : OwnBs w B E EM a c l) (hb : B' ≤ B) : OwnBs w B' E EM a c l :=
  ⟨h.row.le hb, fun z hz => (h.msg z hz).le hb, h.off, h.apart⟩
theorem OwnBs.rd {w : World} {B E EM c : Nat} {a : Option Addr} {l : List PBox} (h : OwnBs w B E EM a c l) : Rd w a c 4 l.length (l.flatMap PBox.cells) := Rd.of_Own h.row
theorem OwnBs.rdm {w : World} {B E EM c : Nat} {a : Option Addr} {l : List PBox} (h : OwnBs w B E EM a c l) : RdM w l := fun z hz => Rd.of_Own (h.msg z hz)

set_option maxHeartbeats 1000000 in
theorem szBoxS_any (l : List PBox) (a : Option Addr) (c : Nat) (left : Int) (w : World) (R : Rd w a c 4 l.length (l.flatMap PBox.cells)) (M : RdM w l) (h0 : 0 ≤ left) (h1 : left ≤ 1048576) (hsn : ∀ y ∈ l, y.name.size ≤ 9223372036854775807) (hst : ∀ y ∈ l, ∀ m ∈ y.msgs, m.text.size ≤ 9223372036854775807) :
    Calls Try.prog 20 #[.slice a l.length c, .int .i64 left] w (SzPost left (PBox.szS l) w) := by
  have hl : l.length ≤ 9223372036854775807 := Nat.le_trans R.nc R.cm
  have HR := Lib.hid R
  have HM := Lib.hid M
  have HSn := Lib.hid hsn
  have HSt := Lib.hid hst
  clear R M hsn hst
  by_cases hneg : left - l.length < 0
  · go_enter Try.func20, Try.ntmps20
    go_wp2_with fail
    go_ret
    exact ⟨_, rfl, Or.inl (by omega), Below.refl _ _⟩
  · go_enter Try.func20, Try.ntmps20
    go_wp2_with fail
    go_loopw [1, 5] (fun r i wr => ∃ k : Nat, ∃ q : Int, k ≤ l.length ∧ i = .int .i64 k ∧ r = .int .i64 q ∧ 0 ≤ q ∧ q + l.length + ((l.take k).map PBox.sz).sum ≤ left ∧ Below w.heap.size w wr) (fun _ i _ => l.length - (intOf i).toNat)
    case atStart => exact ⟨0, left - l.length, Nat.zero_le _, rfl, rfl, by omega, by simp, Below.refl _ _⟩
    case round =>
      obtain ⟨k, q, hk, rfl, rfl, hq0, hq, hb⟩ := hrel
      by_cases hlt : k < l.length
      · obtain ⟨b, o, rfl, hbs, hat⟩ := HR.out.ptr (by omega)
        obtain ⟨hx0, hx1, hx2, hx3⟩ := PBox.at (hat.ext hbs hb) k hlt
        have HA := Lib.hid hat
        clear hat
        have HQ := Lib.hid hq
        have hq1 : q ≤ 1048576 := by omega
        clear hq
        go_wp2_with fail
        refine (szBox_any l[k].name l[k].validity l[k].next l[k].msgs _ _ q _ ((HM.out.at k hlt).ext bxt) hq0 hq1 (HSn.out _ (List.getElem_mem hlt)) (HSt.out _ (List.getElem_mem hlt))).mono ?_
        rintro e w1 ⟨r, rfl, hr, hb1⟩
        rcases hr with hr | ⟨hr0, hr⟩
        · go_wp2_with fail
          go_ret
          exact ⟨_, rfl, Or.inl (by omega), Below.ext hb hb1⟩
        · have HR2 := Lib.hid hr
          clear hr
          go_wp2_with fail
          go_roundw
          case rel => exact ⟨k + 1, r, by omega, by go_num, rfl, hr0, by rw [sum_take_succ _ _ _ hlt]; have := HR2.out; have := HQ.out; simp only [PBox.sz] at *; omega, Below.ext hb hb1⟩
          case measure => simp [intOf]; omega
      · go_wp2_with fail
        go_ret
        have hkk : k = l.length := by omega
        subst hkk
        rw [List.take_length] at hq
        exact ⟨_, rfl, Or.inr ⟨hq0, by unfold PBox.szS; omega⟩, hb⟩

theorem info_Box : (Try.prog.info? 52).map (fun i => (i.zero, i.size, i.bytes)) = some (some (.agg #[.string ByteArray.empty, .int .i64 0, .int .i64 0, .slice none 0 0]), 4, 56) := by kernel_rfl
/-- the copying loop: after k rounds -/
def BoxRel (E EM : Nat) (l : List PBox) (W : World) (G : Nat) (i : Value) (wr : World) : Prop :=
  ∃ (k : Nat) (zs : List PBox), k ≤ l.length ∧ i = .int .i64 k ∧ Hid (zs.map PBox.box = (l.take k).map PBox.box) ∧ Hid (wr.ownsRow G E 4 (.slice (some ⟨G, 0, none⟩) l.length l.length) l.length ((zs ++ List.replicate (l.length - k) default).flatMap PBox.cells)) ∧
    Hid (∀ z ∈ zs, Own wr (G + 1) EM 3 (.slice z.ma z.msgs.length z.mc) z.msgs.length (z.msgs.flatMap DMsg.cells)) ∧ Hid (zs.Pairwise fun y z => Off2 (.slice y.ma y.msgs.length y.mc) (.slice z.ma z.msgs.length z.mc)) ∧ Below W.heap.size W wr
theorem rep_set {α : Type} (zs : List α) (n : Nat) (x z : α) (hn : zs.length < n) : (zs ++ List.replicate (n - zs.length) x).set zs.length z = (zs ++ [z]) ++ List.replicate (n - (zs.length + 1)) x := by
  obtain ⟨m, hm⟩ : ∃ m, n - zs.length = m + 1 := ⟨n - zs.length - 1, by omega⟩
  rw [hm, show n - (zs.length + 1) = m from by omega, List.replicate_succ]
  simp
theorem BoxRel.next {E EM G k : Nat} {l zs : List PBox} {W wr w1 : World} {z : PBox} (hk : k < l.length) (hG : W.heap.size = G) (hz : zs.map PBox.box = (l.take k).map PBox.box)
    (hrow : wr.ownsRow G E 4 (.slice (some ⟨G, 0, none⟩) l.length l.length) l.length ((zs ++ List.replicate (l.length - k) default).flatMap PBox.cells)) (hm : ∀ z ∈ zs, Own wr (G + 1) EM 3 (.slice z.ma z.msgs.length z.mc) z.msgs.length (z.msgs.flatMap DMsg.cells))
    (hp : zs.Pairwise fun y z => Off2 (.slice y.ma y.msgs.length y.mc) (.slice z.ma z.msgs.length z.mc)) (hb : Below W.heap.size W wr) (hs : G + 1 ≤ wr.heap.size) (hzb : z.box = l[k].box)
    (hzo : Own w1 wr.heap.size EM 3 (.slice z.ma z.msgs.length z.mc) z.msgs.length (z.msgs.flatMap DMsg.cells)) (hb1 : Ext wr w1) :
    BoxRel E EM l W G (.int .i64 ((k : Int) + 1)) (putW w1 G (k * 4) z.cells) := by
  have hzl : zs.length = k := by
    have := congrArg List.length hz
    simp at this; omega
  obtain ⟨h1, g1⟩ := own_put z.cells w1 (k * 4) _ (own_ext hrow hb1)
  rw [putAt_flat PBox.cells_len _ k (by simp; omega)] at h1
  subst hzl
  rw [rep_set zs l.length default z hk] at h1
  refine ⟨zs.length + 1, zs ++ [z], hk, by simp, ?_, h1, ?_, ?_, ?_⟩
  · unfold Hid
    rw [List.map_append, hz, List.take_succ_eq_append_getElem hk, List.map_append]; simp [hzb]
  · intro y hy
    rcases List.mem_append.1 hy with hy | hy
    · exact Own.putW_off ((hm y hy).ne_lt (by omega)) _ _ _ ((hm y hy).ext hb1)
    · obtain rfl : y = z := by simpa using hy
      exact Own.putW_off (hzo.ne_lt (by omega)) _ _ _ (hzo.le (by omega))
  · unfold Hid
    rw [List.pairwise_append]
    refine ⟨hp, by simp, fun y hy u hu => ?_⟩
    obtain rfl : u = z := by simpa using hu
    exact Off2.of (hm y hy) hzo (Nat.le_refl _)
  · exact Below.putW (by omega) _ _ _ (Below.ext hb hb1)

set_option maxHeartbeats 1000000 in
theorem toBoxS_any (l : List PBox) (a : Option Addr) (c : Nat) (w : World) (R : Rd w a c 4 l.length (l.flatMap PBox.cells)) (M : RdM w l) (hl : l.length ≤ 1048576) (hlm : ∀ y ∈ l, y.msgs.length ≤ 1048576) :
    Calls Try.prog 23 #[.slice a l.length c] w fun e w' => ∃ g zs, e = .returned (.slice (some ⟨g, 0, none⟩) zs.length zs.length) ∧ OwnBs w' w.heap.size 52 111 (some ⟨g, 0, none⟩) zs.length zs ∧ zs.map PBox.box = l.map PBox.box ∧ Ext w w' := by
  obtain ⟨i0, hi, hz0, hz1, hz2⟩ := info_parts info_Box
  obtain ⟨G, hG⟩ : ∃ G, w.heap.size = G := ⟨_, rfl⟩
  have hmk := run_mk w 22 52 i0 _ 4 56 Try.underlying22 hi hz0 hz1 hz2 l.length (by omega) (by omega)
  have HS : Hid (BoxRel 52 111 l w G (.int .i64 0) (w.alloc (.cells (madeCells #[.string ByteArray.empty, .int .i64 0, .int .i64 0, .slice none 0 0] (l.length * 4)) 52))) := by
    subst hG
    exact ⟨0, [], Nat.zero_le _, rfl, by simp [Hid], by simpa [Hid] using own_made PBox.cells_len (default : PBox) #[.string ByteArray.empty, .int .i64 0, .int .i64 0, .slice none 0 0] rfl w _ l.length (by omega), by simp [Hid], by simp [Hid], (Below.refl _ _).alloc (Nat.le_refl _) _⟩
  rw [hG] at hmk
  clear hi hz0 hz1 hz2
  have HG := Lib.hid hG
  clear hG
  have HR := Lib.hid R
  have HM := Lib.hid M
  have HL := Lib.hid hlm
  clear R M hlm
  go_enter Try.func23, Try.ntmps23
  go_wp2_with fail
  go_loopw [4] (fun i wr => BoxRel 52 111 l w G i wr ∧ G + 1 ≤ wr.heap.size) (fun i _ => l.length - (intOf i).toNat)
  case atStart => exact ⟨HS.out, by have := HG.out; simp; omega⟩
  case round =>
    obtain ⟨⟨k, zs, hk, rfl, HZ, HW, HO, HP, hb⟩, hsz⟩ := hrel
    by_cases hlt : k < l.length
    · obtain ⟨b, o, rfl, hbs, hat⟩ := HR.out.ptr (by omega)
      obtain ⟨hx0, hx1, hx2, hx3⟩ := PBox.at (hat.ext hbs hb) k hlt
      have HAT := Lib.hid hat
      clear hat
      have hml : l[k].msgs.length ≤ 1048576 := HL.out _ (List.getElem_mem hlt)
      go_wp2_with ((go_at_call 66; refine (toBox_any l[k].name l[k].validity l[k].next l[k].msgs _ _ _ ((HM.out.at k hlt).ext bxt) hml).mono ?_; rintro e w1 ⟨g, rfl, hown, hb1⟩; have HN := Lib.hid (Own.of_row hown); clear hown; have HW1 := Lib.hid (own_ext HW.out hb1); obtain ⟨⟨v0, hc0⟩, hf0⟩ := own_slot HW1.out (k * 4) (by omega); obtain ⟨⟨v1, hc1⟩, hf1⟩ := own_slot HW1.out (k * 4 + 1) (by omega); obtain ⟨⟨v2, hc2⟩, hf2⟩ := own_slot HW1.out (k * 4 + 2) (by omega); obtain ⟨⟨v3, hc3⟩, hf3⟩ := own_slot HW1.out (k * 4 + 3) (by omega)))
      go_roundw
      case rel => exact ⟨BoxRel.next (z := ⟨l[k].name, l[k].validity, l[k].next, l[k].msgs, some ⟨g, 0, none⟩, l[k].msgs.length⟩) hlt HG.out HZ.out HW.out HO.out HP.out hb hsz rfl HN.out hb1, by have := hb1.size; simp; omega⟩
      case measure => simp [intOf]; omega
    · have hkk : k = l.length := by omega
      have HKK := Lib.hid hkk
      clear hkk
      go_wp2_with fail
      go_ret
      have hz : zs.map PBox.box = l.map PBox.box := by (have h := HZ.out; rw [HKK.out, List.take_length] at h; exact h)
      have hzl := box_len hz
      have hrow := HW.out
      rw [HKK.out, Nat.sub_self, List.replicate_zero, List.append_nil] at hrow
      rw [← hzl] at hrow ⊢
      exact ⟨G, zs, rfl, ⟨(Own.of_row hrow).le (by have := HG.out; omega), fun z hz => (HO.out z hz).le (by have := HG.out; omega), fun v hv => by
        obtain ⟨z, hz, rfl⟩ := List.mem_map.1 hv
        exact off_row (HO.out z hz) (by omega), List.pairwise_map.2 HP.out⟩, hz, hb⟩

set_option maxHeartbeats 1000000 in
theorem eqBoxS_any (x y : List PBox) (a1 a2 : Option Addr) (c1 c2 : Nat) (w : World) (R1 : Rd w a1 c1 4 x.length (x.flatMap PBox.cells)) (M1 : RdM w x) (R2 : Rd w a2 c2 4 y.length (y.flatMap PBox.cells)) (M2 : RdM w y) (r : Bool) (Hr : Hid (decide (x.map PBox.box = y.map PBox.box) = r)) :
    Calls Try.prog 26 #[.slice a1 x.length c1, .slice a2 y.length c2] w fun e w' => e = .returned (.bool r) ∧ Ext w w' := by
  have hlx : x.length ≤ 9223372036854775807 := Nat.le_trans R1.nc R1.cm
  have H1 := Lib.hid R1
  have H2 := Lib.hid R2
  have HM1 := Lib.hid M1
  have HM2 := Lib.hid M2
  clear R1 R2 M1 M2
  by_cases hne : x.length = y.length
  · rw [← hne]
    have HN := Lib.hid hne
    clear hne
    go_enter Try.func26, Try.ntmps26
    go_wp2_with fail
    go_loopw [5] (fun i wr => ∃ k : Nat, k ≤ x.length ∧ i = .int .i64 k ∧ Hid (∀ j, j < k → (x.map PBox.box)[j]? = (y.map PBox.box)[j]?) ∧ Below w.heap.size w wr) (fun i _ => x.length - (intOf i).toNat)
    case atStart => exact ⟨0, Nat.zero_le _, rfl, by simp [Hid], Below.refl _ _⟩
    case round =>
      obtain ⟨k, hk, rfl, HP, hb⟩ := hrel
      by_cases hlt : k < x.length
      · have hlty : k < y.length := by have := HN.out; omega
        obtain ⟨b1, o1, rfl, hb1, hat1⟩ := H1.out.ptr (by omega)
        obtain ⟨b2, o2, rfl, hb2, hat2⟩ := H2.out.ptr (by omega)
        obtain ⟨hx0, hx1, hx2, hx3⟩ := PBox.at (hat1.ext hb1 hb) k hlt
        obtain ⟨hy0, hy1, hy2, hy3⟩ := PBox.at (hat2.ext hb2 hb) k hlty
        have hbw : w.heap.size ≤ wr.heap.size := hb.size
        have hb1' : b1 < wr.heap.size := by omega
        have hb2' : b2 < wr.heap.size := by omega
        have HA1 := Lib.hid hat1
        have HA2 := Lib.hid hat2
        clear hat1 hat2
        obtain ⟨d, hd⟩ : ∃ d, decide (x[k].name = y[k].name ∧ x[k].validity = y[k].validity ∧ x[k].next = y[k].next ∧ x[k].msgs = y[k].msgs) = d := ⟨_, rfl⟩
        have HD := Lib.hid hd
        clear hd
        go_wp2_with fail
        go_region_held3 (fun w' => Below wr.heap.size wr w' ∧ (∀ b o, b < wr.heap.size → w'.cell? ⟨b, o, none⟩ = wr.cell? ⟨b, o, none⟩)) (first | with_reducible exact sBeg _ | with_reducible exact sExt (by assumption) (by assumption)) ((go_at_call 68; refine (eqBox_any x[k].name x[k].validity x[k].next x[k].msgs _ _ y[k].name y[k].validity y[k].next y[k].msgs _ _ _ ((HM1.out.at k hlt).ext bxt) ((HM2.out.at k hlty).ext bxt) d HD).mono ?_; rintro e w1 ⟨rfl, hq1⟩))
        have hb3 : Below w.heap.size w w1 := Below.ext hb (Below.ext (Below.refl _ _).drew hq1)
        clear hx0 hx1 hx2 hx3 hy0 hy1 hy2 hy3
        have hxm : k < (x.map PBox.box).length := by simpa using hlt
        have hym : k < (y.map PBox.box).length := by simpa using hlty
        cases d
        · have hnb : (x.map PBox.box)[k] ≠ (y.map PBox.box)[k] := fun e => of_decide_eq_false HD.out (by simpa [PBox.box] using e)
          have HNB := Lib.hid hnb
          clear hnb
          go_wp2_with fail
          go_ret
          refine ⟨ret_bool ?_, hb3⟩
          rw [← Hr.out]
          simp only [ne_at hxm hym HNB.out, decide_false]
        · have hnb : (x.map PBox.box)[k] = (y.map PBox.box)[k] := by simpa [PBox.box] using of_decide_eq_true HD.out
          have HNB := Lib.hid hnb
          clear hnb
          go_wp2_with fail
          go_roundw
          case rel => exact ⟨k + 1, by omega, by go_num, pre_succ HP.out hxm hym HNB.out, hb3⟩
          case measure => simp [intOf]; omega
      · go_wp2_with fail
        go_ret
        refine ⟨ret_bool ?_, hb⟩
        rw [← Hr.out]
        have hkk : k = x.length := by omega
        subst hkk
        simp only [all_pre (x := x.map PBox.box) (y := y.map PBox.box) (by simpa using HP.out) (by simpa using HN.out), decide_true]
  · have hn1 : ((x.length : Int) != (y.length : Int)) = true := by simp; omega
    have HN := Lib.hid hne
    clear hne
    go_enter Try.func26, Try.ntmps26
    go_wp2_with fail
    go_ret
    refine ⟨ret_bool ?_, Below.refl _ _⟩
    rw [← Hr.out]
    have : x.map PBox.box ≠ y.map PBox.box := fun h => HN.out (box_len h)
    simp only [this, decide_false]
end Go.Proofs.Ytpameapajhbdnaa

namespace Go.Proofs.Ytpameapajhbdnaa
open Go.RowKit
set_option linter.unusedVariables false
set_option linter.unusedSimpArgs false


set_option maxHeartbeats 1000000 in
theorem eqStore_any (xb : List PBox) (xbA : Option Addr) (xbC : Nat) (xl : List DCommit) (xlA : Option Addr) (xlC : Nat) (xg : Int) (yb : List PBox) (ybA : Option Addr) (ybC : Nat) (yl : List DCommit) (ylA : Option Addr) (ylC : Nat) (yg : Int) (w : World) (xRB : Rd w xbA xbC 4 xb.length (xb.flatMap PBox.cells)) (xRM : RdM w xb) (xRL : Rd w xlA xlC 6 xl.length (xl.flatMap DCommit.cells)) (yRB : Rd w ybA ybC 4 yb.length (yb.flatMap PBox.cells)) (yRM : RdM w yb) (yRL : Rd w ylA ylC 6 yl.length (yl.flatMap DCommit.cells)) (r : Bool) (Hr : Hid (decide (xb.map PBox.box = yb.map PBox.box ∧ xl = yl ∧ xg = yg) = r)) :
    Calls Try.prog 17 #[.agg #[.slice xbA xb.length xbC, .slice xlA xl.length xlC, .int .i64 xg], .agg #[.slice ybA yb.length ybC, .slice ylA yl.length ylC, .int .i64 yg]] w fun e w' => e = .returned (.bool r) ∧ Ext w w' := by
  have HxRB := Lib.hid xRB
  have HxRM := Lib.hid xRM
  have HxRL := Lib.hid xRL
  clear xRB xRM xRL
  have HyRB := Lib.hid yRB
  have HyRM := Lib.hid yRM
  have HyRL := Lib.hid yRL
  clear yRB yRM yRL
  obtain ⟨d1, hd1⟩ : ∃ d, decide (xb.map PBox.box = yb.map PBox.box) = d := ⟨_, rfl⟩
  have HD1 := Lib.hid hd1
  clear hd1
  obtain ⟨d2, hd2⟩ : ∃ d, decide (xl = yl) = d := ⟨_, rfl⟩
  have HD2 := Lib.hid hd2
  clear hd2
  go_enter Try.func17, Try.ntmps17
  go_wp2_with (first | (go_at_call 26; refine (eqBoxS_any xb yb _ _ _ _ _ (HxRB.out.ext bxt) (HxRM.out.ext bxt) (HyRB.out.ext bxt) (HyRM.out.ext bxt) d1 HD1).mono ?_; rintro e w1 ⟨rfl, hb1⟩; have cl0_0 : w1.cell? ⟨w.heap.size, 0, none⟩ = some (.slice xbA xb.length xbC) := (hb1.cell (p := ⟨w.heap.size, 0, none⟩) smx).trans kpx; have cl0_1 : w1.cell? ⟨w.heap.size, 1, none⟩ = some (.slice xlA xl.length xlC) := (hb1.cell (p := ⟨w.heap.size, 1, none⟩) smx).trans kpx; have cl0_2 : w1.cell? ⟨w.heap.size, 2, none⟩ = some (.int .i64 xg) := (hb1.cell (p := ⟨w.heap.size, 2, none⟩) smx).trans kpx; have sl0 : w.heap.size < w1.heap.size := (by have hss := hb1.size; first | omega | (simp at hss; omega)); have cl1_0 : w1.cell? ⟨w.heap.size + 1, 0, none⟩ = some (.slice ybA yb.length ybC) := (hb1.cell (p := ⟨w.heap.size + 1, 0, none⟩) smx).trans kpx; have cl1_1 : w1.cell? ⟨w.heap.size + 1, 1, none⟩ = some (.slice ylA yl.length ylC) := (hb1.cell (p := ⟨w.heap.size + 1, 1, none⟩) smx).trans kpx; have cl1_2 : w1.cell? ⟨w.heap.size + 1, 2, none⟩ = some (.int .i64 yg) := (hb1.cell (p := ⟨w.heap.size + 1, 2, none⟩) smx).trans kpx; have sl1 : w.heap.size + 1 < w1.heap.size := (by have hss := hb1.size; first | omega | (simp at hss; omega))) | (go_at_call 79; refine (eqCommitS_any xl yl _ _ _ _ _ (HxRL.out.ext bxt) (HyRL.out.ext bxt) d2 HD2).mono ?_; rintro e w2 ⟨rfl, hb2⟩; have cl0_0 : w2.cell? ⟨w.heap.size, 0, none⟩ = some (.slice xbA xb.length xbC) := (hb2.cell (p := ⟨w.heap.size, 0, none⟩) smx).trans kpx; have cl0_1 : w2.cell? ⟨w.heap.size, 1, none⟩ = some (.slice xlA xl.length xlC) := (hb2.cell (p := ⟨w.heap.size, 1, none⟩) smx).trans kpx; have cl0_2 : w2.cell? ⟨w.heap.size, 2, none⟩ = some (.int .i64 xg) := (hb2.cell (p := ⟨w.heap.size, 2, none⟩) smx).trans kpx; have sl0 : w.heap.size < w2.heap.size := (by have hss := hb2.size; first | omega | (simp at hss; omega)); have cl1_0 : w2.cell? ⟨w.heap.size + 1, 0, none⟩ = some (.slice ybA yb.length ybC) := (hb2.cell (p := ⟨w.heap.size + 1, 0, none⟩) smx).trans kpx; have cl1_1 : w2.cell? ⟨w.heap.size + 1, 1, none⟩ = some (.slice ylA yl.length ylC) := (hb2.cell (p := ⟨w.heap.size + 1, 1, none⟩) smx).trans kpx; have cl1_2 : w2.cell? ⟨w.heap.size + 1, 2, none⟩ = some (.int .i64 yg) := (hb2.cell (p := ⟨w.heap.size + 1, 2, none⟩) smx).trans kpx; have sl1 : w.heap.size + 1 < w2.heap.size := (by have hss := hb2.size; first | omega | (simp at hss; omega))))
  all_goals go_ret
  all_goals go_tidy
  all_goals refine ⟨ret_bool ?_, bxt⟩
  all_goals rw [← Hr.out]
  all_goals (have hd1 := HD1.out; have hd2 := HD2.out)
  all_goals clear HD1 HD2
  all_goals simp_all

/-- a store of the call's own -/
structure OwnSt (w : World) (B E EM EC : Nat) (ba : Option Addr) (bc : Nat) (zs : List PBox) (la : Option Addr) (lc : Nat) (l : List DCommit) : Prop where
  box : OwnBs w B E EM ba bc zs
  log : Own w B EC 6 (.slice la l.length lc) l.length (l.flatMap DCommit.cells)
  offr : Off2 (.slice ba zs.length bc) (.slice la l.length lc)
  offm : ∀ z ∈ zs, Off2 (.slice z.ma z.msgs.length z.mc) (.slice la l.length lc)
theorem OwnSt.ext {w w' : World} {B E EM EC : Nat} {ba la : Option Addr} {bc lc : Nat} {zs : List PBox} {l : List DCommit} (h : OwnSt w B E EM EC ba bc zs la lc l) (hb : Below w.heap.size w w') : OwnSt w' B E EM EC ba bc zs la lc l := ⟨h.box.ext hb, h.log.ext hb, h.offr, h.offm⟩
end Go.Proofs.Ytpameapajhbdnaa
