/-
  The laws' functions over Reply: equality, size, copy; over slices of it.
-/
import Derived.Test.YtadjlfcdjkikgaaDoorTy
namespace Go.Proofs.YtadjlfcdjkikgaaDoor
open Go.RowKit
set_option linter.unusedVariables false
set_option linter.unusedSimpArgs false

set_option maxHeartbeats 1000000 in
theorem eqReply_any (a b : DReply) (w : World) (r : Bool) (Hr : Hid (decide (a = b) = r)) :
    Calls Tryd.prog 37 #[.agg #[.int .i64 a.kind, .int .i64 a.n, .int .i64 a.uid, .int .i64 a.flags, .string a.name, .string a.text], .agg #[.int .i64 b.kind, .int .i64 b.n, .int .i64 b.uid, .int .i64 b.flags, .string b.name, .string b.text]] w fun e w' => e = .returned (.bool r) ∧ Ext w w' := by
  go_enter Tryd.func37, Tryd.ntmps37
  go_wp2
  all_goals go_ret
  all_goals go_tidy
  all_goals refine ⟨ret_bool ?_, bxt⟩
  all_goals rw [← Hr.out]
  all_goals cases a
  all_goals cases b
  all_goals simp_all [str_beq]

set_option maxHeartbeats 1000000 in
theorem eqReplyS_any (x y : List DReply) (a1 a2 : Option Addr) (c1 c2 : Nat) (w : World) (R1 : Rd w a1 c1 6 x.length (x.flatMap DReply.cells)) (R2 : Rd w a2 c2 6 y.length (y.flatMap DReply.cells)) (r : Bool) (Hr : Hid (decide (x = y) = r)) :
    Calls Tryd.prog 20 #[.slice a1 x.length c1, .slice a2 y.length c2] w fun e w' => e = .returned (.bool r) ∧ Ext w w' := by
  have hlx : x.length ≤ 9223372036854775807 := Nat.le_trans R1.nc R1.cm
  have H1 := Lib.hid R1
  have H2 := Lib.hid R2
  clear R1 R2
  by_cases hne : x.length = y.length
  · rw [← hne]
    have HN := Lib.hid hne
    clear hne
    go_enter Tryd.func20, Tryd.ntmps20
    go_wp2_with fail
    go_loopw [5] (fun i wr => ∃ k : Nat, k ≤ x.length ∧ i = .int .i64 k ∧ Hid (∀ j, j < k → x[j]? = y[j]?) ∧ Below w.heap.size w wr) (fun i _ => x.length - (intOf i).toNat)
    case atStart => exact ⟨0, Nat.zero_le _, rfl, by simp [Hid], Below.refl _ _⟩
    case round =>
      obtain ⟨k, hk, rfl, HP, hb⟩ := hrel
      by_cases hlt : k < x.length
      · have hlty : k < y.length := by have := HN.out; omega
        obtain ⟨b1, o1, rfl, hb1, hat1⟩ := H1.out.ptr (by omega)
        obtain ⟨b2, o2, rfl, hb2, hat2⟩ := H2.out.ptr (by omega)
        obtain ⟨hx0, hx1, hx2, hx3, hx4, hx5⟩ := DReply.at (hat1.ext hb1 hb) k hlt
        obtain ⟨hy0, hy1, hy2, hy3, hy4, hy5⟩ := DReply.at (hat2.ext hb2 hb) k hlty
        have hbw : w.heap.size ≤ wr.heap.size := hb.size
        have hb1' : b1 < wr.heap.size := by omega
        have hb2' : b2 < wr.heap.size := by omega
        have HA1 := Lib.hid hat1
        have HA2 := Lib.hid hat2
        clear hat1 hat2
        obtain ⟨d, hd⟩ : ∃ d, decide (x[k] = y[k]) = d := ⟨_, rfl⟩
        have HD := Lib.hid hd
        clear hd
        go_wp2_with fail
        go_region_held3 (fun w' => Below wr.heap.size wr w' ∧ (∀ b o, b < wr.heap.size → w'.cell? ⟨b, o, none⟩ = wr.cell? ⟨b, o, none⟩)) (first | exact sBeg _ | exact sExt (by assumption) (by assumption)) ((go_at_call 37; refine (eqReply_any x[k] y[k] _ d HD).mono ?_; rintro e w1 ⟨rfl, hq1⟩))
        have hb3 : Below w.heap.size w w1 := Below.ext hb (Below.ext (Below.refl _ _).drew hq1)
        clear hx0 hx1 hx2 hx3 hx4 hx5 hy0 hy1 hy2 hy3 hy4 hy5
        cases d
        · go_wp2_with fail
          go_ret
          refine ⟨ret_bool ?_, hb3⟩
          rw [← Hr.out]
          simp only [ne_at hlt hlty (of_decide_eq_false HD.out), decide_false]
        · go_wp2_with fail
          go_roundw
          case rel => exact ⟨k + 1, by omega, by go_num, pre_succ HP.out hlt hlty (of_decide_eq_true HD.out), hb3⟩
          case measure => simp [intOf]; omega
      · go_wp2_with fail
        go_ret
        refine ⟨ret_bool ?_, hb⟩
        rw [← Hr.out]
        have hkk : k = x.length := by omega
        subst hkk
        simp only [all_pre HP.out HN.out, decide_true]
  · have hn1 : ((x.length : Int) != (y.length : Int)) = true := by simp; omega
    have HN := Lib.hid hne
    clear hne
    go_enter Tryd.func20, Tryd.ntmps20
    go_wp2_with fail
    go_ret
    refine ⟨ret_bool ?_, Below.refl _ _⟩
    rw [← Hr.out]
    have : x ≠ y := fun h => HN.out (by rw [h])
    simp only [this, decide_false]

/-- two structs held against each other -/
theorem eqReplyB (x y : DReply) (d : Bool) (hd : decide (x = y) = d) (w : World) :
    (Op.equalIn 10000 31 (.agg #[.int .i64 x.kind, .int .i64 x.n, .int .i64 x.uid, .int .i64 x.flags, .string x.name, .string x.text]) (.agg #[.int .i64 y.kind, .int .i64 y.n, .int .i64 y.uid, .int .i64 y.flags, .string y.name, .string y.text])).run Tryd.prog w = .ok d w := by
  have h1 : Tryd.prog.underlying 31 = some (.struct (Tryd.prog.fieldsOf 31)) := by kernel_rfl
  have h2 : Tryd.prog.stoodInHeld 31 = false := by kernel_rfl
  have h3 := Option.some.inj (h1.symm.trans Tryd.underlying31)
  simp only [TypeDesc.struct.injEq] at h3
  rw [run_equalIn_agg _ _ _ _ _ h1 h2, h3]
  subst hd
  cases x
  cases y
  simp [Op.eqFields, go_sem, str_beq]
  repeat' split
  all_goals simp_all
theorem eqReplyG : Tryd.prog.eqGuardType Tryd.prog.depth 31 = false := by kernel_rfl

set_option maxHeartbeats 1000000 in
theorem szReply_any (a : DReply) (left : Int) (w : World) (h0 : 0 ≤ left) (h1 : left ≤ 1048576) (hname : a.name.size ≤ 9223372036854775807) (htext : a.text.size ≤ 9223372036854775807) :
    Calls Tryd.prog 12 #[.agg #[.int .i64 a.kind, .int .i64 a.n, .int .i64 a.uid, .int .i64 a.flags, .string a.name, .string a.text], .int .i64 left] w (SzPost left a.sz w) := by
  go_enter Tryd.func12, Tryd.ntmps12
  go_wp2
  all_goals go_ret
  all_goals go_tidy
  all_goals refine ⟨_, rfl, ?_, bxt⟩
  all_goals unfold szR DReply.sz
  all_goals first | (exact Or.inl (by omega)) | (exact Or.inr (by omega))

set_option maxHeartbeats 1000000 in
theorem szReplyS_any (l : List DReply) (a : Option Addr) (c : Nat) (left : Int) (w : World) (R : Rd w a c 6 l.length (l.flatMap DReply.cells)) (h0 : 0 ≤ left) (h1 : left ≤ 1048576) (hsname : ∀ y ∈ l, y.name.size ≤ 9223372036854775807) (hstext : ∀ y ∈ l, y.text.size ≤ 9223372036854775807) :
    Calls Tryd.prog 16 #[.slice a l.length c, .int .i64 left] w (SzPost left (DReply.szS l) w) := by
  have hl : l.length ≤ 9223372036854775807 := Nat.le_trans R.nc R.cm
  have HR := Lib.hid R
  clear R
  have HSname := Lib.hid hsname
  clear hsname
  have HStext := Lib.hid hstext
  clear hstext
  by_cases hneg : left - l.length < 0
  · go_enter Tryd.func16, Tryd.ntmps16
    go_wp2_with fail
    go_ret
    exact ⟨_, rfl, Or.inl (by omega), Below.refl _ _⟩
  · go_enter Tryd.func16, Tryd.ntmps16
    go_wp2_with fail
    go_loopw [1, 5] (fun r i wr => ∃ k : Nat, ∃ q : Int, k ≤ l.length ∧ i = .int .i64 k ∧ r = .int .i64 q ∧ 0 ≤ q ∧ q + l.length + ((l.take k).map DReply.sz).sum ≤ left ∧ Below w.heap.size w wr) (fun _ i _ => l.length - (intOf i).toNat)
    case atStart => exact ⟨0, left - l.length, Nat.zero_le _, rfl, rfl, by omega, by simp, Below.refl _ _⟩
    case round =>
      obtain ⟨k, q, hk, rfl, rfl, hq0, hq, hb⟩ := hrel
      by_cases hlt : k < l.length
      · obtain ⟨b, o, rfl, hbs, hat⟩ := HR.out.ptr (by omega)
        obtain ⟨hx0, hx1, hx2, hx3, hx4, hx5⟩ := DReply.at (hat.ext hbs hb) k hlt
        have HA := Lib.hid hat
        clear hat
        have HQ := Lib.hid hq
        have hq1 : q ≤ 1048576 := by omega
        clear hq
        go_wp2_with fail
        refine (szReply_any l[k] q _ hq0 hq1 (HSname.out _ (List.getElem_mem hlt)) (HStext.out _ (List.getElem_mem hlt))).mono ?_
        rintro e w1 ⟨r, rfl, hr, hb1⟩
        rcases hr with hr | ⟨hr0, hr⟩
        · go_wp2_with fail
          go_ret
          exact ⟨_, rfl, Or.inl (by omega), Below.ext hb hb1⟩
        · have HR2 := Lib.hid hr
          clear hr
          go_wp2_with fail
          go_roundw
          case rel => exact ⟨k + 1, r, by omega, by go_num, rfl, hr0, by rw [sum_take_succ _ _ _ hlt]; have := HR2.out; have := HQ.out; omega, Below.ext hb hb1⟩
          case measure => simp [intOf]; omega
      · go_wp2_with fail
        go_ret
        have hkk : k = l.length := by omega
        subst hkk
        rw [List.take_length] at hq
        exact ⟨_, rfl, Or.inr ⟨hq0, by unfold DReply.szS; omega⟩, hb⟩

set_option maxHeartbeats 1000000 in
theorem toReply_any (a : DReply) (w : World) :
    Calls Tryd.prog 14 #[.agg #[.int .i64 a.kind, .int .i64 a.n, .int .i64 a.uid, .int .i64 a.flags, .string a.name, .string a.text]] w fun e w' => e = .returned (.agg #[.int .i64 a.kind, .int .i64 a.n, .int .i64 a.uid, .int .i64 a.flags, .string a.name, .string a.text]) ∧ Ext w w' := by
  go_enter Tryd.func14, Tryd.ntmps14
  go_wp2
  refine bodyPost_ret (v := .agg #[.int .i64 a.kind, .int .i64 a.n, .int .i64 a.uid, .int .i64 a.flags, .string a.name, .string a.text]) (by simp [results, Tryd.results14, go_sem]) rfl ⟨rfl, ?_⟩
  repeat' (first | with_reducible exact Below.refl _ _ | with_reducible assumption | with_reducible refine Below.alloc ?_ ?_ _ | with_reducible refine Below.setCell ?_ ?_ _ | with_reducible refine Below.drew ?_ | with_reducible refine Below.drewN ?_ _ | with_reducible refine Below.ext ?_ (by assumption) | (simp <;> omega) | omega)

theorem info_Reply : (Tryd.prog.info? 31).map (fun i => (i.zero, i.size, i.bytes)) = some (some (.agg #[.int .i64 0, .int .i64 0, .int .i64 0, .int .i64 0, .string ByteArray.empty, .string ByteArray.empty]), 6, 64) := by kernel_rfl

set_option maxHeartbeats 1000000 in
theorem toReplyS_any (l : List DReply) (a : Option Addr) (c : Nat) (w : World) (R : Rd w a c 6 l.length (l.flatMap DReply.cells)) (hl : l.length ≤ 1048576) :
    Calls Tryd.prog 18 #[.slice a l.length c] w fun e w' => ∃ g, e = .returned (.slice (some ⟨g, 0, none⟩) l.length l.length) ∧ w'.ownsRow w.heap.size 31 6 (.slice (some ⟨g, 0, none⟩) l.length l.length) l.length (l.flatMap DReply.cells) ∧ Ext w w' := by
  obtain ⟨i0, hi, hz0, hz1, hz2⟩ := info_parts info_Reply
  obtain ⟨G, hG⟩ : ∃ G, w.heap.size = G := ⟨_, rfl⟩
  have hmk := run_mk w 37 31 i0 _ 6 64 Tryd.underlying37 hi hz0 hz1 hz2 l.length (by omega) (by omega)
  have HS := Lib.hid (ToRel.start DReply.cells_len ⟨0, 0, 0, 0, ByteArray.empty, ByteArray.empty⟩ #[.int .i64 0, .int .i64 0, .int .i64 0, .int .i64 0, .string ByteArray.empty, .string ByteArray.empty] rfl l w G 31 hG (by omega))
  rw [hG] at hmk
  clear hi hz0 hz1 hz2
  have HG := Lib.hid hG
  clear hG
  have HR := Lib.hid R
  clear R
  go_enter Tryd.func18, Tryd.ntmps18
  go_wp2_with fail
  go_loopw [4] (ToRel DReply.cells 6 ⟨0, 0, 0, 0, ByteArray.empty, ByteArray.empty⟩ l w G 31) (fun i _ => l.length - (intOf i).toNat)
  case atStart => exact HS.out
  case round =>
    obtain ⟨k, hk, rfl, hw, hb⟩ := hrel
    have HW := Lib.hid hw
    clear hw
    by_cases hlt : k < l.length
    · obtain ⟨b, o, rfl, hbs, hat⟩ := HR.out.ptr (by omega)
      obtain ⟨hx0, hx1, hx2, hx3, hx4, hx5⟩ := DReply.at (hat.ext hbs hb) k hlt
      have HAT := Lib.hid hat
      clear hat
      go_wp2_with ((go_at_call 14; refine (toReply_any l[k] _).mono ?_; rintro e w1 ⟨rfl, hb1⟩; have HW1 := Lib.hid (own_ext HW.out hb1); obtain ⟨⟨v0, hc0⟩, hf0⟩ := own_slot HW1.out (k * 6) (by omega); obtain ⟨⟨v1, hc1⟩, hf1⟩ := own_slot HW1.out (k * 6 + 1) (by omega); obtain ⟨⟨v2, hc2⟩, hf2⟩ := own_slot HW1.out (k * 6 + 2) (by omega); obtain ⟨⟨v3, hc3⟩, hf3⟩ := own_slot HW1.out (k * 6 + 3) (by omega); obtain ⟨⟨v4, hc4⟩, hf4⟩ := own_slot HW1.out (k * 6 + 4) (by omega); obtain ⟨⟨v5, hc5⟩, hf5⟩ := own_slot HW1.out (k * 6 + 5) (by omega)))
      go_roundw
      case rel => exact ToRel.next DReply.cells_len hlt HG.out HW.out hb hb1
      case measure => simp [intOf]; omega
    · go_wp2_with fail
      go_ret
      exact ⟨G, rfl, ToRel.done hk hlt HW.out, hb⟩

end Go.Proofs.YtadjlfcdjkikgaaDoor
