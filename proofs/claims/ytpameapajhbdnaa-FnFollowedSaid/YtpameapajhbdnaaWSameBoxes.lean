/-
  Whether mailboxes are equal: the program's functions and the reference's.
-/
import Derived.Test.YtpameapajhbdnaaXFam
import Derived.Test.YtpameapajhbdnaaXOwn
namespace Go.Proofs.Ytpameapajhbdnaa
open Go.RowKit
set_option linter.unusedVariables false
set_option linter.unusedSimpArgs false

set_option maxRecDepth 100000 in
set_option maxHeartbeats 4000000 in
theorem specSameBox_any (xname : ByteArray) (xvalidity : Int) (xnext : Int) (xmsgs : List DMsg) (xmsgsA : Option Addr) (xmsgsC : Nat) (yname : ByteArray) (yvalidity : Int) (ynext : Int) (ymsgs : List DMsg) (ymsgsA : Option Addr) (ymsgsC : Nat) (w : World) (xmsgsR : Rd w xmsgsA xmsgsC 3 xmsgs.length (xmsgs.flatMap DMsg.cells)) (ymsgsR : Rd w ymsgsA ymsgsC 3 ymsgs.length (ymsgs.flatMap DMsg.cells)) (r : Bool) (Hr : Hid (decide (xname = yname ∧ xvalidity = yvalidity ∧ xnext = ynext ∧ xmsgs = ymsgs) = r)) :
    Calls Try.prog 37 #[.agg #[.string xname, .int .i64 xvalidity, .int .i64 xnext, .slice xmsgsA xmsgs.length xmsgsC], .agg #[.string yname, .int .i64 yvalidity, .int .i64 ynext, .slice ymsgsA ymsgs.length ymsgsC]] w fun e w' => e = .returned (.bool r) ∧ Ext w w' := by
  have hlx : xmsgs.length ≤ 9223372036854775807 := Nat.le_trans xmsgsR.nc xmsgsR.cm
  have h3 := eqMsgG
  have Hxmsgs := Lib.hid xmsgsR
  clear xmsgsR
  have Hymsgs := Lib.hid ymsgsR
  clear ymsgsR
  by_cases hp : xname = yname
  rotate_left
  · have hename : (xname.toList == yname.toList) = false := by rw [str_beq]; simp [hp]
    have hnname : (!(xname.toList == yname.toList)) = true := by rw [str_beq]; simp [hp]
    have HPname := Lib.hid hp
    clear hp
    go_enter Try.func37, Try.ntmps37
    go_wp2_with fail
    go_ret
    refine ⟨ret_bool ?_, bxt⟩
    rw [← Hr.out]
    simp [HPname.out]
  have hename : (xname.toList == yname.toList) = true := by rw [str_beq]; simp [hp]
  have hnname : (!(xname.toList == yname.toList)) = false := by rw [str_beq]; simp [hp]
  have HPname := Lib.hid hp
  clear hp
  by_cases hp : xvalidity = yvalidity
  rotate_left
  · have hevalidity : (xvalidity == yvalidity) = false := by simp [hp]
    have hnvalidity : (xvalidity != yvalidity) = true := by simp [hp]
    have HPvalidity := Lib.hid hp
    clear hp
    go_enter Try.func37, Try.ntmps37
    go_wp2_with fail
    go_ret
    refine ⟨ret_bool ?_, bxt⟩
    rw [← Hr.out]
    simp [HPname.out, HPvalidity.out]
  have hevalidity : (xvalidity == yvalidity) = true := by simp [hp]
  have hnvalidity : (xvalidity != yvalidity) = false := by simp [hp]
  have HPvalidity := Lib.hid hp
  clear hp
  by_cases hp : xnext = ynext
  rotate_left
  · have henext : (xnext == ynext) = false := by simp [hp]
    have hnnext : (xnext != ynext) = true := by simp [hp]
    have HPnext := Lib.hid hp
    clear hp
    go_enter Try.func37, Try.ntmps37
    go_wp2_with fail
    go_ret
    refine ⟨ret_bool ?_, bxt⟩
    rw [← Hr.out]
    simp [HPname.out, HPvalidity.out, HPnext.out]
  have henext : (xnext == ynext) = true := by simp [hp]
  have hnnext : (xnext != ynext) = false := by simp [hp]
  have HPnext := Lib.hid hp
  clear hp
  by_cases hne : xmsgs.length = ymsgs.length
  rotate_left
  · have hn1 : ((xmsgs.length : Int) != (ymsgs.length : Int)) = true := by simp; omega
    have HN : Hid (xmsgs ≠ ymsgs) := fun h => hne (by rw [h])
    clear hne
    go_enter Try.func37, Try.ntmps37
    go_wp2_with fail
    go_ret
    refine ⟨ret_bool ?_, bxt⟩
    rw [← Hr.out]
    simp [HN.out, HPname.out, HPvalidity.out, HPnext.out]
  have hn1 : ((xmsgs.length : Int) != (ymsgs.length : Int)) = false := by simp; omega
  have HN := Lib.hid hne
  clear hne
  go_enter Try.func37, Try.ntmps37
  go_wp2_with fail
  go_loopw [5] (fun i wr => ∃ k : Nat, k ≤ xmsgs.length ∧ i = .int .i64 k ∧ Hid (∀ j, j < k → xmsgs[j]? = ymsgs[j]?) ∧ Hid (∃ n, wr = ((w.alloc (.cells #[.string xname, .int .i64 xvalidity, .int .i64 xnext, .slice xmsgsA xmsgs.length xmsgsC] 52)).alloc (.cells #[.string yname, .int .i64 yvalidity, .int .i64 ynext, .slice ymsgsA ymsgs.length ymsgsC] 52)).drewN n)) (fun i _ => xmsgs.length - (intOf i).toNat)
  case atStart => exact ⟨0, Nat.zero_le _, rfl, by simp [Hid], ⟨0, rfl⟩⟩
  case round =>
    obtain ⟨k, hk, rfl, HP, HB⟩ := hrel
    obtain ⟨nq0, hw0⟩ := HB.out
    subst hw0
    by_cases hlt : k < xmsgs.length
    · have hlty : k < ymsgs.length := by have := HN.out; omega
      have hlty2 : (k : Int) < (ymsgs.length : Int) := by omega
      obtain ⟨b1, o1, rfl, hb1, hat1⟩ := Hxmsgs.out.ptr (by omega)
      obtain ⟨b2, o2, rfl, hb2, hat2⟩ := Hymsgs.out.ptr (by omega)
      obtain ⟨hx0, hx1, hx2⟩ := DMsg.at hat1 k hlt
      obtain ⟨hy0, hy1, hy2⟩ := DMsg.at hat2 k hlty
      have HA1 := Lib.hid hat1
      have HA2 := Lib.hid hat2
      clear hat1 hat2
      have hb1' : b1 < w.heap.size + 1 := by omega
      have hb2' : b2 < w.heap.size + 1 := by omega
      obtain ⟨d, hd⟩ : ∃ d, decide (xmsgs[k] = ymsgs[k]) = d := ⟨_, rfl⟩
      have hq := eqMsgB xmsgs[k] ymsgs[k] d hd
      have HD := Lib.hid hd
      clear hd
      go_wp2_with fail
      go_quiet (fail)
      cases d
      · go_wp2_with fail
        go_ret
        refine ⟨ret_bool ?_, bxt⟩
        rw [← Hr.out]
        simp [ne_at hlt hlty (of_decide_eq_false HD.out), HPname.out, HPvalidity.out, HPnext.out]
      · go_wp2_with fail
        go_roundw
        case rel => exact ⟨k + 1, by omega, by go_num, pre_succ HP.out hlt hlty (of_decide_eq_true HD.out), ⟨_, rfl⟩⟩
        case measure => simp [intOf]; omega
    · go_wp2_with fail
      go_ret
      refine ⟨ret_bool ?_, bxt⟩
      rw [← Hr.out]
      have hkk : k = xmsgs.length := by omega
      subst hkk
      simp [all_pre HP.out HN.out, HPname.out, HPvalidity.out, HPnext.out]

set_option maxRecDepth 100000 in
set_option maxHeartbeats 2000000 in
theorem specSameBoxes_any (x y : List PBox) (a1 a2 : Option Addr) (c1 c2 : Nat) (w : World) (R1 : Rd w a1 c1 4 x.length (x.flatMap PBox.cells)) (M1 : RdM w x) (R2 : Rd w a2 c2 4 y.length (y.flatMap PBox.cells)) (M2 : RdM w y) (r : Bool) (Hr : Hid (decide (x.map PBox.box = y.map PBox.box) = r)) :
    Calls Try.prog 31 #[.slice a1 x.length c1, .slice a2 y.length c2] w fun e w' => e = .returned (.bool r) ∧ Ext w w' := by
  have hlx : x.length ≤ 9223372036854775807 := Nat.le_trans R1.nc R1.cm
  have H1 := Lib.hid R1
  have H2 := Lib.hid R2
  have HM1 := Lib.hid M1
  have HM2 := Lib.hid M2
  clear R1 R2 M1 M2
  by_cases hne : x.length = y.length
  · rw [← hne]
    have HN := Lib.hid hne
    clear hne
    go_enter Try.func31, Try.ntmps31
    go_wp2_with fail
    go_loopw [5] (fun i wr => ∃ k : Nat, k ≤ x.length ∧ i = .int .i64 k ∧ Hid (∀ j, j < k → (x.map PBox.box)[j]? = (y.map PBox.box)[j]?) ∧ Below w.heap.size w wr) (fun i _ => x.length - (intOf i).toNat)
    case atStart => exact ⟨0, Nat.zero_le _, rfl, by simp [Hid], Below.refl _ _⟩
    case round =>
      obtain ⟨k, hk, rfl, HP, hb⟩ := hrel
      by_cases hlt : k < x.length
      · have hlty : k < y.length := by have := HN.out; omega
        have hltyi : (k : Int) < (x.length : Int) := by omega
        obtain ⟨b1, o1, rfl, hb1, hat1⟩ := H1.out.ptr (by omega)
        obtain ⟨b2, o2, rfl, hb2, hat2⟩ := H2.out.ptr (by omega)
        obtain ⟨hx0, hx1, hx2, hx3⟩ := PBox.at (hat1.ext hb1 hb) k hlt
        obtain ⟨hy0, hy1, hy2, hy3⟩ := PBox.at (hat2.ext hb2 hb) k hlty
        have hbw : w.heap.size ≤ wr.heap.size := hb.size
        have hb1' : b1 < wr.heap.size := by omega
        have hb2' : b2 < wr.heap.size := by omega
        have hb1p : b1 < wr.heap.size + 1 := by omega
        have hb2p : b2 < wr.heap.size + 1 := by omega
        have HA1 := Lib.hid hat1
        have HA2 := Lib.hid hat2
        clear hat1 hat2
        obtain ⟨d, hd⟩ : ∃ d, decide (x[k].name = y[k].name ∧ x[k].validity = y[k].validity ∧ x[k].next = y[k].next ∧ x[k].msgs = y[k].msgs) = d := ⟨_, rfl⟩
        have HD := Lib.hid hd
        clear hd
        go_wp2_with fail
        go_region_held3 (fun w' => Below wr.heap.size wr w' ∧ (∀ b o, b < wr.heap.size → w'.cell? ⟨b, o, none⟩ = wr.cell? ⟨b, o, none⟩)) (first | with_reducible exact sBeg _ | with_reducible exact sExt (by assumption) (by assumption)) ((go_at_call 37; refine (specSameBox_any x[k].name x[k].validity x[k].next x[k].msgs _ _ y[k].name y[k].validity y[k].next y[k].msgs _ _ _ ((HM1.out.at k hlt).ext bxt) ((HM2.out.at k hlty).ext bxt) d HD).mono ?_; rintro e w1 ⟨rfl, hq1⟩))
        have hb3 : Below w.heap.size w w1 := Below.ext hb (Below.ext (Below.refl _ _).drew hq1)
        clear hx0 hx1 hx2 hx3 hy0 hy1 hy2 hy3
        have hxm : k < (x.map PBox.box).length := by simpa using hlt
        have hym : k < (y.map PBox.box).length := by simpa using hlty
        cases d
        · have hnb : (x.map PBox.box)[k] ≠ (y.map PBox.box)[k] := fun e => of_decide_eq_false HD.out (by simpa [PBox.box] using e)
          have HNB := Lib.hid hnb
          clear hnb
          go_wp2_with fail
          go_ret
          refine ⟨ret_bool ?_, hb3⟩
          rw [← Hr.out]
          simp only [ne_at hxm hym HNB.out, decide_false]
        · have hnb : (x.map PBox.box)[k] = (y.map PBox.box)[k] := by simpa [PBox.box] using of_decide_eq_true HD.out
          have HNB := Lib.hid hnb
          clear hnb
          go_wp2_with fail
          go_roundw
          case rel => exact ⟨k + 1, by omega, by go_num, pre_succ HP.out hxm hym HNB.out, hb3⟩
          case measure => simp [intOf]; omega
      · go_wp2_with fail
        go_ret
        refine ⟨ret_bool ?_, hb⟩
        rw [← Hr.out]
        have hkk : k = x.length := by omega
        subst hkk
        simp only [all_pre (x := x.map PBox.box) (y := y.map PBox.box) (by simpa using HP.out) (by simpa using HN.out), decide_true]
  · have hn1 : ((x.length : Int) != (y.length : Int)) = true := by simp; omega
    have HN := Lib.hid hne
    clear hne
    go_enter Try.func31, Try.ntmps31
    go_wp2_with fail
    go_ret
    refine ⟨ret_bool ?_, Below.refl _ _⟩
    rw [← Hr.out]
    have : x.map PBox.box ≠ y.map PBox.box := fun h => HN.out (box_len h)
    simp only [this, decide_false]

end Go.Proofs.Ytpameapajhbdnaa
