/-
  Whether two values of Client are equal: the program's function and the reference's.
-/
import Derived.Test.YtpameapajhbdnaaK00
namespace Go.Proofs.Ytpameapajhbdnaa
open Go.RowKit
set_option linter.unusedVariables false
set_option linter.unusedSimpArgs false

set_option maxHeartbeats 4000000 in
theorem implSameClient_any (xactive : Bool) (xname : ByteArray) (xvalidity : Int) (xsize : Int) (xknown : List DSeen) (xknownA : Option Addr) (xknownC : Nat) (xbad : Bool) (yactive : Bool) (yname : ByteArray) (yvalidity : Int) (ysize : Int) (yknown : List DSeen) (yknownA : Option Addr) (yknownC : Nat) (ybad : Bool) (w : World) (xknownR : Rd w xknownA xknownC 2 xknown.length (xknown.flatMap DSeen.cells)) (yknownR : Rd w yknownA yknownC 2 yknown.length (yknown.flatMap DSeen.cells)) (r : Bool) (Hr : Hid (decide (xactive = yactive ∧ xname = yname ∧ xvalidity = yvalidity ∧ xsize = ysize ∧ xknown = yknown ∧ xbad = ybad) = r)) :
    Calls Try.prog 46 #[.agg #[.bool xactive, .string xname, .int .i64 xvalidity, .int .i64 xsize, .slice xknownA xknown.length xknownC, .bool xbad], .agg #[.bool yactive, .string yname, .int .i64 yvalidity, .int .i64 ysize, .slice yknownA yknown.length yknownC, .bool ybad]] w fun e w' => e = .returned (.bool r) ∧ Ext w w' := by
  have Hxknown := Lib.hid xknownR
  clear xknownR
  have Hyknown := Lib.hid yknownR
  clear yknownR
  obtain ⟨d, hd⟩ : ∃ d, decide (xknown = yknown) = d := ⟨_, rfl⟩
  have HD := Lib.hid hd
  clear hd
  by_cases hp : xactive = yactive
  rotate_left
  · have heactive : (xactive == yactive) = false := by simp [hp]
    have hnactive : (xactive != yactive) = true := by simp [hp]
    have HPactive := Lib.hid hp
    clear hp
    go_enter Try.func46, Try.ntmps46
    go_wp2_with ((go_at_call 112; refine (equalSeenS_any _ _ _ _ _ _ _ (Hxknown.out.ext bxt) (Hyknown.out.ext bxt) d HD).mono ?_; rintro e w1 ⟨rfl, nq, rfl⟩))
    go_ret
    refine ⟨ret_bool ?_, bxt⟩
    rw [← Hr.out]
    simp [HPactive.out]
  have heactive : (xactive == yactive) = true := by simp [hp]
  have hnactive : (xactive != yactive) = false := by simp [hp]
  have HPactive := Lib.hid hp
  clear hp
  by_cases hp : xname = yname
  rotate_left
  · have hename : (xname.toList == yname.toList) = false := by rw [str_beq]; simp [hp]
    have hnname : (!(xname.toList == yname.toList)) = true := by rw [str_beq]; simp [hp]
    have HPname := Lib.hid hp
    clear hp
    go_enter Try.func46, Try.ntmps46
    go_wp2_with ((go_at_call 112; refine (equalSeenS_any _ _ _ _ _ _ _ (Hxknown.out.ext bxt) (Hyknown.out.ext bxt) d HD).mono ?_; rintro e w1 ⟨rfl, nq, rfl⟩))
    go_ret
    refine ⟨ret_bool ?_, bxt⟩
    rw [← Hr.out]
    simp [HPactive.out, HPname.out]
  have hename : (xname.toList == yname.toList) = true := by rw [str_beq]; simp [hp]
  have hnname : (!(xname.toList == yname.toList)) = false := by rw [str_beq]; simp [hp]
  have HPname := Lib.hid hp
  clear hp
  by_cases hp : xvalidity = yvalidity
  rotate_left
  · have hevalidity : (xvalidity == yvalidity) = false := by simp [hp]
    have hnvalidity : (xvalidity != yvalidity) = true := by simp [hp]
    have HPvalidity := Lib.hid hp
    clear hp
    go_enter Try.func46, Try.ntmps46
    go_wp2_with ((go_at_call 112; refine (equalSeenS_any _ _ _ _ _ _ _ (Hxknown.out.ext bxt) (Hyknown.out.ext bxt) d HD).mono ?_; rintro e w1 ⟨rfl, nq, rfl⟩))
    go_ret
    refine ⟨ret_bool ?_, bxt⟩
    rw [← Hr.out]
    simp [HPactive.out, HPname.out, HPvalidity.out]
  have hevalidity : (xvalidity == yvalidity) = true := by simp [hp]
  have hnvalidity : (xvalidity != yvalidity) = false := by simp [hp]
  have HPvalidity := Lib.hid hp
  clear hp
  by_cases hp : xsize = ysize
  rotate_left
  · have hesize : (xsize == ysize) = false := by simp [hp]
    have hnsize : (xsize != ysize) = true := by simp [hp]
    have HPsize := Lib.hid hp
    clear hp
    go_enter Try.func46, Try.ntmps46
    go_wp2_with ((go_at_call 112; refine (equalSeenS_any _ _ _ _ _ _ _ (Hxknown.out.ext bxt) (Hyknown.out.ext bxt) d HD).mono ?_; rintro e w1 ⟨rfl, nq, rfl⟩))
    go_ret
    refine ⟨ret_bool ?_, bxt⟩
    rw [← Hr.out]
    simp [HPactive.out, HPname.out, HPvalidity.out, HPsize.out]
  have hesize : (xsize == ysize) = true := by simp [hp]
  have hnsize : (xsize != ysize) = false := by simp [hp]
  have HPsize := Lib.hid hp
  clear hp
  cases d with
  | false =>
    have HPknown := Lib.hid (of_decide_eq_false HD.out)
    go_enter Try.func46, Try.ntmps46
    go_wp2_with ((go_at_call 112; refine (equalSeenS_any _ _ _ _ _ _ _ (Hxknown.out.ext bxt) (Hyknown.out.ext bxt) false HD).mono ?_; rintro e w1 ⟨rfl, nq, rfl⟩))
    go_ret
    refine ⟨ret_bool ?_, bxt⟩
    rw [← Hr.out]
    simp [HPactive.out, HPname.out, HPvalidity.out, HPsize.out, HPknown.out]
  | true =>
    have HPknown := Lib.hid (of_decide_eq_true HD.out)
    by_cases hp : xbad = ybad
    rotate_left
    · have hebad : (xbad == ybad) = false := by simp [hp]
      have hnbad : (xbad != ybad) = true := by simp [hp]
      have HPbad := Lib.hid hp
      clear hp
      go_enter Try.func46, Try.ntmps46
      go_wp2_with ((go_at_call 112; refine (equalSeenS_any _ _ _ _ _ _ _ (Hxknown.out.ext bxt) (Hyknown.out.ext bxt) true HD).mono ?_; rintro e w1 ⟨rfl, nq, rfl⟩))
      go_ret
      refine ⟨ret_bool ?_, bxt⟩
      rw [← Hr.out]
      simp [HPactive.out, HPname.out, HPvalidity.out, HPsize.out, HPknown.out, HPbad.out]
    have hebad : (xbad == ybad) = true := by simp [hp]
    have hnbad : (xbad != ybad) = false := by simp [hp]
    have HPbad := Lib.hid hp
    clear hp
    go_enter Try.func46, Try.ntmps46
    go_wp2_with ((go_at_call 112; refine (equalSeenS_any _ _ _ _ _ _ _ (Hxknown.out.ext bxt) (Hyknown.out.ext bxt) true HD).mono ?_; rintro e w1 ⟨rfl, nq, rfl⟩))
    go_ret
    refine ⟨ret_bool ?_, bxt⟩
    rw [← Hr.out]
    simp [HPactive.out, HPname.out, HPvalidity.out, HPsize.out, HPknown.out, HPbad.out]

set_option maxHeartbeats 4000000 in
theorem specSameClient_any (xactive : Bool) (xname : ByteArray) (xvalidity : Int) (xsize : Int) (xknown : List DSeen) (xknownA : Option Addr) (xknownC : Nat) (xbad : Bool) (yactive : Bool) (yname : ByteArray) (yvalidity : Int) (ysize : Int) (yknown : List DSeen) (yknownA : Option Addr) (yknownC : Nat) (ybad : Bool) (w : World) (xknownR : Rd w xknownA xknownC 2 xknown.length (xknown.flatMap DSeen.cells)) (yknownR : Rd w yknownA yknownC 2 yknown.length (yknown.flatMap DSeen.cells)) (r : Bool) (Hr : Hid (decide (xactive = yactive ∧ xname = yname ∧ xvalidity = yvalidity ∧ xsize = ysize ∧ xknown = yknown ∧ xbad = ybad) = r)) :
    Calls Try.prog 44 #[.agg #[.bool xactive, .string xname, .int .i64 xvalidity, .int .i64 xsize, .slice xknownA xknown.length xknownC, .bool xbad], .agg #[.bool yactive, .string yname, .int .i64 yvalidity, .int .i64 ysize, .slice yknownA yknown.length yknownC, .bool ybad]] w fun e w' => e = .returned (.bool r) ∧ Ext w w' := by
  have Hxknown := Lib.hid xknownR
  clear xknownR
  have Hyknown := Lib.hid yknownR
  clear yknownR
  obtain ⟨d, hd⟩ : ∃ d, decide (xknown = yknown) = d := ⟨_, rfl⟩
  have HD := Lib.hid hd
  clear hd
  by_cases hp : xactive = yactive
  rotate_left
  · have heactive : (xactive == yactive) = false := by simp [hp]
    have hnactive : (xactive != yactive) = true := by simp [hp]
    have HPactive := Lib.hid hp
    clear hp
    go_enter Try.func44, Try.ntmps44
    go_wp2_with ((go_at_call 51; refine (specSameView_any _ _ _ _ _ _ _ (Hxknown.out.ext bxt) (Hyknown.out.ext bxt) d HD).mono ?_; rintro e w1 ⟨rfl, hb1⟩; obtain ⟨hc1, hf1⟩ := bcell hb1; have hsz := hb1.size; simp at hsz; have hs1 : w.heap.size < w1.heap.size := (by omega); have hs2 : w.heap.size + 1 < w1.heap.size := (by omega)))
    go_ret
    refine ⟨ret_bool ?_, bxt⟩
    rw [← Hr.out]
    simp [HPactive.out]
  have heactive : (xactive == yactive) = true := by simp [hp]
  have hnactive : (xactive != yactive) = false := by simp [hp]
  have HPactive := Lib.hid hp
  clear hp
  by_cases hp : xname = yname
  rotate_left
  · have hename : (xname.toList == yname.toList) = false := by rw [str_beq]; simp [hp]
    have hnname : (!(xname.toList == yname.toList)) = true := by rw [str_beq]; simp [hp]
    have HPname := Lib.hid hp
    clear hp
    go_enter Try.func44, Try.ntmps44
    go_wp2_with ((go_at_call 51; refine (specSameView_any _ _ _ _ _ _ _ (Hxknown.out.ext bxt) (Hyknown.out.ext bxt) d HD).mono ?_; rintro e w1 ⟨rfl, hb1⟩; obtain ⟨hc1, hf1⟩ := bcell hb1; have hsz := hb1.size; simp at hsz; have hs1 : w.heap.size < w1.heap.size := (by omega); have hs2 : w.heap.size + 1 < w1.heap.size := (by omega)))
    go_ret
    refine ⟨ret_bool ?_, bxt⟩
    rw [← Hr.out]
    simp [HPactive.out, HPname.out]
  have hename : (xname.toList == yname.toList) = true := by rw [str_beq]; simp [hp]
  have hnname : (!(xname.toList == yname.toList)) = false := by rw [str_beq]; simp [hp]
  have HPname := Lib.hid hp
  clear hp
  by_cases hp : xvalidity = yvalidity
  rotate_left
  · have hevalidity : (xvalidity == yvalidity) = false := by simp [hp]
    have hnvalidity : (xvalidity != yvalidity) = true := by simp [hp]
    have HPvalidity := Lib.hid hp
    clear hp
    go_enter Try.func44, Try.ntmps44
    go_wp2_with ((go_at_call 51; refine (specSameView_any _ _ _ _ _ _ _ (Hxknown.out.ext bxt) (Hyknown.out.ext bxt) d HD).mono ?_; rintro e w1 ⟨rfl, hb1⟩; obtain ⟨hc1, hf1⟩ := bcell hb1; have hsz := hb1.size; simp at hsz; have hs1 : w.heap.size < w1.heap.size := (by omega); have hs2 : w.heap.size + 1 < w1.heap.size := (by omega)))
    go_ret
    refine ⟨ret_bool ?_, bxt⟩
    rw [← Hr.out]
    simp [HPactive.out, HPname.out, HPvalidity.out]
  have hevalidity : (xvalidity == yvalidity) = true := by simp [hp]
  have hnvalidity : (xvalidity != yvalidity) = false := by simp [hp]
  have HPvalidity := Lib.hid hp
  clear hp
  by_cases hp : xsize = ysize
  rotate_left
  · have hesize : (xsize == ysize) = false := by simp [hp]
    have hnsize : (xsize != ysize) = true := by simp [hp]
    have HPsize := Lib.hid hp
    clear hp
    go_enter Try.func44, Try.ntmps44
    go_wp2_with ((go_at_call 51; refine (specSameView_any _ _ _ _ _ _ _ (Hxknown.out.ext bxt) (Hyknown.out.ext bxt) d HD).mono ?_; rintro e w1 ⟨rfl, hb1⟩; obtain ⟨hc1, hf1⟩ := bcell hb1; have hsz := hb1.size; simp at hsz; have hs1 : w.heap.size < w1.heap.size := (by omega); have hs2 : w.heap.size + 1 < w1.heap.size := (by omega)))
    go_ret
    refine ⟨ret_bool ?_, bxt⟩
    rw [← Hr.out]
    simp [HPactive.out, HPname.out, HPvalidity.out, HPsize.out]
  have hesize : (xsize == ysize) = true := by simp [hp]
  have hnsize : (xsize != ysize) = false := by simp [hp]
  have HPsize := Lib.hid hp
  clear hp
  by_cases hp : xbad = ybad
  rotate_left
  · have hebad : (xbad == ybad) = false := by simp [hp]
    have hnbad : (xbad != ybad) = true := by simp [hp]
    have HPbad := Lib.hid hp
    clear hp
    go_enter Try.func44, Try.ntmps44
    go_wp2_with ((go_at_call 51; refine (specSameView_any _ _ _ _ _ _ _ (Hxknown.out.ext bxt) (Hyknown.out.ext bxt) d HD).mono ?_; rintro e w1 ⟨rfl, hb1⟩; obtain ⟨hc1, hf1⟩ := bcell hb1; have hsz := hb1.size; simp at hsz; have hs1 : w.heap.size < w1.heap.size := (by omega); have hs2 : w.heap.size + 1 < w1.heap.size := (by omega)))
    go_ret
    refine ⟨ret_bool ?_, bxt⟩
    rw [← Hr.out]
    simp [HPactive.out, HPname.out, HPvalidity.out, HPsize.out, HPbad.out]
  have hebad : (xbad == ybad) = true := by simp [hp]
  have hnbad : (xbad != ybad) = false := by simp [hp]
  have HPbad := Lib.hid hp
  clear hp
  cases d with
  | false =>
    have HPknown := Lib.hid (of_decide_eq_false HD.out)
    go_enter Try.func44, Try.ntmps44
    go_wp2_with ((go_at_call 51; refine (specSameView_any _ _ _ _ _ _ _ (Hxknown.out.ext bxt) (Hyknown.out.ext bxt) false HD).mono ?_; rintro e w1 ⟨rfl, hb1⟩; obtain ⟨hc1, hf1⟩ := bcell hb1; have hsz := hb1.size; simp at hsz; have hs1 : w.heap.size < w1.heap.size := (by omega); have hs2 : w.heap.size + 1 < w1.heap.size := (by omega)))
    go_ret
    refine ⟨ret_bool ?_, bxt⟩
    rw [← Hr.out]
    simp [HPactive.out, HPname.out, HPvalidity.out, HPsize.out, HPbad.out, HPknown.out]
  | true =>
    have HPknown := Lib.hid (of_decide_eq_true HD.out)
    go_enter Try.func44, Try.ntmps44
    go_wp2_with ((go_at_call 51; refine (specSameView_any _ _ _ _ _ _ _ (Hxknown.out.ext bxt) (Hyknown.out.ext bxt) true HD).mono ?_; rintro e w1 ⟨rfl, hb1⟩; obtain ⟨hc1, hf1⟩ := bcell hb1; have hsz := hb1.size; simp at hsz; have hs1 : w.heap.size < w1.heap.size := (by omega); have hs2 : w.heap.size + 1 < w1.heap.size := (by omega)))
    go_ret
    refine ⟨ret_bool ?_, bxt⟩
    rw [← Hr.out]
    simp [HPactive.out, HPname.out, HPvalidity.out, HPsize.out, HPbad.out, HPknown.out]

end Go.Proofs.Ytpameapajhbdnaa
