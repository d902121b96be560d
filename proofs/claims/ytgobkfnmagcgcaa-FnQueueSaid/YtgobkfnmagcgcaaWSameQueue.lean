/-
  Whether two values of Queue are equal: the reference's function (one side alone).
-/
import Derived.Test.YtgobkfnmagcgcaaFamQueue
namespace Go.Proofs.Ytgobkfnmagcgcaa
open Go.RowKit
set_option linter.unusedVariables false
set_option linter.unusedSimpArgs false

set_option maxRecDepth 100000 in
set_option maxHeartbeats 4000000 in
theorem specSameQueue_any (xnotes : List DNote) (xnotesA : Option Addr) (xnotesC : Nat) (xresync : Bool) (xlost : Bool) (ynotes : List DNote) (ynotesA : Option Addr) (ynotesC : Nat) (yresync : Bool) (ylost : Bool) (w : World) (xnotesR : Rd w xnotesA xnotesC 4 xnotes.length (xnotes.flatMap DNote.cells)) (ynotesR : Rd w ynotesA ynotesC 4 ynotes.length (ynotes.flatMap DNote.cells)) (r : Bool) (Hr : Hid (decide (xnotes = ynotes ∧ xresync = yresync ∧ xlost = ylost) = r)) :
    Calls Try.prog 17 #[.agg #[.slice xnotesA xnotes.length xnotesC, .bool xresync, .bool xlost], .agg #[.slice ynotesA ynotes.length ynotesC, .bool yresync, .bool ylost]] w fun e w' => e = .returned (.bool r) ∧ Ext w w' := by
  have hlx : xnotes.length ≤ 9223372036854775807 := Nat.le_trans xnotesR.nc xnotesR.cm
  have h3 := eqNoteG
  have Hxnotes := Lib.hid xnotesR
  clear xnotesR
  have Hynotes := Lib.hid ynotesR
  clear ynotesR
  by_cases hp : xresync = yresync
  rotate_left
  · have heresync : (xresync == yresync) = false := by simp [hp]
    have hnresync : (xresync != yresync) = true := by simp [hp]
    have HPresync := Lib.hid hp
    clear hp
    go_enter Try.func17, Try.ntmps17
    go_wp2_with fail
    go_ret
    refine ⟨ret_bool ?_, bxt⟩
    rw [← Hr.out]
    simp [HPresync.out]
  have heresync : (xresync == yresync) = true := by simp [hp]
  have hnresync : (xresync != yresync) = false := by simp [hp]
  have HPresync := Lib.hid hp
  clear hp
  by_cases hp : xlost = ylost
  rotate_left
  · have helost : (xlost == ylost) = false := by simp [hp]
    have hnlost : (xlost != ylost) = true := by simp [hp]
    have HPlost := Lib.hid hp
    clear hp
    go_enter Try.func17, Try.ntmps17
    go_wp2_with fail
    go_ret
    refine ⟨ret_bool ?_, bxt⟩
    rw [← Hr.out]
    simp [HPresync.out, HPlost.out]
  have helost : (xlost == ylost) = true := by simp [hp]
  have hnlost : (xlost != ylost) = false := by simp [hp]
  have HPlost := Lib.hid hp
  clear hp
  by_cases hne : xnotes.length = ynotes.length
  rotate_left
  · have hn1 : ((xnotes.length : Int) != (ynotes.length : Int)) = true := by simp; omega
    have HN : Hid (xnotes ≠ ynotes) := fun h => hne (by rw [h])
    clear hne
    go_enter Try.func17, Try.ntmps17
    go_wp2_with fail
    go_ret
    refine ⟨ret_bool ?_, bxt⟩
    rw [← Hr.out]
    simp [HN.out, HPresync.out, HPlost.out]
  have hn1 : ((xnotes.length : Int) != (ynotes.length : Int)) = false := by simp; omega
  have HN := Lib.hid hne
  clear hne
  go_enter Try.func17, Try.ntmps17
  go_wp2_with fail
  go_loopw [5] (fun i wr => ∃ k : Nat, k ≤ xnotes.length ∧ i = .int .i64 k ∧ Hid (∀ j, j < k → xnotes[j]? = ynotes[j]?) ∧ Hid (∃ n, wr = ((w.alloc (.cells #[.slice xnotesA xnotes.length xnotesC, .bool xresync, .bool xlost] 34)).alloc (.cells #[.slice ynotesA ynotes.length ynotesC, .bool yresync, .bool ylost] 34)).drewN n)) (fun i _ => xnotes.length - (intOf i).toNat)
  case atStart => exact ⟨0, Nat.zero_le _, rfl, by simp [Hid], ⟨0, rfl⟩⟩
  case round =>
    obtain ⟨k, hk, rfl, HP, HB⟩ := hrel
    obtain ⟨nq0, hw0⟩ := HB.out
    subst hw0
    by_cases hlt : k < xnotes.length
    · have hlty : k < ynotes.length := by have := HN.out; omega
      have hlty2 : (k : Int) < (ynotes.length : Int) := by omega
      obtain ⟨b1, o1, rfl, hb1, hat1⟩ := Hxnotes.out.ptr (by omega)
      obtain ⟨b2, o2, rfl, hb2, hat2⟩ := Hynotes.out.ptr (by omega)
      obtain ⟨hx0, hx1, hx2, hx3⟩ := DNote.at hat1 k hlt
      obtain ⟨hy0, hy1, hy2, hy3⟩ := DNote.at hat2 k hlty
      have HA1 := Lib.hid hat1
      have HA2 := Lib.hid hat2
      clear hat1 hat2
      have hb1' : b1 < w.heap.size + 1 := by omega
      have hb2' : b2 < w.heap.size + 1 := by omega
      obtain ⟨d, hd⟩ : ∃ d, decide (xnotes[k] = ynotes[k]) = d := ⟨_, rfl⟩
      have hq := eqNoteB xnotes[k] ynotes[k] d hd
      have HD := Lib.hid hd
      clear hd
      go_wp2_with fail
      go_quiet (fail)
      cases d
      · go_wp2_with fail
        go_ret
        refine ⟨ret_bool ?_, bxt⟩
        rw [← Hr.out]
        simp [ne_at hlt hlty (of_decide_eq_false HD.out), HPresync.out, HPlost.out]
      · go_wp2_with fail
        go_roundw
        case rel => exact ⟨k + 1, by omega, by go_num, pre_succ HP.out hlt hlty (of_decide_eq_true HD.out), ⟨_, rfl⟩⟩
        case measure => simp [intOf]; omega
    · go_wp2_with fail
      go_ret
      refine ⟨ret_bool ?_, bxt⟩
      rw [← Hr.out]
      have hkk : k = xnotes.length := by omega
      subst hkk
      simp [all_pre HP.out HN.out, HPresync.out, HPlost.out]

end Go.Proofs.Ytgobkfnmagcgcaa
