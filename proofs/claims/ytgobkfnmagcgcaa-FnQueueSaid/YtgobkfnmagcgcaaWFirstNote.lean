/-
  The first note of some kinds: the program's function and the reference's give one index.
-/
import Derived.Test.YtgobkfnmagcgcaaFamQueue
namespace Go.Proofs.Ytgobkfnmagcgcaa
open Go.RowKit
set_option linter.unusedVariables false

def noteIs (box other : Bool) (n : DNote) : Bool := (box && (n.kind == 1)) || (other && !(n.kind == 1))
def firstNote (box other : Bool) (l : List DNote) : Int := firstI (noteIs box other) l

set_option maxHeartbeats 1000000 in
theorem firstNoteFn_any (x : DNote) (b1 b2 : Nat) (box other : Bool) (w : World) (hc1 : w.cell? ⟨b1, 0, none⟩ = some (.bool box)) (hc2 : w.cell? ⟨b2, 0, none⟩ = some (.bool other)) (hb1 : b1 < w.heap.size) (hb2 : b2 < w.heap.size) (r : Bool) (Hr : Hid (noteIs box other x = r)) :
    Calls Try.prog 68 #[.agg #[.int .i64 x.kind, .int .i64 x.n, .int .i64 x.uid, .string x.name], .pointer (some ⟨b1, 0, none⟩), .pointer (some ⟨b2, 0, none⟩)] w fun e w' => e = .returned (.bool r) ∧ Ext w w' := by
  obtain ⟨d, hd⟩ : ∃ d, (x.kind == 1) = d := ⟨_, rfl⟩
  have HD := Lib.hid hd
  cases box <;> cases other <;> cases d
  all_goals have hn : (x.kind != 1) = !(x.kind == 1) := rfl
  all_goals rw [hd] at hn
  all_goals simp only [Bool.not_true, Bool.not_false] at hn
  all_goals go_enter Try.func68, Try.ntmps68
  all_goals go_wp2
  all_goals go_ret
  all_goals refine ⟨ret_bool ?_, bxt⟩
  all_goals rw [← Hr.out]
  all_goals simp [noteIs, HD.out]

set_option maxHeartbeats 1000000 in
theorem firstNoteIdx_any (l : List DNote) (a : Option Addr) (c : Nat) (b1 b2 : Nat) (box other : Bool) (w : World) (R : Rd w a c 4 l.length (l.flatMap DNote.cells)) (hc1 : w.cell? ⟨b1, 0, none⟩ = some (.bool box)) (hc2 : w.cell? ⟨b2, 0, none⟩ = some (.bool other)) (hb1 : b1 < w.heap.size) (hb2 : b2 < w.heap.size) (r : Int) (Hr : Hid (firstI (noteIs box other) l = r)) :
    Calls Try.prog 67 #[.slice a l.length c, .func (.func 68) #[] #[.pointer (some ⟨b1, 0, none⟩), .pointer (some ⟨b2, 0, none⟩)]] w fun e w' => e = .returned (.int .i64 r) ∧ Ext w w' := by
  have hl : l.length ≤ 9223372036854775807 := Nat.le_trans R.nc R.cm
  have HR := Lib.hid R
  have HC1 := Lib.hid hc1
  have HC2 := Lib.hid hc2
  clear R hc1 hc2
  go_enter Try.func67, Try.ntmps67
  go_wp2_with fail
  go_loopw [8] (fun i wr => ∃ k : Nat, k ≤ l.length ∧ i = .int .i64 k ∧ Hid (NoneTo (noteIs box other) l k) ∧ Below w.heap.size w wr) (fun i _ => l.length - (intOf i).toNat)
  case atStart => exact ⟨0, Nat.zero_le _, rfl, NoneTo.zero, Below.refl _ _⟩
  case round =>
    obtain ⟨k, hk, rfl, HP, hbe⟩ := hrel
    by_cases hlt : k < l.length
    · obtain ⟨b, o, rfl, hb, hat⟩ := HR.out.ptr (by omega)
      obtain ⟨hx0, hx1, hx2, hx3⟩ := DNote.at (hat.ext hb hbe) k hlt
      have HA := Lib.hid hat
      clear hat
      obtain ⟨d, hd⟩ : ∃ d, noteIs box other l[k] = d := ⟨_, rfl⟩
      have HD := Lib.hid hd
      clear hd
      have HE1 : Hid (wr.cell? ⟨b1, 0, none⟩ = some (.bool box)) := by (unfold Hid; rw [(bcell hbe).1 _ _ hb1]; exact HC1.out)
      have HE2 : Hid (wr.cell? ⟨b2, 0, none⟩ = some (.bool other)) := by (unfold Hid; rw [(bcell hbe).1 _ _ hb2]; exact HC2.out)
      have hbw1 : b1 < wr.heap.size := Nat.lt_of_lt_of_le hb1 hbe.size
      have hbw2 : b2 < wr.heap.size := Nat.lt_of_lt_of_le hb2 hbe.size
      cases d
      · go_wp2_with ((go_at_call 68; refine (firstNoteFn_any l[k] b1 b2 box other _ HE1.out HE2.out hbw1 hbw2 false HD).mono ?_; rintro e w1 ⟨rfl, hq⟩))
        go_roundw
        case rel => exact ⟨k + 1, by omega, by go_num, NoneTo.succ HP.out hlt HD.out, Below.ext hbe hq⟩
        case measure => simp [intOf]; omega
      · go_wp2_with ((go_at_call 68; refine (firstNoteFn_any l[k] b1 b2 box other _ HE1.out HE2.out hbw1 hbw2 true HD).mono ?_; rintro e w1 ⟨rfl, hq⟩))
        go_ret
        refine ⟨ret_int ?_, Below.ext hbe hq⟩
        rw [← Hr.out, NoneTo.hit HP.out hlt HD.out]
    · go_wp2_with fail
      go_ret
      refine ⟨ret_int ?_, hbe⟩
      rw [← Hr.out, NoneTo.all HP.out hlt]

set_option maxHeartbeats 1000000 in
theorem implFirstNote_any (l : List DNote) (a : Option Addr) (c : Nat) (rs lo : Bool) (box other : Bool) (w : World) (R : Rd w a c 4 l.length (l.flatMap DNote.cells)) (r : Int) (Hr : Hid (firstNote box other l = r)) :
    Calls Try.prog 25 #[.agg #[.slice a l.length c, .bool rs, .bool lo], .bool box, .bool other] w fun e w' => e = .returned (.int .i64 r) ∧ Ext w w' := by
  have HR := Lib.hid R
  clear R
  go_enter Try.func25, Try.ntmps25
  go_wp2_with fail
  refine (firstNoteIdx_any l _ _ _ _ box other _ (HR.out.ext bxt) (by simp [go_sem]) (by simp [go_sem]) (by simp) (by simp) r Hr).mono ?_
  rintro e w1 ⟨rfl, hb1⟩
  go_wp2_with fail
  go_ret
  exact ⟨rfl, bxt⟩

end Go.Proofs.Ytgobkfnmagcgcaa
