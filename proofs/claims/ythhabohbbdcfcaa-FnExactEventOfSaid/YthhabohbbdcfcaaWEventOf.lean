/-
  The event of a commit: the program's function and the reference's give one number; the law's walk.
-/
import Derived.Test.YthhabohbbdcfcaaFamCommit
namespace Go.Proofs.Ythhabohbbdcfcaa
open Go.RowKit
set_option linter.unusedVariables false
set_option linter.unusedSimpArgs false

def evOf (k : Int) : Int := if k = 1 ∨ k = 2 ∨ k = 3 then 8 else if k = 4 then 1 else if k = 5 then 4 else if k = 6 then 2 else 0

set_option maxHeartbeats 1000000 in
theorem implEventOf_any (a : DCommit) (w : World) (r : Int) (Hr : Hid (evOf a.kind = r)) :
    Calls Try.prog 13 #[.agg #[.int .i64 a.kind, .int .i64 a.validity, .int .i64 a.uid, .int .i64 a.flags, .string a.name, .string a.text]] w fun e w' => e = .returned (.int .i64 r) ∧ Ext w w' := by
  go_enter Try.func13, Try.ntmps13
  go_wp2
  all_goals go_ret
  all_goals go_tidy
  all_goals refine ⟨ret_int ?_, (Below.refl _ _).alloc (Nat.le_refl _) _⟩
  all_goals rw [← Hr.out]
  all_goals clear Hr
  all_goals simp_all [evOf]

set_option maxHeartbeats 1000000 in
theorem specEventOf_any (a : DCommit) (w : World) (r : Int) (Hr : Hid (evOf a.kind = r)) :
    Calls Try.prog 11 #[.agg #[.int .i64 a.kind, .int .i64 a.validity, .int .i64 a.uid, .int .i64 a.flags, .string a.name, .string a.text]] w fun e w' => e = .returned (.int .i64 r) ∧ Ext w w' := by
  go_enter Try.func11, Try.ntmps11
  go_wp2
  all_goals go_ret
  all_goals go_tidy
  all_goals refine ⟨ret_int ?_, (Below.refl _ _).alloc (Nat.le_refl _) _⟩
  all_goals rw [← Hr.out]
  all_goals clear Hr
  all_goals simp_all [evOf]

set_option maxHeartbeats 1000000 in
theorem fnExactEventOf_walk (a : DCommit) (g1 : a.name.size ≤ 9223372036854775807) (g2 : a.text.size ≤ 9223372036854775807) (w : World) :
    Calls Try.prog 3 #[.agg #[.int .i64 a.kind, .int .i64 a.validity, .int .i64 a.uid, .int .i64 a.flags, .string a.name, .string a.text]] w fun e w' => e = .returned (.bool true) ∧ Below w.heap.size w w' := by
  obtain ⟨r, hr⟩ : ∃ r, evOf a.kind = r := ⟨_, rfl⟩
  have Hr := Lib.hid hr
  clear hr
  go_enter Try.func3, Try.ntmps3
  go_wp2_with fail
  refine (szCommit_any a 1048576 _ (by omega) (by omega) g1 g2).mono ?_
  rintro e w1 ⟨left, rfl, -, hb1⟩
  obtain ⟨hc1, hf1⟩ := bcell hb1
  have hs1 : w.heap.size < w1.heap.size := by have := hb1.size; simp at this; omega
  have HB1 := Lib.hid hb1
  clear hb1
  go_wp2_with (first | (go_at_call 12; refine (toCommit_any a _).mono ?_; rintro e w2 ⟨rfl, hb2⟩; obtain ⟨hc2, hf2⟩ := bcell hb2; have hs2 : w.heap.size < w2.heap.size := by have := hb2.size; omega) | (go_at_call 11; refine (specEventOf_any a _ r Hr).mono ?_; rintro e w2 ⟨rfl, hb2⟩; obtain ⟨hc2, hf2⟩ := bcell hb2; have hs2 : w.heap.size < w2.heap.size := by have := hb2.size; omega) | (go_at_call 13; refine (implEventOf_any a _ r Hr).mono ?_; rintro e w2 ⟨rfl, hb2⟩; obtain ⟨hc2, hf2⟩ := bcell hb2; have hs2 : w.heap.size < w2.heap.size := by have := hb2.size; omega))
  all_goals go_ret
  all_goals go_tidy
  all_goals have hb1 := HB1.out
  all_goals refine ⟨rfl, by repeat' (first | with_reducible exact Below.refl _ _ | with_reducible assumption | with_reducible refine Below.alloc ?_ ?_ _ | with_reducible refine Below.setCell ?_ ?_ _ | with_reducible refine Below.drew ?_ | with_reducible refine Below.ext ?_ (by assumption) | (simp <;> omega) | omega)⟩
end Go.Proofs.Ythhabohbbdcfcaa
