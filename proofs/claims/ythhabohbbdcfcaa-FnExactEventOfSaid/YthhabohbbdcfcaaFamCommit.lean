/-
  The laws' functions over Commit: equality, size, copy; over slices of it.
-/
import Derived.Test.YthhabohbbdcfcaaTy
namespace Go.Proofs.Ythhabohbbdcfcaa
open Go.RowKit
set_option linter.unusedVariables false
set_option linter.unusedSimpArgs false

set_option maxHeartbeats 1000000 in
theorem szCommit_any (a : DCommit) (left : Int) (w : World) (h0 : 0 ≤ left) (h1 : left ≤ 1048576) (hname : a.name.size ≤ 9223372036854775807) (htext : a.text.size ≤ 9223372036854775807) :
    Calls Try.prog 10 #[.agg #[.int .i64 a.kind, .int .i64 a.validity, .int .i64 a.uid, .int .i64 a.flags, .string a.name, .string a.text], .int .i64 left] w (SzPost left a.sz w) := by
  go_enter Try.func10, Try.ntmps10
  go_wp2
  all_goals go_ret
  all_goals go_tidy
  all_goals refine ⟨_, rfl, ?_, by repeat' (first | with_reducible exact Below.refl _ _ | with_reducible assumption | with_reducible refine Below.alloc ?_ ?_ _ | with_reducible refine Below.setCell ?_ ?_ _ | with_reducible refine Below.drew ?_ | with_reducible refine Below.ext ?_ (by assumption) | (simp <;> omega) | omega)⟩
  all_goals unfold szR DCommit.sz
  all_goals first | (exact Or.inl (by omega)) | (exact Or.inr (by omega))

set_option maxHeartbeats 1000000 in
theorem toCommit_any (a : DCommit) (w : World) :
    Calls Try.prog 12 #[.agg #[.int .i64 a.kind, .int .i64 a.validity, .int .i64 a.uid, .int .i64 a.flags, .string a.name, .string a.text]] w fun e w' => e = .returned (.agg #[.int .i64 a.kind, .int .i64 a.validity, .int .i64 a.uid, .int .i64 a.flags, .string a.name, .string a.text]) ∧ Ext w w' := by
  go_enter Try.func12, Try.ntmps12
  go_wp2
  refine bodyPost_ret (v := .agg #[.int .i64 a.kind, .int .i64 a.validity, .int .i64 a.uid, .int .i64 a.flags, .string a.name, .string a.text]) (by simp [results, Try.results12, go_sem]) rfl ⟨rfl, ?_⟩
  repeat' (first | with_reducible exact Below.refl _ _ | with_reducible assumption | with_reducible refine Below.alloc ?_ ?_ _ | with_reducible refine Below.setCell ?_ ?_ _ | with_reducible refine Below.drew ?_ | with_reducible refine Below.ext ?_ (by assumption) | (simp <;> omega) | omega)

end Go.Proofs.Ythhabohbbdcfcaa
