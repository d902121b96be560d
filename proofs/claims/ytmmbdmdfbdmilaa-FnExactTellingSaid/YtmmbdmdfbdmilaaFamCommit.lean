/-
  The laws' functions over Commit: equality, size, copy; over slices of it.
-/
import Derived.Test.YtmmbdmdfbdmilaaTy
namespace Go.Proofs.Ytmmbdmdfbdmilaa
open Go.RowKit
set_option linter.unusedVariables false
set_option linter.unusedSimpArgs false

/-- two structs held against each other -/
theorem eqCommitB (x y : DCommit) (d : Bool) (hd : decide (x = y) = d) (w : World) :
    (Op.equalIn 10000 63 (.agg #[.int .i64 x.kind, .int .i64 x.validity, .int .i64 x.uid, .int .i64 x.flags, .string x.name, .string x.text]) (.agg #[.int .i64 y.kind, .int .i64 y.validity, .int .i64 y.uid, .int .i64 y.flags, .string y.name, .string y.text])).run Try.prog w = .ok d w := by
  have h1 : Try.prog.underlying 63 = some (.struct (Try.prog.fieldsOf 63)) := by kernel_rfl
  have h2 : Try.prog.stoodInHeld 63 = false := by kernel_rfl
  have h3 := Option.some.inj (h1.symm.trans Try.underlying63)
  simp only [TypeDesc.struct.injEq] at h3
  rw [run_equalIn_agg _ _ _ _ _ h1 h2, h3]
  subst hd
  cases x
  cases y
  simp [Op.eqFields, go_sem, str_beq]
  repeat' split
  all_goals simp_all
theorem eqCommitG : Try.prog.eqGuardType Try.prog.depth 63 = false := by kernel_rfl

set_option maxHeartbeats 1000000 in
theorem szCommit_any (a : DCommit) (left : Int) (w : World) (h0 : 0 ≤ left) (h1 : left ≤ 1048576) (hname : a.name.size ≤ 9223372036854775807) (htext : a.text.size ≤ 9223372036854775807) :
    Calls Try.prog 28 #[.agg #[.int .i64 a.kind, .int .i64 a.validity, .int .i64 a.uid, .int .i64 a.flags, .string a.name, .string a.text], .int .i64 left] w (SzPost left a.sz w) := by
  go_enter Try.func28, Try.ntmps28
  go_wp2
  all_goals go_ret
  all_goals go_tidy
  all_goals refine ⟨_, rfl, ?_, by repeat' (first | with_reducible exact Below.refl _ _ | with_reducible assumption | with_reducible refine Below.alloc ?_ ?_ _ | with_reducible refine Below.setCell ?_ ?_ _ | with_reducible refine Below.drew ?_ | with_reducible refine Below.drewN ?_ _ | with_reducible refine Below.ext ?_ (by assumption) | (simp <;> omega) | omega)⟩
  all_goals unfold szR DCommit.sz
  all_goals first | (exact Or.inl (by omega)) | (exact Or.inr (by omega))

set_option maxHeartbeats 1000000 in
theorem toCommit_any (a : DCommit) (w : World) :
    Calls Try.prog 31 #[.agg #[.int .i64 a.kind, .int .i64 a.validity, .int .i64 a.uid, .int .i64 a.flags, .string a.name, .string a.text]] w fun e w' => e = .returned (.agg #[.int .i64 a.kind, .int .i64 a.validity, .int .i64 a.uid, .int .i64 a.flags, .string a.name, .string a.text]) ∧ Ext w w' := by
  go_enter Try.func31, Try.ntmps31
  go_wp2
  refine bodyPost_ret (v := .agg #[.int .i64 a.kind, .int .i64 a.validity, .int .i64 a.uid, .int .i64 a.flags, .string a.name, .string a.text]) (by simp [results, Try.results31, go_sem]) rfl ⟨rfl, ?_⟩
  repeat' (first | with_reducible exact Below.refl _ _ | with_reducible assumption | with_reducible refine Below.alloc ?_ ?_ _ | with_reducible refine Below.setCell ?_ ?_ _ | with_reducible refine Below.drew ?_ | with_reducible refine Below.drewN ?_ _ | with_reducible refine Below.ext ?_ (by assumption) | (simp <;> omega) | omega)

end Go.Proofs.Ytmmbdmdfbdmilaa
