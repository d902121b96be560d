/-
  The laws' functions over Note: equality, size, copy; over slices of it.
-/
import Derived.Test.YtgobkfnmagcgcaaTy
namespace Go.Proofs.Ytgobkfnmagcgcaa
open Go.RowKit
set_option linter.unusedVariables false
set_option linter.unusedSimpArgs false

/-- two structs held against each other -/
theorem eqNoteB (x y : DNote) (d : Bool) (hd : decide (x = y) = d) (w : World) :
    (Op.equalIn 10000 36 (.agg #[.int .i64 x.kind, .int .i64 x.n, .int .i64 x.uid, .string x.name]) (.agg #[.int .i64 y.kind, .int .i64 y.n, .int .i64 y.uid, .string y.name])).run Try.prog w = .ok d w := by
  have h1 : Try.prog.underlying 36 = some (.struct (Try.prog.fieldsOf 36)) := by kernel_rfl
  have h2 : Try.prog.stoodInHeld 36 = false := by kernel_rfl
  have h3 := Option.some.inj (h1.symm.trans Try.underlying36)
  simp only [TypeDesc.struct.injEq] at h3
  rw [run_equalIn_agg _ _ _ _ _ h1 h2, h3]
  subst hd
  cases x
  cases y
  simp [Op.eqFields, go_sem, str_beq]
  repeat' split
  all_goals simp_all
theorem eqNoteG : Try.prog.eqGuardType Try.prog.depth 36 = false := by kernel_rfl

theorem info_Note : (Try.prog.info? 36).map (fun i => (i.zero, i.size, i.bytes)) = some (some (.agg #[.int .i64 0, .int .i64 0, .int .i64 0, .string ByteArray.empty]), 4, 40) := by kernel_rfl

end Go.Proofs.Ytgobkfnmagcgcaa
