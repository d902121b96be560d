/-
  The laws' functions over Seen: equality, size, copy; over slices of it.
-/
import Derived.Test.YtemgabekckhckaaGreatTy
namespace Go.Proofs.YtemgabekckhckaaGreat
open Go.RowKit
set_option linter.unusedVariables false
set_option linter.unusedSimpArgs false

/-- two structs held against each other -/
theorem eqSeenB (x y : DSeen) (d : Bool) (hd : decide (x = y) = d) (w : World) :
    (Op.equalIn 10000 62 (.agg #[.int .i64 x.uid, .int .i64 x.flags]) (.agg #[.int .i64 y.uid, .int .i64 y.flags])).run Tryz.prog w = .ok d w := by
  have h1 : Tryz.prog.underlying 62 = some (.struct (Tryz.prog.fieldsOf 62)) := by kernel_rfl
  have h2 : Tryz.prog.stoodInHeld 62 = false := by kernel_rfl
  have h3 := Option.some.inj (h1.symm.trans Tryz.underlying62)
  simp only [TypeDesc.struct.injEq] at h3
  rw [run_equalIn_agg _ _ _ _ _ h1 h2, h3]
  subst hd
  cases x
  cases y
  simp [Op.eqFields, go_sem]
  repeat' split
  all_goals simp_all
theorem eqSeenG : Tryz.prog.eqGuardType Tryz.prog.depth 62 = false := by kernel_rfl

theorem info_Seen : (Tryz.prog.info? 62).map (fun i => (i.zero, i.size, i.bytes)) = some (some (.agg #[.int .i64 0, .int .i64 0]), 2, 16) := by kernel_rfl

end Go.Proofs.YtemgabekckhckaaGreat
