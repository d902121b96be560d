/-
  The laws' functions over Seen: equality, size, copy; over slices of it.
-/
import Derived.Test.YtadjlfcdjkikgaaDoorTy
namespace Go.Proofs.YtadjlfcdjkikgaaDoor
open Go.RowKit
set_option linter.unusedVariables false
set_option linter.unusedSimpArgs false

/-- two structs held against each other -/
theorem eqSeenB (x y : DSeen) (d : Bool) (hd : decide (x = y) = d) (w : World) :
    (Op.equalIn 10000 114 (.agg #[.int .i64 x.uid, .int .i64 x.flags]) (.agg #[.int .i64 y.uid, .int .i64 y.flags])).run Tryd.prog w = .ok d w := by
  have h1 : Tryd.prog.underlying 114 = some (.struct (Tryd.prog.fieldsOf 114)) := by kernel_rfl
  have h2 : Tryd.prog.stoodInHeld 114 = false := by kernel_rfl
  have h3 := Option.some.inj (h1.symm.trans Tryd.underlying114)
  simp only [TypeDesc.struct.injEq] at h3
  rw [run_equalIn_agg _ _ _ _ _ h1 h2, h3]
  subst hd
  cases x
  cases y
  simp [Op.eqFields, go_sem]
  repeat' split
  all_goals simp_all
theorem eqSeenG : Tryd.prog.eqGuardType Tryd.prog.depth 114 = false := by kernel_rfl

theorem info_Seen : (Tryd.prog.info? 114).map (fun i => (i.zero, i.size, i.bytes)) = some (some (.agg #[.int .i64 0, .int .i64 0]), 2, 16) := by kernel_rfl

end Go.Proofs.YtadjlfcdjkikgaaDoor
