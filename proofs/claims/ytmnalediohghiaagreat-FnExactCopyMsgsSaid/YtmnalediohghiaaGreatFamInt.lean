/-
  The laws' copy of a slice of int.
-/
import Derived.Test.YtmnalediohghiaaGreatTy
namespace Go.Proofs.YtmnalediohghiaaGreat
open Go.RowKit
set_option linter.unusedVariables false
set_option linter.unusedSimpArgs false

theorem info_int : (Tryz.prog.info? 3).map (fun i => (i.zero, i.size, i.bytes)) = some (some (.int .i64 0), 1, 8) := by kernel_rfl

set_option maxHeartbeats 1000000 in
theorem toIntS_any (l : List Int) (a : Option Addr) (c : Nat) (w : World) (R : Rd w a c 1 l.length (l.flatMap intCells)) (hl : l.length ≤ 1048576) :
    Calls Tryz.prog 24 #[.slice a l.length c] w fun e w' => ∃ g, e = .returned (.slice (some ⟨g, 0, none⟩) l.length l.length) ∧ w'.ownsRow w.heap.size 3 1 (.slice (some ⟨g, 0, none⟩) l.length l.length) l.length (l.flatMap intCells) ∧ Ext w w' := by
  obtain ⟨i0, hi, hz0, hz1, hz2⟩ := info_parts info_int
  obtain ⟨G, hG⟩ : ∃ G, w.heap.size = G := ⟨_, rfl⟩
  have hmk := run_mk w 41 3 i0 _ 1 8 Tryz.underlying41 hi hz0 hz1 hz2 l.length (by omega) (by omega)
  have HS := Lib.hid (ToRel.start intCells_len 0 #[.int .i64 0] rfl l w G 3 hG (by omega))
  rw [hG] at hmk
  clear hi hz0 hz1 hz2
  have HG := Lib.hid hG
  clear hG
  have HR := Lib.hid R
  clear R
  go_enter Tryz.func24, Tryz.ntmps24
  go_wp2_with fail
  go_loopw [4] (ToRel intCells 1 0 l w G 3) (fun i _ => l.length - (intOf i).toNat)
  case atStart => exact (by have h := HS.out; rwa [Nat.mul_one] at h)
  case round =>
    obtain ⟨k, hk, rfl, hw, hb⟩ := hrel
    have HW := Lib.hid hw
    clear hw
    by_cases hlt : k < l.length
    · obtain ⟨b, o, rfl, hbs, hat⟩ := HR.out.ptr (by omega)
      have hx0 := intCells_at (hat.ext hbs hb) k hlt
      have HAT := Lib.hid hat
      clear hat
      have HW1 := Lib.hid (own_ext HW.out (Below.refl _ _).drew)
      obtain ⟨⟨v0, hc0⟩, hf0⟩ := own_slot HW.out k (by omega)
      go_wp2_with fail
      go_roundw
      case rel => exact (by have h := ToRel.next intCells_len hlt HG.out HW.out hb (Below.refl _ _); rw [Nat.mul_one] at h; exact h)
      case measure => simp [intOf]; omega
    · go_wp2_with fail
      go_ret
      exact ⟨G, rfl, ToRel.done hk hlt HW.out, hb⟩

end Go.Proofs.YtmnalediohghiaaGreat
