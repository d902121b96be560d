/-
  The sequence number of a message: the program's function and the reference's give one number.
-/
import Derived.Test.YtadjlfcdjkikgaaDoorFamSeen
namespace Go.Proofs.YtadjlfcdjkikgaaDoor
open Go.RowKit
set_option linter.unusedVariables false

def seqOf (u : Int) (l : List DSeen) : Int := firstI (fun x => decide (x.uid = u)) l + 1

set_option maxHeartbeats 1000000 in
theorem specSeqIn_any (l : List DSeen) (a : Option Addr) (c : Nat) (u : Int) (w : World) (R : Rd w a c 2 l.length (l.flatMap DSeen.cells)) (r : Int) (Hr : Hid (seqOf u l = r)) :
    Calls Tryd.prog 102 #[.agg #[.slice a l.length c], .int .i64 u] w fun e w' => e = .returned (.int .i64 r) ∧ Ext w w' := by
  have hl : l.length ≤ 9223372036854775807 := Nat.le_trans R.nc R.cm
  have HR := Lib.hid R
  clear R
  go_enter Tryd.func102, Tryd.ntmps102
  go_wp2_with fail
  go_loop [5] (fun i => ∃ k : Nat, k ≤ l.length ∧ i = .int .i64 k ∧ Hid (NoneTo (fun x => decide (x.uid = u)) l k)) (fun i => l.length - (intOf i).toNat)
  case atStart => exact ⟨0, Nat.zero_le _, rfl, NoneTo.zero⟩
  case round =>
    obtain ⟨k, hk, rfl, HP⟩ := hrel
    by_cases hlt : k < l.length
    · obtain ⟨b, o, rfl, hb, hat⟩ := HR.out.ptr (by omega)
      obtain ⟨hx0, hx1⟩ := DSeen.at hat k hlt
      have HA := Lib.hid hat
      clear hat
      obtain ⟨d, hd⟩ : ∃ d, (l[k].uid == u) = d := ⟨_, rfl⟩
      have HD : Hid (decide (l[k].uid = u) = d) := by rw [← hd]; rfl
      cases d
      · go_wp2_with fail
        go_round
        case rel => exact ⟨k + 1, by omega, by go_num, NoneTo.succ HP.out hlt HD.out⟩
        case measure => simp [intOf]; omega
      · go_wp2_with fail
        go_ret
        refine ⟨ret_int ?_, (Below.refl _ _).alloc (Nat.le_refl _) _⟩
        rw [← Hr.out]
        unfold seqOf
        rw [NoneTo.hit HP.out hlt HD.out]
    · go_wp2_with fail
      go_ret
      refine ⟨ret_int ?_, (Below.refl _ _).alloc (Nat.le_refl _) _⟩
      rw [← Hr.out]
      unfold seqOf
      rw [NoneTo.all HP.out hlt]
      rfl

end Go.Proofs.YtadjlfcdjkikgaaDoor
