/-
  The sequence number of a message: the program's function and the reference's give one number.
-/
import Derived.Test.YtemgabekckhckaaGreatFamSeen
namespace Go.Proofs.YtemgabekckhckaaGreat
open Go.RowKit
set_option linter.unusedVariables false

def seqOf (u : Int) (l : List DSeen) : Int := firstI (fun x => decide (x.uid = u)) l + 1

set_option maxHeartbeats 1000000 in
theorem seqInFn_any (x : DSeen) (b : Nat) (u : Int) (w : World) (hc : w.cell? ⟨b, 0, none⟩ = some (.int .i64 u)) (hb : b < w.heap.size) :
    Calls Tryz.prog 53 #[.agg #[.int .i64 x.uid, .int .i64 x.flags], .pointer (some ⟨b, 0, none⟩)] w fun e w' => e = .returned (.bool (x.uid == u)) ∧ Ext w w' := by
  go_enter Tryz.func53, Tryz.ntmps53
  go_wp2
  go_ret
  exact ⟨rfl, (Below.refl _ _).alloc (Nat.le_refl _) _⟩

set_option maxHeartbeats 1000000 in
theorem seqInIdx_any (l : List DSeen) (a : Option Addr) (c : Nat) (b : Nat) (u : Int) (w : World) (R : Rd w a c 2 l.length (l.flatMap DSeen.cells)) (hc : w.cell? ⟨b, 0, none⟩ = some (.int .i64 u)) (hb : b < w.heap.size) (r : Int) (Hr : Hid (firstI (fun x => decide (x.uid = u)) l = r)) :
    Calls Tryz.prog 52 #[.slice a l.length c, .func (.func 53) #[] #[.pointer (some ⟨b, 0, none⟩)]] w fun e w' => e = .returned (.int .i64 r) ∧ Ext w w' := by
  have hl : l.length ≤ 9223372036854775807 := Nat.le_trans R.nc R.cm
  have HR := Lib.hid R
  clear R
  go_enter Tryz.func52, Tryz.ntmps52
  have HC := Lib.hid hc
  clear hc
  go_wp2_with fail
  go_loopw [8] (fun i wr => ∃ k : Nat, k ≤ l.length ∧ i = .int .i64 k ∧ Hid (NoneTo (fun x => decide (x.uid = u)) l k) ∧ Below w.heap.size w wr) (fun i _ => l.length - (intOf i).toNat)
  case atStart => exact ⟨0, Nat.zero_le _, rfl, NoneTo.zero, Below.refl _ _⟩
  case round =>
    obtain ⟨k, hk, rfl, HP, hbe⟩ := hrel
    by_cases hlt : k < l.length
    · obtain ⟨b1, o, rfl, hb1, hat⟩ := HR.out.ptr (by omega)
      obtain ⟨hx0, hx1⟩ := DSeen.at (hat.ext hb1 hbe) k hlt
      have HA := Lib.hid hat
      clear hat
      obtain ⟨d, hd⟩ : ∃ d, (l[k].uid == u) = d := ⟨_, rfl⟩
      have HD : Hid (decide (l[k].uid = u) = d) := by rw [← hd]; rfl
      have HC1 : wr.cell? ⟨b, 0, none⟩ = some (.int .i64 u) := by rw [(bcell hbe).1 _ _ hb]; exact HC.out
      have HC2 := Lib.hid HC1
      clear HC1
      have hbw : b < wr.heap.size := Nat.lt_of_lt_of_le hb hbe.size
      cases d
      · go_wp2_with ((go_at_call 53; refine (seqInFn_any l[k] b u _ HC2.out hbw).mono ?_; rintro e w1 ⟨rfl, hb2⟩))
        go_roundw
        case rel => exact ⟨k + 1, by omega, by go_num, NoneTo.succ HP.out hlt HD.out, Below.ext hbe hb2⟩
        case measure => simp [intOf]; omega
      · go_wp2_with ((go_at_call 53; refine (seqInFn_any l[k] b u _ HC2.out hbw).mono ?_; rintro e w1 ⟨rfl, hb2⟩))
        go_ret
        refine ⟨ret_int ?_, Below.ext hbe hb2⟩
        rw [← Hr.out, NoneTo.hit HP.out hlt HD.out]
    · go_wp2_with fail
      go_ret
      refine ⟨ret_int ?_, hbe⟩
      rw [← Hr.out, NoneTo.all HP.out hlt]

set_option maxHeartbeats 1000000 in
theorem implSeqIn_any (l : List DSeen) (a : Option Addr) (c : Nat) (u : Int) (w : World) (R : Rd w a c 2 l.length (l.flatMap DSeen.cells)) (r : Int) (Hr : Hid (seqOf u l = r)) :
    Calls Tryz.prog 30 #[.agg #[.slice a l.length c], .int .i64 u] w fun e w' => e = .returned (.int .i64 r) ∧ Ext w w' := by
  have hl : l.length ≤ 9223372036854775807 := Nat.le_trans R.nc R.cm
  obtain ⟨q, hq⟩ : ∃ q, firstI (fun x : DSeen => decide (x.uid = u)) l = q := ⟨_, rfl⟩
  have hq2 := firstI_range (fun x : DSeen => decide (x.uid = u)) l
  rw [hq] at hq2
  obtain ⟨hq3, hq4⟩ := hq2
  have HQ := Lib.hid hq
  clear hq
  have HR := Lib.hid R
  clear R
  go_enter Tryz.func30, Tryz.ntmps30
  go_wp2_with fail
  refine (seqInIdx_any l _ _ _ u _ (HR.out.ext bxt) (by simp [go_sem]) (by simp) q HQ).mono ?_
  rintro e w1 ⟨rfl, hb1⟩
  go_wp2_with fail
  go_ret
  refine ⟨ret_int ?_, bxt⟩
  rw [← Hr.out]
  unfold seqOf
  rw [HQ.out]
end Go.Proofs.YtemgabekckhckaaGreat
