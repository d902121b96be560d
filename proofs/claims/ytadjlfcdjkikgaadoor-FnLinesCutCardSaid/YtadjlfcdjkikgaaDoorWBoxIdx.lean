/-
  The first mailbox with a Validity, with a name; the place of a message: the program's functions and the reference's.
-/
import Derived.Test.YtadjlfcdjkikgaaDoorXFam
import Derived.IntWalk
namespace Go.Proofs.YtadjlfcdjkikgaaDoor
open Go.RowKit
set_option linter.unusedVariables false
set_option linter.unusedSimpArgs false

theorem firstI_map {α β : Type} (f : α → β) (p : β → Bool) (l : List α) : firstI p (l.map f) = firstI (fun x => p (f x)) l := by
  unfold firstI
  rw [List.findIdx?_map]; rfl
theorem firstI_spec {α : Type} (p : α → Bool) (l : List α) : (NoneTo p l l.length ∧ firstI p l = -1) ∨ ∃ i, ∃ h : i < l.length, firstI p l = i ∧ p l[i] = true ∧ NoneTo p l i := by
  by_cases hn : ∃ i, ∃ h : i < l.length, p l[i] = true ∧ NoneTo p l i
  · obtain ⟨i, h, hp, hno⟩ := hn
    exact Or.inr ⟨i, h, hno.hit h hp, hp, hno⟩
  · left
    have : ∀ k, k ≤ l.length → NoneTo p l k := fun k => by
      induction k with
      | zero => intro _; exact NoneTo.zero
      | succ k ih =>
        intro hk
        refine (ih (by omega)).succ (by omega) ?_
        cases hp : p l[k] with
        | false => rfl
        | true => exact absurd ⟨k, by omega, hp, ih (by omega)⟩ hn
    exact ⟨this l.length (Nat.le_refl _), (this l.length (Nat.le_refl _)).all (by omega)⟩
theorem firstI_first {α : Type} (p : α → Bool) (l : List α) (j : Nat) (hj : j < l.length) (hp : p l[j] = true) : 0 ≤ firstI p l ∧ firstI p l ≤ j := by
  rcases firstI_spec p l with ⟨h, _⟩ | ⟨i, hi, h1, _, h3⟩
  · exact absurd hp (by rw [h j hj hj]; simp)
  · refine ⟨by omega, ?_⟩
    by_cases hij : j < i
    · exact absurd hp (by rw [h3 j hj hij]; simp)
    · omega
def boxWith (v : Int) (l : List DBox) : Int := firstI (fun b => decide (b.validity = v)) l
def boxNamed (s : ByteArray) (l : List DBox) : Int := firstI (fun b => decide (b.name = s)) l
def placeOf (u : Int) (l : List DMsg) : Int := firstI (fun m => decide (m.uid = u)) l

set_option maxHeartbeats 1000000 in
theorem specBoxWith_any (l : List PBox) (a : Option Addr) (c : Nat) (u : Int) (w : World) (R : Rd w a c 4 l.length (l.flatMap PBox.cells)) (r : Int) (Hr : Hid (boxWith u (l.map PBox.box) = r)) :
    Calls Tryd.prog 98 #[.slice a l.length c, .int .i64 u] w fun e w' => e = .returned (.int .i64 r) ∧ w' = w := by
  have hl : l.length ≤ 9223372036854775807 := Nat.le_trans R.nc R.cm
  have HR := Lib.hid R
  clear R
  have hr2 : firstI (fun x : PBox => decide (x.validity = u)) l = r := by rw [← Hr.out]; unfold boxWith; rw [firstI_map]; rfl
  have HI := Lib.hid hr2
  clear hr2
  go_enter Tryd.func98, Tryd.ntmps98
  go_wp2_with fail
  go_loop [5] (fun i => ∃ k : Nat, k ≤ l.length ∧ i = .int .i64 k ∧ Hid (NoneTo (fun x : PBox => decide (x.validity = u)) l k)) (fun i => l.length - (intOf i).toNat)
  case atStart => exact ⟨0, Nat.zero_le _, rfl, NoneTo.zero⟩
  case round =>
    obtain ⟨k, hk, rfl, HP⟩ := hrel
    by_cases hlt : k < l.length
    · obtain ⟨b, o, rfl, hb, hat⟩ := HR.out.ptr (by omega)
      obtain ⟨hx0, hx1, hx2, hx3⟩ := PBox.at hat k hlt
      have HA := Lib.hid hat
      clear hat
      obtain ⟨d, hd⟩ : ∃ d, (l[k].validity == u) = d := ⟨_, rfl⟩
      have HD : Hid (decide (l[k].validity = u) = d) := by rw [← hd]; rfl
      cases d
      · go_wp2_with fail
        go_round
        case rel => exact ⟨k + 1, by omega, by go_num, NoneTo.succ HP.out hlt HD.out⟩
        case measure => simp [intOf]; omega
      · go_wp2_with fail
        go_ret
        refine ⟨ret_int ?_, rfl⟩
        rw [← HI.out, NoneTo.hit HP.out hlt HD.out]
    · go_wp2_with fail
      go_ret
      refine ⟨ret_int ?_, rfl⟩
      rw [← HI.out, NoneTo.all HP.out hlt]

set_option maxHeartbeats 1000000 in
theorem specBoxNamed_any (l : List PBox) (a : Option Addr) (c : Nat) (u : ByteArray) (w : World) (R : Rd w a c 4 l.length (l.flatMap PBox.cells)) (r : Int) (Hr : Hid (boxNamed u (l.map PBox.box) = r)) :
    Calls Tryd.prog 118 #[.slice a l.length c, .string u] w fun e w' => e = .returned (.int .i64 r) ∧ w' = w := by
  have hl : l.length ≤ 9223372036854775807 := Nat.le_trans R.nc R.cm
  have HR := Lib.hid R
  clear R
  have hr2 : firstI (fun x : PBox => decide (x.name = u)) l = r := by rw [← Hr.out]; unfold boxNamed; rw [firstI_map]; rfl
  have HI := Lib.hid hr2
  clear hr2
  go_enter Tryd.func118, Tryd.ntmps118
  go_wp2_with fail
  go_loop [5] (fun i => ∃ k : Nat, k ≤ l.length ∧ i = .int .i64 k ∧ Hid (NoneTo (fun x : PBox => decide (x.name = u)) l k)) (fun i => l.length - (intOf i).toNat)
  case atStart => exact ⟨0, Nat.zero_le _, rfl, NoneTo.zero⟩
  case round =>
    obtain ⟨k, hk, rfl, HP⟩ := hrel
    by_cases hlt : k < l.length
    · obtain ⟨b, o, rfl, hb, hat⟩ := HR.out.ptr (by omega)
      obtain ⟨hx0, hx1, hx2, hx3⟩ := PBox.at hat k hlt
      have HA := Lib.hid hat
      clear hat
      obtain ⟨d, hd⟩ : ∃ d, (l[k].name.toList == u.toList) = d := ⟨_, rfl⟩
      have HD : Hid (decide (l[k].name = u) = d) := by rw [← hd, str_beq]; rfl
      cases d
      · go_wp2_with fail
        go_round
        case rel => exact ⟨k + 1, by omega, by go_num, NoneTo.succ HP.out hlt HD.out⟩
        case measure => simp [intOf]; omega
      · go_wp2_with fail
        go_ret
        refine ⟨ret_int ?_, rfl⟩
        rw [← HI.out, NoneTo.hit HP.out hlt HD.out]
    · go_wp2_with fail
      go_ret
      refine ⟨ret_int ?_, rfl⟩
      rw [← HI.out, NoneTo.all HP.out hlt]

set_option maxHeartbeats 1000000 in
theorem specPlaceOf_any (xn : ByteArray) (xv xx : Int) (l : List DMsg) (a : Option Addr) (c : Nat) (u : Int) (w : World) (R : Rd w a c 3 l.length (l.flatMap DMsg.cells)) (r : Int) (Hr : Hid (placeOf u l = r)) :
    Calls Tryd.prog 101 #[.agg #[.string xn, .int .i64 xv, .int .i64 xx, .slice a l.length c], .int .i64 u] w fun e w' => e = .returned (.int .i64 r) ∧ Ext w w' := by
  have hl : l.length ≤ 9223372036854775807 := Nat.le_trans R.nc R.cm
  have HR := Lib.hid R
  clear R
  have hr2 : firstI (fun x : DMsg => decide (x.uid = u)) l = r := by rw [← Hr.out]; rfl
  have HI := Lib.hid hr2
  clear hr2
  go_enter Tryd.func101, Tryd.ntmps101
  go_wp2_with fail
  go_loop [5] (fun i => ∃ k : Nat, k ≤ l.length ∧ i = .int .i64 k ∧ Hid (NoneTo (fun x : DMsg => decide (x.uid = u)) l k)) (fun i => l.length - (intOf i).toNat)
  case atStart => exact ⟨0, Nat.zero_le _, rfl, NoneTo.zero⟩
  case round =>
    obtain ⟨k, hk, rfl, HP⟩ := hrel
    by_cases hlt : k < l.length
    · obtain ⟨b, o, rfl, hb, hat⟩ := HR.out.ptr (by omega)
      obtain ⟨hx0, hx1, hx2⟩ := DMsg.at hat k hlt
      have HA := Lib.hid hat
      clear hat
      obtain ⟨d, hd⟩ : ∃ d, (l[k].uid == u) = d := ⟨_, rfl⟩
      have HD : Hid (decide (l[k].uid = u) = d) := by rw [← hd]; rfl
      cases d
      · go_wp2_with fail
        go_round
        case rel => exact ⟨k + 1, by omega, by go_num, NoneTo.succ HP.out hlt HD.out⟩
        case measure => simp [intOf]; omega
      · go_wp2_with fail
        go_ret
        refine ⟨ret_int ?_, (Below.refl _ _).alloc (Nat.le_refl _) _⟩
        rw [← HI.out, NoneTo.hit HP.out hlt HD.out]
    · go_wp2_with fail
      go_ret
      refine ⟨ret_int ?_, (Below.refl _ _).alloc (Nat.le_refl _) _⟩
      rw [← HI.out, NoneTo.all HP.out hlt]

end Go.Proofs.YtadjlfcdjkikgaaDoor
