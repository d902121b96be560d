/-
  The first mailbox with a Validity, with a name; the place of a message: the program's functions and the reference's.
-/
import Derived.Test.YtemgabekckhckaaGreatXFam
import Derived.IntWalk
namespace Go.Proofs.YtemgabekckhckaaGreat
open Go.RowKit
set_option linter.unusedVariables false
set_option linter.unusedSimpArgs false

theorem firstI_map {α β : Type} (f : α → β) (p : β → Bool) (l : List α) : firstI p (l.map f) = firstI (fun x => p (f x)) l := by
  unfold firstI
  rw [List.findIdx?_map]; rfl
theorem firstI_spec {α : Type} (p : α → Bool) (l : List α) : (NoneTo p l l.length ∧ firstI p l = -1) ∨ ∃ i, ∃ h : i < l.length, firstI p l = i ∧ p l[i] = true ∧ NoneTo p l i := by
  by_cases hn : ∃ i, ∃ h : i < l.length, p l[i] = true ∧ NoneTo p l i
  · obtain ⟨i, h, hp, hno⟩ := hn
    exact Or.inr ⟨i, h, hno.hit h hp, hp, hno⟩
  · left
    have : ∀ k, k ≤ l.length → NoneTo p l k := fun k => by
      induction k with
      | zero => intro _; exact NoneTo.zero
      | succ k ih =>
        intro hk
        refine (ih (by omega)).succ (by omega) ?_
        cases hp : p l[k] with
        | false => rfl
        | true => exact absurd ⟨k, by omega, hp, ih (by omega)⟩ hn
    exact ⟨this l.length (Nat.le_refl _), (this l.length (Nat.le_refl _)).all (by omega)⟩
theorem firstI_first {α : Type} (p : α → Bool) (l : List α) (j : Nat) (hj : j < l.length) (hp : p l[j] = true) : 0 ≤ firstI p l ∧ firstI p l ≤ j := by
  rcases firstI_spec p l with ⟨h, _⟩ | ⟨i, hi, h1, _, h3⟩
  · exact absurd hp (by rw [h j hj hj]; simp)
  · refine ⟨by omega, ?_⟩
    by_cases hij : j < i
    · exact absurd hp (by rw [h3 j hj hij]; simp)
    · omega
def boxWith (v : Int) (l : List DBox) : Int := firstI (fun b => decide (b.validity = v)) l
def boxNamed (s : ByteArray) (l : List DBox) : Int := firstI (fun b => decide (b.name = s)) l
def placeOf (u : Int) (l : List DMsg) : Int := firstI (fun m => decide (m.uid = u)) l

set_option maxHeartbeats 1000000 in
theorem specBoxWith_any (l : List PBox) (a : Option Addr) (c : Nat) (u : Int) (w : World) (R : Rd w a c 4 l.length (l.flatMap PBox.cells)) (r : Int) (Hr : Hid (boxWith u (l.map PBox.box) = r)) :
    Calls Tryz.prog 67 #[.slice a l.length c, .int .i64 u] w fun e w' => e = .returned (.int .i64 r) ∧ w' = w := by
  have hl : l.length ≤ 9223372036854775807 := Nat.le_trans R.nc R.cm
  have HR := Lib.hid R
  clear R
  have hr2 : firstI (fun x : PBox => decide (x.validity = u)) l = r := by rw [← Hr.out]; unfold boxWith; rw [firstI_map]; rfl
  have HI := Lib.hid hr2
  clear hr2
  go_enter Tryz.func67, Tryz.ntmps67
  go_wp2_with fail
  go_loop [5] (fun i => ∃ k : Nat, k ≤ l.length ∧ i = .int .i64 k ∧ Hid (NoneTo (fun x : PBox => decide (x.validity = u)) l k)) (fun i => l.length - (intOf i).toNat)
  case atStart => exact ⟨0, Nat.zero_le _, rfl, NoneTo.zero⟩
  case round =>
    obtain ⟨k, hk, rfl, HP⟩ := hrel
    by_cases hlt : k < l.length
    · obtain ⟨b, o, rfl, hb, hat⟩ := HR.out.ptr (by omega)
      obtain ⟨hx0, hx1, hx2, hx3⟩ := PBox.at hat k hlt
      have HA := Lib.hid hat
      clear hat
      obtain ⟨d, hd⟩ : ∃ d, (l[k].validity == u) = d := ⟨_, rfl⟩
      have HD : Hid (decide (l[k].validity = u) = d) := by rw [← hd]; rfl
      cases d
      · go_wp2_with fail
        go_round
        case rel => exact ⟨k + 1, by omega, by go_num, NoneTo.succ HP.out hlt HD.out⟩
        case measure => simp [intOf]; omega
      · go_wp2_with fail
        go_ret
        refine ⟨ret_int ?_, rfl⟩
        rw [← HI.out, NoneTo.hit HP.out hlt HD.out]
    · go_wp2_with fail
      go_ret
      refine ⟨ret_int ?_, rfl⟩
      rw [← HI.out, NoneTo.all HP.out hlt]

set_option maxHeartbeats 1000000 in
theorem boxWithFn_any (x : PBox) (b : Nat) (u : Int) (w : World) (hc : w.cell? ⟨b, 0, none⟩ = some (.int .i64 u)) (hb : b < w.heap.size) :
    Calls Tryz.prog 47 #[.agg #[.string x.name, .int .i64 x.validity, .int .i64 x.next, .slice x.ma x.msgs.length x.mc], .pointer (some ⟨b, 0, none⟩)] w fun e w' => e = .returned (.bool (x.validity == u)) ∧ Ext w w' := by
  go_enter Tryz.func47, Tryz.ntmps47
  go_wp2
  go_ret
  exact ⟨rfl, bxt⟩

set_option maxHeartbeats 1000000 in
theorem boxWithIdx_any (l : List PBox) (a : Option Addr) (c : Nat) (b : Nat) (u : Int) (w : World) (R : Rd w a c 4 l.length (l.flatMap PBox.cells)) (hc : w.cell? ⟨b, 0, none⟩ = some (.int .i64 u)) (hb : b < w.heap.size) (r : Int) (Hr : Hid (firstI (fun x : PBox => decide (x.validity = u)) l = r)) :
    Calls Tryz.prog 46 #[.slice a l.length c, .func (.func 47) #[] #[.pointer (some ⟨b, 0, none⟩)]] w fun e w' => e = .returned (.int .i64 r) ∧ Ext w w' := by
  have hl : l.length ≤ 9223372036854775807 := Nat.le_trans R.nc R.cm
  have HR := Lib.hid R
  clear R
  go_enter Tryz.func46, Tryz.ntmps46
  have HC := Lib.hid hc
  clear hc
  go_wp2_with fail
  go_loopw [8] (fun i wr => ∃ k : Nat, k ≤ l.length ∧ i = .int .i64 k ∧ Hid (NoneTo (fun x : PBox => decide (x.validity = u)) l k) ∧ Below w.heap.size w wr) (fun i _ => l.length - (intOf i).toNat)
  case atStart => exact ⟨0, Nat.zero_le _, rfl, NoneTo.zero, Below.refl _ _⟩
  case round =>
    obtain ⟨k, hk, rfl, HP, hbe⟩ := hrel
    by_cases hlt : k < l.length
    · obtain ⟨b1, o, rfl, hb1, hat⟩ := HR.out.ptr (by omega)
      obtain ⟨hx0, hx1, hx2, hx3⟩ := PBox.at (hat.ext hb1 hbe) k hlt
      have HA := Lib.hid hat
      clear hat
      obtain ⟨d, hd⟩ : ∃ d, (l[k].validity == u) = d := ⟨_, rfl⟩
      have HD : Hid (decide (l[k].validity = u) = d) := by rw [← hd]; rfl
      have HC1 : wr.cell? ⟨b, 0, none⟩ = some (.int .i64 u) := by rw [(bcell hbe).1 _ _ hb]; exact HC.out
      have HC2 := Lib.hid HC1
      clear HC1
      have hbw : b < wr.heap.size := Nat.lt_of_lt_of_le hb hbe.size
      cases d
      · go_wp2_with ((go_at_call 47; refine (boxWithFn_any l[k] b u _ HC2.out hbw).mono ?_; rintro e w1 ⟨rfl, hb2⟩))
        go_roundw
        case rel => exact ⟨k + 1, by omega, by go_num, NoneTo.succ HP.out hlt HD.out, Below.ext hbe hb2⟩
        case measure => simp [intOf]; omega
      · go_wp2_with ((go_at_call 47; refine (boxWithFn_any l[k] b u _ HC2.out hbw).mono ?_; rintro e w1 ⟨rfl, hb2⟩))
        go_ret
        refine ⟨ret_int ?_, Below.ext hbe hb2⟩
        rw [← Hr.out, NoneTo.hit HP.out hlt HD.out]
    · go_wp2_with fail
      go_ret
      refine ⟨ret_int ?_, hbe⟩
      rw [← Hr.out, NoneTo.all HP.out hlt]

set_option maxHeartbeats 1000000 in
theorem implBoxWith_any (l : List PBox) (a : Option Addr) (c : Nat) (u : Int) (w : World) (R : Rd w a c 4 l.length (l.flatMap PBox.cells)) (r : Int) (Hr : Hid (boxWith u (l.map PBox.box) = r)) :
    Calls Tryz.prog 25 #[.slice a l.length c, .int .i64 u] w fun e w' => e = .returned (.int .i64 r) ∧ Ext w w' := by
  have hl : l.length ≤ 9223372036854775807 := Nat.le_trans R.nc R.cm
  have HR := Lib.hid R
  clear R
  have hr2 : firstI (fun x : PBox => decide (x.validity = u)) l = r := by rw [← Hr.out]; unfold boxWith; rw [firstI_map]; rfl
  have HI := Lib.hid hr2
  clear hr2
  go_enter Tryz.func25, Tryz.ntmps25
  go_wp2_with fail
  refine (boxWithIdx_any l _ _ _ u _ (HR.out.ext bxt) (by simp [go_sem]) (by simp) r HI).mono ?_
  rintro e w1 ⟨rfl, hb1⟩
  go_wp2_with fail
  go_ret
  exact ⟨rfl, bxt⟩

set_option maxHeartbeats 1000000 in
theorem specBoxNamed_any (l : List PBox) (a : Option Addr) (c : Nat) (u : ByteArray) (w : World) (R : Rd w a c 4 l.length (l.flatMap PBox.cells)) (r : Int) (Hr : Hid (boxNamed u (l.map PBox.box) = r)) :
    Calls Tryz.prog 88 #[.slice a l.length c, .string u] w fun e w' => e = .returned (.int .i64 r) ∧ w' = w := by
  have hl : l.length ≤ 9223372036854775807 := Nat.le_trans R.nc R.cm
  have HR := Lib.hid R
  clear R
  have hr2 : firstI (fun x : PBox => decide (x.name = u)) l = r := by rw [← Hr.out]; unfold boxNamed; rw [firstI_map]; rfl
  have HI := Lib.hid hr2
  clear hr2
  go_enter Tryz.func88, Tryz.ntmps88
  go_wp2_with fail
  go_loop [5] (fun i => ∃ k : Nat, k ≤ l.length ∧ i = .int .i64 k ∧ Hid (NoneTo (fun x : PBox => decide (x.name = u)) l k)) (fun i => l.length - (intOf i).toNat)
  case atStart => exact ⟨0, Nat.zero_le _, rfl, NoneTo.zero⟩
  case round =>
    obtain ⟨k, hk, rfl, HP⟩ := hrel
    by_cases hlt : k < l.length
    · obtain ⟨b, o, rfl, hb, hat⟩ := HR.out.ptr (by omega)
      obtain ⟨hx0, hx1, hx2, hx3⟩ := PBox.at hat k hlt
      have HA := Lib.hid hat
      clear hat
      obtain ⟨d, hd⟩ : ∃ d, (l[k].name.toList == u.toList) = d := ⟨_, rfl⟩
      have HD : Hid (decide (l[k].name = u) = d) := by rw [← hd, str_beq]; rfl
      cases d
      · go_wp2_with fail
        go_round
        case rel => exact ⟨k + 1, by omega, by go_num, NoneTo.succ HP.out hlt HD.out⟩
        case measure => simp [intOf]; omega
      · go_wp2_with fail
        go_ret
        refine ⟨ret_int ?_, rfl⟩
        rw [← HI.out, NoneTo.hit HP.out hlt HD.out]
    · go_wp2_with fail
      go_ret
      refine ⟨ret_int ?_, rfl⟩
      rw [← HI.out, NoneTo.all HP.out hlt]

set_option maxHeartbeats 1000000 in
theorem boxNamedFn_any (x : PBox) (b : Nat) (u : ByteArray) (w : World) (hc : w.cell? ⟨b, 0, none⟩ = some (.string u)) (hb : b < w.heap.size) :
    Calls Tryz.prog 102 #[.agg #[.string x.name, .int .i64 x.validity, .int .i64 x.next, .slice x.ma x.msgs.length x.mc], .pointer (some ⟨b, 0, none⟩)] w fun e w' => e = .returned (.bool (x.name.toList == u.toList)) ∧ Ext w w' := by
  go_enter Tryz.func102, Tryz.ntmps102
  go_wp2
  go_ret
  exact ⟨rfl, bxt⟩

set_option maxHeartbeats 1000000 in
theorem boxNamedIdx_any (l : List PBox) (a : Option Addr) (c : Nat) (b : Nat) (u : ByteArray) (w : World) (R : Rd w a c 4 l.length (l.flatMap PBox.cells)) (hc : w.cell? ⟨b, 0, none⟩ = some (.string u)) (hb : b < w.heap.size) (r : Int) (Hr : Hid (firstI (fun x : PBox => decide (x.name = u)) l = r)) :
    Calls Tryz.prog 46 #[.slice a l.length c, .func (.func 102) #[] #[.pointer (some ⟨b, 0, none⟩)]] w fun e w' => e = .returned (.int .i64 r) ∧ Ext w w' := by
  have hl : l.length ≤ 9223372036854775807 := Nat.le_trans R.nc R.cm
  have HR := Lib.hid R
  clear R
  go_enter Tryz.func46, Tryz.ntmps46
  have HC := Lib.hid hc
  clear hc
  go_wp2_with fail
  go_loopw [8] (fun i wr => ∃ k : Nat, k ≤ l.length ∧ i = .int .i64 k ∧ Hid (NoneTo (fun x : PBox => decide (x.name = u)) l k) ∧ Below w.heap.size w wr) (fun i _ => l.length - (intOf i).toNat)
  case atStart => exact ⟨0, Nat.zero_le _, rfl, NoneTo.zero, Below.refl _ _⟩
  case round =>
    obtain ⟨k, hk, rfl, HP, hbe⟩ := hrel
    by_cases hlt : k < l.length
    · obtain ⟨b1, o, rfl, hb1, hat⟩ := HR.out.ptr (by omega)
      obtain ⟨hx0, hx1, hx2, hx3⟩ := PBox.at (hat.ext hb1 hbe) k hlt
      have HA := Lib.hid hat
      clear hat
      obtain ⟨d, hd⟩ : ∃ d, (l[k].name.toList == u.toList) = d := ⟨_, rfl⟩
      have HD : Hid (decide (l[k].name = u) = d) := by rw [← hd, str_beq]; rfl
      have HC1 : wr.cell? ⟨b, 0, none⟩ = some (.string u) := by rw [(bcell hbe).1 _ _ hb]; exact HC.out
      have HC2 := Lib.hid HC1
      clear HC1
      have hbw : b < wr.heap.size := Nat.lt_of_lt_of_le hb hbe.size
      cases d
      · go_wp2_with ((go_at_call 102; refine (boxNamedFn_any l[k] b u _ HC2.out hbw).mono ?_; rintro e w1 ⟨rfl, hb2⟩))
        go_roundw
        case rel => exact ⟨k + 1, by omega, by go_num, NoneTo.succ HP.out hlt HD.out, Below.ext hbe hb2⟩
        case measure => simp [intOf]; omega
      · go_wp2_with ((go_at_call 102; refine (boxNamedFn_any l[k] b u _ HC2.out hbw).mono ?_; rintro e w1 ⟨rfl, hb2⟩))
        go_ret
        refine ⟨ret_int ?_, Below.ext hbe hb2⟩
        rw [← Hr.out, NoneTo.hit HP.out hlt HD.out]
    · go_wp2_with fail
      go_ret
      refine ⟨ret_int ?_, hbe⟩
      rw [← Hr.out, NoneTo.all HP.out hlt]

set_option maxHeartbeats 1000000 in
theorem implBoxNamed_any (l : List PBox) (a : Option Addr) (c : Nat) (u : ByteArray) (w : World) (R : Rd w a c 4 l.length (l.flatMap PBox.cells)) (r : Int) (Hr : Hid (boxNamed u (l.map PBox.box) = r)) :
    Calls Tryz.prog 91 #[.slice a l.length c, .string u] w fun e w' => e = .returned (.int .i64 r) ∧ Ext w w' := by
  have hl : l.length ≤ 9223372036854775807 := Nat.le_trans R.nc R.cm
  have HR := Lib.hid R
  clear R
  have hr2 : firstI (fun x : PBox => decide (x.name = u)) l = r := by rw [← Hr.out]; unfold boxNamed; rw [firstI_map]; rfl
  have HI := Lib.hid hr2
  clear hr2
  go_enter Tryz.func91, Tryz.ntmps91
  go_wp2_with fail
  refine (boxNamedIdx_any l _ _ _ u _ (HR.out.ext bxt) (by simp [go_sem]) (by simp) r HI).mono ?_
  rintro e w1 ⟨rfl, hb1⟩
  go_wp2_with fail
  go_ret
  exact ⟨rfl, bxt⟩

set_option maxHeartbeats 1000000 in
theorem specPlaceOf_any (xn : ByteArray) (xv xx : Int) (l : List DMsg) (a : Option Addr) (c : Nat) (u : Int) (w : World) (R : Rd w a c 3 l.length (l.flatMap DMsg.cells)) (r : Int) (Hr : Hid (placeOf u l = r)) :
    Calls Tryz.prog 70 #[.agg #[.string xn, .int .i64 xv, .int .i64 xx, .slice a l.length c], .int .i64 u] w fun e w' => e = .returned (.int .i64 r) ∧ Ext w w' := by
  have hl : l.length ≤ 9223372036854775807 := Nat.le_trans R.nc R.cm
  have HR := Lib.hid R
  clear R
  have hr2 : firstI (fun x : DMsg => decide (x.uid = u)) l = r := by rw [← Hr.out]; rfl
  have HI := Lib.hid hr2
  clear hr2
  go_enter Tryz.func70, Tryz.ntmps70
  go_wp2_with fail
  go_loop [5] (fun i => ∃ k : Nat, k ≤ l.length ∧ i = .int .i64 k ∧ Hid (NoneTo (fun x : DMsg => decide (x.uid = u)) l k)) (fun i => l.length - (intOf i).toNat)
  case atStart => exact ⟨0, Nat.zero_le _, rfl, NoneTo.zero⟩
  case round =>
    obtain ⟨k, hk, rfl, HP⟩ := hrel
    by_cases hlt : k < l.length
    · obtain ⟨b, o, rfl, hb, hat⟩ := HR.out.ptr (by omega)
      obtain ⟨hx0, hx1, hx2⟩ := DMsg.at hat k hlt
      have HA := Lib.hid hat
      clear hat
      obtain ⟨d, hd⟩ : ∃ d, (l[k].uid == u) = d := ⟨_, rfl⟩
      have HD : Hid (decide (l[k].uid = u) = d) := by rw [← hd]; rfl
      cases d
      · go_wp2_with fail
        go_round
        case rel => exact ⟨k + 1, by omega, by go_num, NoneTo.succ HP.out hlt HD.out⟩
        case measure => simp [intOf]; omega
      · go_wp2_with fail
        go_ret
        refine ⟨ret_int ?_, (Below.refl _ _).alloc (Nat.le_refl _) _⟩
        rw [← HI.out, NoneTo.hit HP.out hlt HD.out]
    · go_wp2_with fail
      go_ret
      refine ⟨ret_int ?_, (Below.refl _ _).alloc (Nat.le_refl _) _⟩
      rw [← HI.out, NoneTo.all HP.out hlt]

set_option maxHeartbeats 1000000 in
theorem placeOfFn_any (x : DMsg) (b : Nat) (u : Int) (w : World) (hc : w.cell? ⟨b, 0, none⟩ = some (.int .i64 u)) (hb : b < w.heap.size) :
    Calls Tryz.prog 93 #[.agg #[.int .i64 x.uid, .int .i64 x.flags, .string x.text], .pointer (some ⟨b, 0, none⟩)] w fun e w' => e = .returned (.bool (x.uid == u)) ∧ Ext w w' := by
  go_enter Tryz.func93, Tryz.ntmps93
  go_wp2
  go_ret
  exact ⟨rfl, bxt⟩

set_option maxHeartbeats 1000000 in
theorem placeOfIdx_any (l : List DMsg) (a : Option Addr) (c : Nat) (b : Nat) (u : Int) (w : World) (R : Rd w a c 3 l.length (l.flatMap DMsg.cells)) (hc : w.cell? ⟨b, 0, none⟩ = some (.int .i64 u)) (hb : b < w.heap.size) (r : Int) (Hr : Hid (firstI (fun x : DMsg => decide (x.uid = u)) l = r)) :
    Calls Tryz.prog 92 #[.slice a l.length c, .func (.func 93) #[] #[.pointer (some ⟨b, 0, none⟩)]] w fun e w' => e = .returned (.int .i64 r) ∧ Ext w w' := by
  have hl : l.length ≤ 9223372036854775807 := Nat.le_trans R.nc R.cm
  have HR := Lib.hid R
  clear R
  go_enter Tryz.func92, Tryz.ntmps92
  have HC := Lib.hid hc
  clear hc
  go_wp2_with fail
  go_loopw [8] (fun i wr => ∃ k : Nat, k ≤ l.length ∧ i = .int .i64 k ∧ Hid (NoneTo (fun x : DMsg => decide (x.uid = u)) l k) ∧ Below w.heap.size w wr) (fun i _ => l.length - (intOf i).toNat)
  case atStart => exact ⟨0, Nat.zero_le _, rfl, NoneTo.zero, Below.refl _ _⟩
  case round =>
    obtain ⟨k, hk, rfl, HP, hbe⟩ := hrel
    by_cases hlt : k < l.length
    · obtain ⟨b1, o, rfl, hb1, hat⟩ := HR.out.ptr (by omega)
      obtain ⟨hx0, hx1, hx2⟩ := DMsg.at (hat.ext hb1 hbe) k hlt
      have HA := Lib.hid hat
      clear hat
      obtain ⟨d, hd⟩ : ∃ d, (l[k].uid == u) = d := ⟨_, rfl⟩
      have HD : Hid (decide (l[k].uid = u) = d) := by rw [← hd]; rfl
      have HC1 : wr.cell? ⟨b, 0, none⟩ = some (.int .i64 u) := by rw [(bcell hbe).1 _ _ hb]; exact HC.out
      have HC2 := Lib.hid HC1
      clear HC1
      have hbw : b < wr.heap.size := Nat.lt_of_lt_of_le hb hbe.size
      cases d
      · go_wp2_with ((go_at_call 93; refine (placeOfFn_any l[k] b u _ HC2.out hbw).mono ?_; rintro e w1 ⟨rfl, hb2⟩))
        go_roundw
        case rel => exact ⟨k + 1, by omega, by go_num, NoneTo.succ HP.out hlt HD.out, Below.ext hbe hb2⟩
        case measure => simp [intOf]; omega
      · go_wp2_with ((go_at_call 93; refine (placeOfFn_any l[k] b u _ HC2.out hbw).mono ?_; rintro e w1 ⟨rfl, hb2⟩))
        go_ret
        refine ⟨ret_int ?_, Below.ext hbe hb2⟩
        rw [← Hr.out, NoneTo.hit HP.out hlt HD.out]
    · go_wp2_with fail
      go_ret
      refine ⟨ret_int ?_, hbe⟩
      rw [← Hr.out, NoneTo.all HP.out hlt]

set_option maxHeartbeats 1000000 in
theorem implPlaceOf_any (xn : ByteArray) (xv xx : Int) (l : List DMsg) (a : Option Addr) (c : Nat) (u : Int) (w : World) (R : Rd w a c 3 l.length (l.flatMap DMsg.cells)) (r : Int) (Hr : Hid (placeOf u l = r)) :
    Calls Tryz.prog 75 #[.agg #[.string xn, .int .i64 xv, .int .i64 xx, .slice a l.length c], .int .i64 u] w fun e w' => e = .returned (.int .i64 r) ∧ Ext w w' := by
  have hl : l.length ≤ 9223372036854775807 := Nat.le_trans R.nc R.cm
  have HR := Lib.hid R
  clear R
  have hr2 : firstI (fun x : DMsg => decide (x.uid = u)) l = r := by rw [← Hr.out]; rfl
  have HI := Lib.hid hr2
  clear hr2
  go_enter Tryz.func75, Tryz.ntmps75
  go_wp2_with fail
  refine (placeOfIdx_any l _ _ _ u _ (HR.out.ext bxt) (by simp [go_sem]) (by simp) r HI).mono ?_
  rintro e w1 ⟨rfl, hb1⟩
  go_wp2_with fail
  go_ret
  exact ⟨rfl, bxt⟩

end Go.Proofs.YtemgabekckhckaaGreat
