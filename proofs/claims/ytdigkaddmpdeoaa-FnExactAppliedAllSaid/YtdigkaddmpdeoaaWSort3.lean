/-
  The library's SortFunc over few mailboxes.
-/
import Derived.Test.YtdigkaddmpdeoaaWSort2
import Derived.Shelf.Strconv.Itoa0
namespace Go.Proofs.Ytdigkaddmpdeoaa
open Go.RowKit Go.Shelf
set_option linter.unusedVariables false
set_option linter.unusedSimpArgs false
set_option maxRecDepth 100000
def renF2 : Nat → Nat
  | 129 => 132
  | n => n
def renT2 : Nat → Nat
  | 3 => 3
  | 4 => 4
  | 5 => 5
  | 9 => 9
  | 46 => 127
  | 53 => 143
  | n => n
def ren2 : Ren := ⟨renF2, renT2, fun _ => 0⟩
theorem lays129 : Lays.n129 Try.prog ren2 where
  mixed := by kernel_rfl
  f129 := Try.func132
  t3 := by kernel_rfl
  a3 := fun w => by kernel_rfl
  z3 := fun w => by kernel_rfl
  v3 := fun w => by kernel_rfl
  t4 := by kernel_rfl
  a4 := fun w => by kernel_rfl
  z4 := fun w => by kernel_rfl
  v4 := fun w => by kernel_rfl
  t5 := by kernel_rfl
  a5 := fun w => by kernel_rfl
  z5 := fun w => by kernel_rfl
  v5 := fun w => by kernel_rfl
  t9 := by kernel_rfl
  a9 := fun w => by kernel_rfl
  z9 := fun w => by kernel_rfl
  v9 := fun w => by kernel_rfl
  t46 := by kernel_rfl
  a46 := fun w => by kernel_rfl
  z46 := fun w => by kernel_rfl
  v46 := fun w => by kernel_rfl
  t53 := by kernel_rfl
  a53 := fun w => by kernel_rfl
  z53 := fun w => by kernel_rfl
  v53 := fun w => by kernel_rfl

set_option maxHeartbeats 1000000 in
theorem bitsLen_any (x : Int) (w : World) (h0 : 0 ≤ x) (h1 : x ≤ 1000) : Calls Try.prog 120 #[.int .u64 x] w fun e w' => e = .returned (.int .i64 (Lib.bitLen x.toNat)) ∧ w' = w := by
  have hu : IntKind.u64.wrap x = x := IntWalk.u64_in _ (by omega)
  go_enter Try.func120, Try.ntmps120
  go_wp2_with ((go_at_call 132; refine (Any.bits_Len64 lays129 x _ h0 (by omega)).mono ?_; rintro e wx ⟨rfl, hwx⟩; subst wx))
  go_ret
  exact ⟨rfl, rfl⟩

set_option maxHeartbeats 4000000 in
theorem pdq_any (l : List PBox) (g c B : Nat) (lim : Int) (w : World) (h : OwnBs w B 73 95 (some ⟨g, 0, none⟩) c l) (hc : c ≠ 0) (hl : l.length ≤ 12) :
    Calls Try.prog 119 #[.slice (some ⟨g, 0, none⟩) l.length c, .int .i64 0, .int .i64 l.length, .int .i64 lim, .func (.func 104) #[] #[]] w fun e w' => e = .returned (.tuple #[]) ∧ ∃ l', OwnBs w' B 73 95 (some ⟨g, 0, none⟩) c l' ∧ l'.Perm l ∧ SortTo l' l.length ∧ Chg (rowsB (some ⟨g, 0, none⟩) c l) w w' := by
  have H := Lib.hid h
  have HC := Lib.hid hc
  clear h hc
  have h9 : IntKind.i64.wrap (l.length : Int) = (l.length : Int) := IntWalk.i64_in _ (by omega)
  have h9b : IntKind.i64.wrap ((l.length : Int) - 0) = (l.length : Int) := by rw [Int.sub_zero]; exact h9
  have h12 : decide ((l.length : Int) ≤ 12) = true := decide_eq_true (by omega)
  have h12n : decide (l.length ≤ 12) = true := decide_eq_true hl
  go_enter Try.func119, Try.ntmps119
  go_wp2_with fail
  go_loopw [1, 2] (fun av bv wr => av = .int .i64 0 ∧ bv = .int .i64 l.length ∧ wr = w) (fun _ _ _ => 0)
  case atStart => exact ⟨rfl, rfl, rfl⟩
  case round =>
    obtain ⟨rfl, rfl, hwr⟩ := hrel
    subst hwr
    go_wp2_with fail
    refine (insSort_any l g c B _ H.out HC.out hl).mono ?_
    rintro e w1 ⟨rfl, hpost⟩
    have HP := Lib.hid hpost
    clear hpost
    go_wp2_with fail
    first
      | exact bodyPost_ret (results_none rfl _ _ _) rfl ⟨rfl, HP.out⟩
      | exact bodyPost_end (results_none rfl _ _ _) rfl ⟨rfl, HP.out⟩

set_option maxHeartbeats 4000000 in
theorem sortBoxes_any (l : List PBox) (g c B : Nat) (w : World) (h : OwnBs w B 73 95 (some ⟨g, 0, none⟩) c l) (hc : c ≠ 0) (hl : l.length ≤ 12) :
    Calls Try.prog 103 #[.slice (some ⟨g, 0, none⟩) l.length c, .func (.func 104) #[] #[]] w fun e w' => e = .returned (.tuple #[]) ∧ ∃ l', OwnBs w' B 73 95 (some ⟨g, 0, none⟩) c l' ∧ l'.Perm l ∧ SortTo l' l.length ∧ Chg (rowsB (some ⟨g, 0, none⟩) c l) w w' := by
  have H := Lib.hid h
  have HC := Lib.hid hc
  clear h hc
  have hu : IntKind.u64.wrap (l.length : Int) = (l.length : Int) := IntWalk.u64_in _ (by omega)
  go_enter Try.func103, Try.ntmps103
  go_wp2_with ((go_at_call 120; refine (bitsLen_any (l.length : Int) _ (by omega) (by omega)).mono ?_; rintro e wx ⟨rfl, hwx⟩; subst wx))
  refine (pdq_any l g c B _ _ H.out HC.out hl).mono ?_
  rintro e w1 ⟨rfl, hpost⟩
  have HP := Lib.hid hpost
  clear hpost
  go_wp2_with fail
  first
    | exact bodyPost_ret (results_none rfl _ _ _) rfl ⟨rfl, HP.out⟩
    | exact bodyPost_end (results_none rfl _ _ _) rfl ⟨rfl, HP.out⟩
end Go.Proofs.Ytdigkaddmpdeoaa
