/-
  A new cursor over the bytes of a draw.
-/
import Derived.Test.YtgobkfnmagcgcaaDraw2
namespace Go.Proofs.Ytgobkfnmagcgcaa
open Go.RowKit
set_option linter.unusedVariables false
set_option linter.unusedSimpArgs false

def DrNew (w : World) (e : Ending) (w' : World) : Prop := ∃ cb : Nat, w.heap.size ≤ cb ∧ e = .returned (.pointer (some ⟨cb, 0, none⟩)) ∧ Cur w' cb ∧ Ext w w'
theorem Cur.mk0 {w : World} {T g : Nat} (hg : w.heap.size = g) (l : List Int) (a : Option Addr) (c : Nat) (h : Int) (R : Rd w a c 1 l.length (l.flatMap byteCells)) (hb : ∀ y ∈ l, 0 ≤ y ∧ y ≤ 255) (hl : l.length ≤ 1048576) :
    Cur (w.alloc (.cells #[.slice a l.length c, .int .i64 0, .int .i64 h] T)) g := by
  subst hg
  refine ⟨by simp, ⟨by simp [go_sem], by simp [go_sem], by simp [go_sem]⟩, a, c, l, 0, h, by simp [go_sem], by simp [go_sem], by simp [go_sem], Nat.zero_le _, hl, hb, R.ext ((Below.refl _ _).alloc (Nat.le_refl _) _), fun h0 b o e => ?_⟩
  obtain ⟨b0, o0, rfl, hb0, -⟩ := R.ptr h0
  simp at e
  omega
set_option maxRecDepth 100000 in
set_option maxHeartbeats 1000000 in
theorem l1New_any (l : List Int) (a : Option Addr) (c : Nat) (w : World) (R : Rd w a c 1 l.length (l.flatMap byteCells)) (hb : ∀ y ∈ l, 0 ≤ y ∧ y ≤ 255) (hl : l.length ≤ 1048576) :
    Calls Try.prog 43 #[.slice a l.length c] w (DrNew w) := by
  have HR := Lib.hid R
  have HB := Lib.hid hb
  clear R hb
  go_enter Try.func43, Try.ntmps43
  go_wp2_with fail
  go_loop [3, 4] (fun x i => ∃ (k : Nat) (h : Int), k ≤ l.length ∧ i = .int .i64 k ∧ x = .int .i64 h) (fun _ i => l.length - (intOf i).toNat)
  case atStart => exact ⟨0, _, Nat.zero_le _, rfl, rfl⟩
  case round =>
    obtain ⟨k, h, hk, rfl, rfl⟩ := hrel
    by_cases hlt : k < l.length
    · have k1 : decide ((k : Int) < (l.length : Int)) = true := decide_eq_true (by omega)
      have k3 : (0 : Int) ≤ (k : Int) := by omega
      have k4 : (k : Int) < (l.length : Int) := by omega
      by_cases hlt2 : (k : Int) < 4000
      · obtain ⟨b, o, rfl, hbb, hat⟩ := HR.out.ptr (by omega)
        have hx := byteCells_at hat k hlt
        have hy := HB.out _ (List.getElem_mem hlt)
        have HAT := Lib.hid hat
        clear hat
        go_wp2_with fail
        go_round
        case rel => exact ⟨k + 1, _, by omega, by go_num, rfl⟩
        case measure => simp [intOf]; omega
      · have k2 : decide ((k : Int) < 4000) = false := decide_eq_false hlt2
        go_wp2_with fail
        go_ret
        exact ⟨w.heap.size, Nat.le_refl _, rfl, Cur.mk0 rfl l a c h HR.out HB.out hl, bxt⟩
    · have k1 : decide ((k : Int) < (l.length : Int)) = false := decide_eq_false (by omega)
      go_wp2_with fail
      go_ret
      exact ⟨w.heap.size, Nat.le_refl _, rfl, Cur.mk0 rfl l a c h HR.out HB.out hl, bxt⟩
end Go.Proofs.Ytgobkfnmagcgcaa
