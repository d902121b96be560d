/-
  A store that comes in, opened.
-/
import Derived.Test.YtmnalediohghiaaGreatFamStore
import Derived.Test.YtmnalediohghiaaGreatXOpen
namespace Go.Proofs.YtmnalediohghiaaGreat
open Go.RowKit
set_option linter.unusedVariables false
set_option linter.unusedSimpArgs false
open Go.Deep
section
variable {H : Type} {enc : TypeId × Value → H} {w : World} {base : Nat} {spare : Nat → Bool} {held : Bool} {fuel : Nat} {cs : List Value} {x : DataW H × List MemPlace}
theorem c_lStore : Tryz.prog.cellsOf 25 = 3 := by kernel_rfl
theorem c_lBoxes : Tryz.prog.cellsOf 22 = 1 := by kernel_rfl
theorem c_lLog : Tryz.prog.cellsOf 23 = 1 := by kernel_rfl
theorem open_lStore (h : DataW.trod enc Tryz.prog w base spare held fuel 25 cs = some x) : ∃ (xb : List PBox) (xbA : Option Addr) (xbC : Nat) (xl : List DCommit) (xlA : Option Addr) (xlC : Nat) (xg : Int), cs = [.slice xbA xb.length xbC, .slice xlA xl.length xlC, .int .i64 xg] ∧ Rd w xbA xbC 4 xb.length (xb.flatMap PBox.cells) ∧ Rd w xlA xlC 6 xl.length (xl.flatMap DCommit.cells) ∧ (∀ p ∈ xb, Rd w p.ma p.mc 3 p.msgs.length (p.msgs.flatMap DMsg.cells) ∧ p.name.size ≤ 9223372036854775807 ∧ ∀ y ∈ p.msgs, y.text.size ≤ 9223372036854775807) ∧ (∀ a ∈ xl, a.name.size ≤ 9223372036854775807 ∧ a.text.size ≤ 9223372036854775807) := by
  obtain ⟨hl, n, hf⟩ := open_struct Tryz.underlying25 h
  rw [c_lStore] at hl
  obtain ⟨c0, c1, c2, rfl⟩ := list3 hl
  obtain ⟨y0, hh0⟩ := hf 0 _ rfl
  have h0 : DataW.trod enc Tryz.prog w base spare held n 22 (List.take (Tryz.prog.cellsOf 22) (List.drop 0 [c0, c1, c2])) = some y0 := hh0
  clear hh0
  rw [c_lBoxes] at h0
  simp only [List.drop_succ_cons, List.drop_zero, List.take_succ_cons, List.take_zero] at h0
  obtain ⟨a0, q0, v0, e0, r0, g0⟩ := open_flat Tryz.underlying22 c_lBox (by omega) PBox.cells PBox.cells_len (fun p => Rd w p.ma p.mc 3 p.msgs.length (p.msgs.flatMap DMsg.cells) ∧ p.name.size ≤ 9223372036854775807 ∧ ∀ y ∈ p.msgs, y.text.size ≤ 9223372036854775807) (fun _ _ _ h => by
      obtain ⟨n, v, x, l, A, C, rfl, hR, hn, ht⟩ := open_lBox h
      exact ⟨⟨n, v, x, l, A, C⟩, rfl, hR, hn, ht⟩) h0
  simp only [List.cons.injEq, and_true] at e0
  obtain ⟨y1, hh1⟩ := hf 1 _ rfl
  have h1 : DataW.trod enc Tryz.prog w base spare held n 23 (List.take (Tryz.prog.cellsOf 23) (List.drop 1 [c0, c1, c2])) = some y1 := hh1
  clear hh1
  rw [c_lLog] at h1
  simp only [List.drop_succ_cons, List.drop_zero, List.take_succ_cons, List.take_zero] at h1
  obtain ⟨a1, q1, v1, e1, r1, g1⟩ := open_flat Tryz.underlying23 c_lCommit (by omega) DCommit.cells DCommit.cells_len (fun a => a.name.size ≤ 9223372036854775807 ∧ a.text.size ≤ 9223372036854775807) (fun _ _ _ h => open_lCommit h) h1
  simp only [List.cons.injEq, and_true] at e1
  obtain ⟨y2, hh2⟩ := hf 2 _ rfl
  have h2 : DataW.trod enc Tryz.prog w base spare held n 3 (List.take (Tryz.prog.cellsOf 3) (List.drop 2 [c0, c1, c2])) = some y2 := hh2
  clear hh2
  rw [c_i] at h2
  simp only [List.drop_succ_cons, List.drop_zero, List.take_succ_cons, List.take_zero] at h2
  obtain ⟨v2, e2, -, -⟩ := DataW.trod_int Tryz.underlying3 h2
  simp only [List.cons.injEq, and_true] at e2
  subst e0 e1 e2
  exact ⟨v0, a0, q0, v1, a1, q1, v2, rfl, r0, r1, g0, g1⟩
end
end Go.Proofs.YtmnalediohghiaaGreat
