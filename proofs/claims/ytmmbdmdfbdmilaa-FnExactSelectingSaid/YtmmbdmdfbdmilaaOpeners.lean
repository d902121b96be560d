/-
  The laws' plain data, opened: what a reading says of the cells.
-/
import Derived.Test.YtmmbdmdfbdmilaaOpen
namespace Go.Proofs.Ytmmbdmdfbdmilaa
open Go.RowKit
set_option linter.unusedVariables false
set_option linter.unusedSimpArgs false
open Go.Deep
section
variable {H : Type} {enc : TypeId × Value → H} {w : World} {base : Nat} {spare : Nat → Bool} {held : Bool} {fuel : Nat} {cs : List Value} {x : DataW H × List MemPlace}
theorem c_i : Try.prog.cellsOf 3 = 1 := by kernel_rfl
theorem c_s : Try.prog.cellsOf 9 = 1 := by kernel_rfl
theorem c_b : Try.prog.cellsOf 4 = 1 := by kernel_rfl
instance : Inhabited DSeen := ⟨⟨0, 0⟩⟩
theorem c_lSeen : Try.prog.cellsOf 125 = 2 := by kernel_rfl
theorem open_lSeen (h : DataW.trod enc Try.prog w base spare held fuel 125 cs = some x) : ∃ a : DSeen, cs = a.cells ∧ True := by
  obtain ⟨hl, n, hf⟩ := open_struct Try.underlying125 h
  rw [c_lSeen] at hl
  obtain ⟨c0, c1, rfl⟩ := list2 hl
  obtain ⟨y0, hh0⟩ := hf 0 _ rfl
  have h0 : DataW.trod enc Try.prog w base spare held n 3 (List.take (Try.prog.cellsOf 3) (List.drop 0 [c0, c1])) = some y0 := hh0
  clear hh0
  rw [c_i] at h0
  simp only [List.drop_succ_cons, List.drop_zero, List.take_succ_cons, List.take_zero] at h0
  obtain ⟨v0, e0, -, -⟩ := DataW.trod_int Try.underlying3 h0
  simp only [List.cons.injEq, and_true] at e0
  obtain ⟨y1, hh1⟩ := hf 1 _ rfl
  have h1 : DataW.trod enc Try.prog w base spare held n 3 (List.take (Try.prog.cellsOf 3) (List.drop 1 [c0, c1])) = some y1 := hh1
  clear hh1
  rw [c_i] at h1
  simp only [List.drop_succ_cons, List.drop_zero, List.take_succ_cons, List.take_zero] at h1
  obtain ⟨v1, e1, -, -⟩ := DataW.trod_int Try.underlying3 h1
  simp only [List.cons.injEq, and_true] at e1
  subst e0 e1
  exact ⟨⟨v0, v1⟩, rfl, trivial⟩
instance : Inhabited DMsg := ⟨⟨0, 0, ByteArray.empty⟩⟩
theorem c_lMsg : Try.prog.cellsOf 128 = 3 := by kernel_rfl
theorem open_lMsg (h : DataW.trod enc Try.prog w base spare held fuel 128 cs = some x) : ∃ a : DMsg, cs = a.cells ∧ a.text.size ≤ 9223372036854775807 := by
  obtain ⟨hl, n, hf⟩ := open_struct Try.underlying128 h
  rw [c_lMsg] at hl
  obtain ⟨c0, c1, c2, rfl⟩ := list3 hl
  obtain ⟨y0, hh0⟩ := hf 0 _ rfl
  have h0 : DataW.trod enc Try.prog w base spare held n 3 (List.take (Try.prog.cellsOf 3) (List.drop 0 [c0, c1, c2])) = some y0 := hh0
  clear hh0
  rw [c_i] at h0
  simp only [List.drop_succ_cons, List.drop_zero, List.take_succ_cons, List.take_zero] at h0
  obtain ⟨v0, e0, -, -⟩ := DataW.trod_int Try.underlying3 h0
  simp only [List.cons.injEq, and_true] at e0
  obtain ⟨y1, hh1⟩ := hf 1 _ rfl
  have h1 : DataW.trod enc Try.prog w base spare held n 3 (List.take (Try.prog.cellsOf 3) (List.drop 1 [c0, c1, c2])) = some y1 := hh1
  clear hh1
  rw [c_i] at h1
  simp only [List.drop_succ_cons, List.drop_zero, List.take_succ_cons, List.take_zero] at h1
  obtain ⟨v1, e1, -, -⟩ := DataW.trod_int Try.underlying3 h1
  simp only [List.cons.injEq, and_true] at e1
  obtain ⟨y2, hh2⟩ := hf 2 _ rfl
  have h2 : DataW.trod enc Try.prog w base spare held n 9 (List.take (Try.prog.cellsOf 9) (List.drop 2 [c0, c1, c2])) = some y2 := hh2
  clear hh2
  rw [c_s] at h2
  simp only [List.drop_succ_cons, List.drop_zero, List.take_succ_cons, List.take_zero] at h2
  obtain ⟨v2, e2, -, g2⟩ := DataW.trod_string Try.underlying9 h2
  unfold maxLen at g2
  simp only [List.cons.injEq, and_true] at e2
  subst e0 e1 e2
  exact ⟨⟨v0, v1, v2⟩, rfl, g2⟩
instance : Inhabited DCommit := ⟨⟨0, 0, 0, 0, ByteArray.empty, ByteArray.empty⟩⟩
theorem c_lCommit : Try.prog.cellsOf 55 = 6 := by kernel_rfl
theorem open_lCommit (h : DataW.trod enc Try.prog w base spare held fuel 55 cs = some x) : ∃ a : DCommit, cs = a.cells ∧ a.name.size ≤ 9223372036854775807 ∧ a.text.size ≤ 9223372036854775807 := by
  obtain ⟨hl, n, hf⟩ := open_struct Try.underlying55 h
  rw [c_lCommit] at hl
  obtain ⟨c0, c1, c2, c3, c4, c5, rfl⟩ := list6 hl
  obtain ⟨y0, hh0⟩ := hf 0 _ rfl
  have h0 : DataW.trod enc Try.prog w base spare held n 3 (List.take (Try.prog.cellsOf 3) (List.drop 0 [c0, c1, c2, c3, c4, c5])) = some y0 := hh0
  clear hh0
  rw [c_i] at h0
  simp only [List.drop_succ_cons, List.drop_zero, List.take_succ_cons, List.take_zero] at h0
  obtain ⟨v0, e0, -, -⟩ := DataW.trod_int Try.underlying3 h0
  simp only [List.cons.injEq, and_true] at e0
  obtain ⟨y1, hh1⟩ := hf 1 _ rfl
  have h1 : DataW.trod enc Try.prog w base spare held n 3 (List.take (Try.prog.cellsOf 3) (List.drop 1 [c0, c1, c2, c3, c4, c5])) = some y1 := hh1
  clear hh1
  rw [c_i] at h1
  simp only [List.drop_succ_cons, List.drop_zero, List.take_succ_cons, List.take_zero] at h1
  obtain ⟨v1, e1, -, -⟩ := DataW.trod_int Try.underlying3 h1
  simp only [List.cons.injEq, and_true] at e1
  obtain ⟨y2, hh2⟩ := hf 2 _ rfl
  have h2 : DataW.trod enc Try.prog w base spare held n 3 (List.take (Try.prog.cellsOf 3) (List.drop 2 [c0, c1, c2, c3, c4, c5])) = some y2 := hh2
  clear hh2
  rw [c_i] at h2
  simp only [List.drop_succ_cons, List.drop_zero, List.take_succ_cons, List.take_zero] at h2
  obtain ⟨v2, e2, -, -⟩ := DataW.trod_int Try.underlying3 h2
  simp only [List.cons.injEq, and_true] at e2
  obtain ⟨y3, hh3⟩ := hf 3 _ rfl
  have h3 : DataW.trod enc Try.prog w base spare held n 3 (List.take (Try.prog.cellsOf 3) (List.drop 3 [c0, c1, c2, c3, c4, c5])) = some y3 := hh3
  clear hh3
  rw [c_i] at h3
  simp only [List.drop_succ_cons, List.drop_zero, List.take_succ_cons, List.take_zero] at h3
  obtain ⟨v3, e3, -, -⟩ := DataW.trod_int Try.underlying3 h3
  simp only [List.cons.injEq, and_true] at e3
  obtain ⟨y4, hh4⟩ := hf 4 _ rfl
  have h4 : DataW.trod enc Try.prog w base spare held n 9 (List.take (Try.prog.cellsOf 9) (List.drop 4 [c0, c1, c2, c3, c4, c5])) = some y4 := hh4
  clear hh4
  rw [c_s] at h4
  simp only [List.drop_succ_cons, List.drop_zero, List.take_succ_cons, List.take_zero] at h4
  obtain ⟨v4, e4, -, g4⟩ := DataW.trod_string Try.underlying9 h4
  unfold maxLen at g4
  simp only [List.cons.injEq, and_true] at e4
  obtain ⟨y5, hh5⟩ := hf 5 _ rfl
  have h5 : DataW.trod enc Try.prog w base spare held n 9 (List.take (Try.prog.cellsOf 9) (List.drop 5 [c0, c1, c2, c3, c4, c5])) = some y5 := hh5
  clear hh5
  rw [c_s] at h5
  simp only [List.drop_succ_cons, List.drop_zero, List.take_succ_cons, List.take_zero] at h5
  obtain ⟨v5, e5, -, g5⟩ := DataW.trod_string Try.underlying9 h5
  unfold maxLen at g5
  simp only [List.cons.injEq, and_true] at e5
  subst e0 e1 e2 e3 e4 e5
  exact ⟨⟨v0, v1, v2, v3, v4, v5⟩, rfl, g4, g5⟩
instance : Inhabited DReply := ⟨⟨0, 0, 0, 0, ByteArray.empty, ByteArray.empty⟩⟩
theorem c_lReply : Try.prog.cellsOf 87 = 6 := by kernel_rfl
theorem open_lReply (h : DataW.trod enc Try.prog w base spare held fuel 87 cs = some x) : ∃ a : DReply, cs = a.cells ∧ a.name.size ≤ 9223372036854775807 ∧ a.text.size ≤ 9223372036854775807 := by
  obtain ⟨hl, n, hf⟩ := open_struct Try.underlying87 h
  rw [c_lReply] at hl
  obtain ⟨c0, c1, c2, c3, c4, c5, rfl⟩ := list6 hl
  obtain ⟨y0, hh0⟩ := hf 0 _ rfl
  have h0 : DataW.trod enc Try.prog w base spare held n 3 (List.take (Try.prog.cellsOf 3) (List.drop 0 [c0, c1, c2, c3, c4, c5])) = some y0 := hh0
  clear hh0
  rw [c_i] at h0
  simp only [List.drop_succ_cons, List.drop_zero, List.take_succ_cons, List.take_zero] at h0
  obtain ⟨v0, e0, -, -⟩ := DataW.trod_int Try.underlying3 h0
  simp only [List.cons.injEq, and_true] at e0
  obtain ⟨y1, hh1⟩ := hf 1 _ rfl
  have h1 : DataW.trod enc Try.prog w base spare held n 3 (List.take (Try.prog.cellsOf 3) (List.drop 1 [c0, c1, c2, c3, c4, c5])) = some y1 := hh1
  clear hh1
  rw [c_i] at h1
  simp only [List.drop_succ_cons, List.drop_zero, List.take_succ_cons, List.take_zero] at h1
  obtain ⟨v1, e1, -, -⟩ := DataW.trod_int Try.underlying3 h1
  simp only [List.cons.injEq, and_true] at e1
  obtain ⟨y2, hh2⟩ := hf 2 _ rfl
  have h2 : DataW.trod enc Try.prog w base spare held n 3 (List.take (Try.prog.cellsOf 3) (List.drop 2 [c0, c1, c2, c3, c4, c5])) = some y2 := hh2
  clear hh2
  rw [c_i] at h2
  simp only [List.drop_succ_cons, List.drop_zero, List.take_succ_cons, List.take_zero] at h2
  obtain ⟨v2, e2, -, -⟩ := DataW.trod_int Try.underlying3 h2
  simp only [List.cons.injEq, and_true] at e2
  obtain ⟨y3, hh3⟩ := hf 3 _ rfl
  have h3 : DataW.trod enc Try.prog w base spare held n 3 (List.take (Try.prog.cellsOf 3) (List.drop 3 [c0, c1, c2, c3, c4, c5])) = some y3 := hh3
  clear hh3
  rw [c_i] at h3
  simp only [List.drop_succ_cons, List.drop_zero, List.take_succ_cons, List.take_zero] at h3
  obtain ⟨v3, e3, -, -⟩ := DataW.trod_int Try.underlying3 h3
  simp only [List.cons.injEq, and_true] at e3
  obtain ⟨y4, hh4⟩ := hf 4 _ rfl
  have h4 : DataW.trod enc Try.prog w base spare held n 9 (List.take (Try.prog.cellsOf 9) (List.drop 4 [c0, c1, c2, c3, c4, c5])) = some y4 := hh4
  clear hh4
  rw [c_s] at h4
  simp only [List.drop_succ_cons, List.drop_zero, List.take_succ_cons, List.take_zero] at h4
  obtain ⟨v4, e4, -, g4⟩ := DataW.trod_string Try.underlying9 h4
  unfold maxLen at g4
  simp only [List.cons.injEq, and_true] at e4
  obtain ⟨y5, hh5⟩ := hf 5 _ rfl
  have h5 : DataW.trod enc Try.prog w base spare held n 9 (List.take (Try.prog.cellsOf 9) (List.drop 5 [c0, c1, c2, c3, c4, c5])) = some y5 := hh5
  clear hh5
  rw [c_s] at h5
  simp only [List.drop_succ_cons, List.drop_zero, List.take_succ_cons, List.take_zero] at h5
  obtain ⟨v5, e5, -, g5⟩ := DataW.trod_string Try.underlying9 h5
  unfold maxLen at g5
  simp only [List.cons.injEq, and_true] at e5
  subst e0 e1 e2 e3 e4 e5
  exact ⟨⟨v0, v1, v2, v3, v4, v5⟩, rfl, g4, g5⟩
theorem c_lView : Try.prog.cellsOf 53 = 1 := by kernel_rfl
theorem c_22 : Try.prog.cellsOf 22 = 1 := by kernel_rfl
theorem open_lView (h : DataW.trod enc Try.prog w base spare held fuel 53 cs = some x) : ∃ (xknown : List DSeen) (xknownA : Option Addr) (xknownC : Nat), cs = [.slice xknownA xknown.length xknownC] ∧ Rd w xknownA xknownC 2 xknown.length (xknown.flatMap DSeen.cells) := by
  obtain ⟨hl, n, hf⟩ := open_struct Try.underlying53 h
  rw [c_lView] at hl
  obtain ⟨c0, rfl⟩ := list1 hl
  obtain ⟨y0, hh0⟩ := hf 0 _ rfl
  have h0 : DataW.trod enc Try.prog w base spare held n 22 (List.take (Try.prog.cellsOf 22) (List.drop 0 [c0])) = some y0 := hh0
  clear hh0
  rw [c_22] at h0
  simp only [List.drop_succ_cons, List.drop_zero, List.take_succ_cons, List.take_zero] at h0
  obtain ⟨a0, q0, v0, e0, r0, g0⟩ := open_flat Try.underlying22 c_lSeen (by omega) DSeen.cells DSeen.cells_len (fun a => True) (fun _ _ _ h => open_lSeen h) h0
  simp only [List.cons.injEq, and_true] at e0
  subst e0
  exact ⟨v0, a0, q0, rfl, r0⟩
theorem c_lClient : Try.prog.cellsOf 24 = 6 := by kernel_rfl
theorem open_lClient (h : DataW.trod enc Try.prog w base spare held fuel 24 cs = some x) : ∃ (xactive : Bool) (xname : ByteArray) (xvalidity : Int) (xsize : Int) (xknown : List DSeen) (xknownA : Option Addr) (xknownC : Nat) (xbad : Bool), cs = [.bool xactive, .string xname, .int .i64 xvalidity, .int .i64 xsize, .slice xknownA xknown.length xknownC, .bool xbad] ∧ Rd w xknownA xknownC 2 xknown.length (xknown.flatMap DSeen.cells) ∧ xname.size ≤ 9223372036854775807 := by
  obtain ⟨hl, n, hf⟩ := open_struct Try.underlying24 h
  rw [c_lClient] at hl
  obtain ⟨c0, c1, c2, c3, c4, c5, rfl⟩ := list6 hl
  obtain ⟨y0, hh0⟩ := hf 0 _ rfl
  have h0 : DataW.trod enc Try.prog w base spare held n 4 (List.take (Try.prog.cellsOf 4) (List.drop 0 [c0, c1, c2, c3, c4, c5])) = some y0 := hh0
  clear hh0
  rw [c_b] at h0
  simp only [List.drop_succ_cons, List.drop_zero, List.take_succ_cons, List.take_zero] at h0
  obtain ⟨v0, e0, -⟩ := DataW.trod_bool Try.underlying4 h0
  simp only [List.cons.injEq, and_true] at e0
  obtain ⟨y1, hh1⟩ := hf 1 _ rfl
  have h1 : DataW.trod enc Try.prog w base spare held n 9 (List.take (Try.prog.cellsOf 9) (List.drop 1 [c0, c1, c2, c3, c4, c5])) = some y1 := hh1
  clear hh1
  rw [c_s] at h1
  simp only [List.drop_succ_cons, List.drop_zero, List.take_succ_cons, List.take_zero] at h1
  obtain ⟨v1, e1, -, g1⟩ := DataW.trod_string Try.underlying9 h1
  unfold maxLen at g1
  simp only [List.cons.injEq, and_true] at e1
  obtain ⟨y2, hh2⟩ := hf 2 _ rfl
  have h2 : DataW.trod enc Try.prog w base spare held n 3 (List.take (Try.prog.cellsOf 3) (List.drop 2 [c0, c1, c2, c3, c4, c5])) = some y2 := hh2
  clear hh2
  rw [c_i] at h2
  simp only [List.drop_succ_cons, List.drop_zero, List.take_succ_cons, List.take_zero] at h2
  obtain ⟨v2, e2, -, -⟩ := DataW.trod_int Try.underlying3 h2
  simp only [List.cons.injEq, and_true] at e2
  obtain ⟨y3, hh3⟩ := hf 3 _ rfl
  have h3 : DataW.trod enc Try.prog w base spare held n 3 (List.take (Try.prog.cellsOf 3) (List.drop 3 [c0, c1, c2, c3, c4, c5])) = some y3 := hh3
  clear hh3
  rw [c_i] at h3
  simp only [List.drop_succ_cons, List.drop_zero, List.take_succ_cons, List.take_zero] at h3
  obtain ⟨v3, e3, -, -⟩ := DataW.trod_int Try.underlying3 h3
  simp only [List.cons.injEq, and_true] at e3
  obtain ⟨y4, hh4⟩ := hf 4 _ rfl
  have h4 : DataW.trod enc Try.prog w base spare held n 22 (List.take (Try.prog.cellsOf 22) (List.drop 4 [c0, c1, c2, c3, c4, c5])) = some y4 := hh4
  clear hh4
  rw [c_22] at h4
  simp only [List.drop_succ_cons, List.drop_zero, List.take_succ_cons, List.take_zero] at h4
  obtain ⟨a4, q4, v4, e4, r4, g4⟩ := open_flat Try.underlying22 c_lSeen (by omega) DSeen.cells DSeen.cells_len (fun a => True) (fun _ _ _ h => open_lSeen h) h4
  simp only [List.cons.injEq, and_true] at e4
  obtain ⟨y5, hh5⟩ := hf 5 _ rfl
  have h5 : DataW.trod enc Try.prog w base spare held n 4 (List.take (Try.prog.cellsOf 4) (List.drop 5 [c0, c1, c2, c3, c4, c5])) = some y5 := hh5
  clear hh5
  rw [c_b] at h5
  simp only [List.drop_succ_cons, List.drop_zero, List.take_succ_cons, List.take_zero] at h5
  obtain ⟨v5, e5, -⟩ := DataW.trod_bool Try.underlying4 h5
  simp only [List.cons.injEq, and_true] at e5
  subst e0 e1 e2 e3 e4 e5
  exact ⟨v0, v1, v2, v3, v4, a4, q4, v5, rfl, r4, g1⟩
theorem c_lBox : Try.prog.cellsOf 42 = 4 := by kernel_rfl
theorem c_40 : Try.prog.cellsOf 40 = 1 := by kernel_rfl
theorem open_lBox (h : DataW.trod enc Try.prog w base spare held fuel 42 cs = some x) : ∃ (xname : ByteArray) (xvalidity : Int) (xnext : Int) (xmsgs : List DMsg) (xmsgsA : Option Addr) (xmsgsC : Nat), cs = [.string xname, .int .i64 xvalidity, .int .i64 xnext, .slice xmsgsA xmsgs.length xmsgsC] ∧ Rd w xmsgsA xmsgsC 3 xmsgs.length (xmsgs.flatMap DMsg.cells) ∧ xname.size ≤ 9223372036854775807 ∧ (∀ y ∈ xmsgs, y.text.size ≤ 9223372036854775807) := by
  obtain ⟨hl, n, hf⟩ := open_struct Try.underlying42 h
  rw [c_lBox] at hl
  obtain ⟨c0, c1, c2, c3, rfl⟩ := list4 hl
  obtain ⟨y0, hh0⟩ := hf 0 _ rfl
  have h0 : DataW.trod enc Try.prog w base spare held n 9 (List.take (Try.prog.cellsOf 9) (List.drop 0 [c0, c1, c2, c3])) = some y0 := hh0
  clear hh0
  rw [c_s] at h0
  simp only [List.drop_succ_cons, List.drop_zero, List.take_succ_cons, List.take_zero] at h0
  obtain ⟨v0, e0, -, g0⟩ := DataW.trod_string Try.underlying9 h0
  unfold maxLen at g0
  simp only [List.cons.injEq, and_true] at e0
  obtain ⟨y1, hh1⟩ := hf 1 _ rfl
  have h1 : DataW.trod enc Try.prog w base spare held n 3 (List.take (Try.prog.cellsOf 3) (List.drop 1 [c0, c1, c2, c3])) = some y1 := hh1
  clear hh1
  rw [c_i] at h1
  simp only [List.drop_succ_cons, List.drop_zero, List.take_succ_cons, List.take_zero] at h1
  obtain ⟨v1, e1, -, -⟩ := DataW.trod_int Try.underlying3 h1
  simp only [List.cons.injEq, and_true] at e1
  obtain ⟨y2, hh2⟩ := hf 2 _ rfl
  have h2 : DataW.trod enc Try.prog w base spare held n 3 (List.take (Try.prog.cellsOf 3) (List.drop 2 [c0, c1, c2, c3])) = some y2 := hh2
  clear hh2
  rw [c_i] at h2
  simp only [List.drop_succ_cons, List.drop_zero, List.take_succ_cons, List.take_zero] at h2
  obtain ⟨v2, e2, -, -⟩ := DataW.trod_int Try.underlying3 h2
  simp only [List.cons.injEq, and_true] at e2
  obtain ⟨y3, hh3⟩ := hf 3 _ rfl
  have h3 : DataW.trod enc Try.prog w base spare held n 40 (List.take (Try.prog.cellsOf 40) (List.drop 3 [c0, c1, c2, c3])) = some y3 := hh3
  clear hh3
  rw [c_40] at h3
  simp only [List.drop_succ_cons, List.drop_zero, List.take_succ_cons, List.take_zero] at h3
  obtain ⟨a3, q3, v3, e3, r3, g3⟩ := open_flat Try.underlying40 c_lMsg (by omega) DMsg.cells DMsg.cells_len (fun a => a.text.size ≤ 9223372036854775807) (fun _ _ _ h => open_lMsg h) h3
  simp only [List.cons.injEq, and_true] at e3
  subst e0 e1 e2 e3
  exact ⟨v0, v1, v2, v3, a3, q3, rfl, r3, g0, g3⟩
end

end Go.Proofs.Ytmmbdmdfbdmilaa
