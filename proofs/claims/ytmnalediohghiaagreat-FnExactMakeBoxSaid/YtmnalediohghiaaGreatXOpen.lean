/-
  The laws' plain data, opened: what a reading says of the cells.
-/

namespace Go.Proofs.YtmnalediohghiaaGreat
open Go.RowKit
set_option linter.unusedVariables false
set_option linter.unusedSimpArgs false
open Go.Deep
section
variable {H : Type} {enc : TypeId × Value → H} {w : World} {base : Nat} {spare : Nat → Bool} {held : Bool} {fuel : Nat} {cs : List Value} {x : DataW H × List MemPlace}
theorem c_i : Tryz.prog.cellsOf 3 = 1 := by kernel_rfl
theorem c_s : Tryz.prog.cellsOf 9 = 1 := by kernel_rfl
theorem c_b : Tryz.prog.cellsOf 4 = 1 := by kernel_rfl
instance : Inhabited DMsg := ⟨⟨0, 0, ByteArray.empty⟩⟩
theorem c_lMsg : Tryz.prog.cellsOf 126 = 3 := by kernel_rfl
theorem open_lMsg (h : DataW.trod enc Tryz.prog w base spare held fuel 126 cs = some x) : ∃ a : DMsg, cs = a.cells ∧ a.text.size ≤ 9223372036854775807 := by
  obtain ⟨hl, n, hf⟩ := open_struct Tryz.underlying126 h
  rw [c_lMsg] at hl
  obtain ⟨c0, c1, c2, rfl⟩ := list3 hl
  obtain ⟨y0, hh0⟩ := hf 0 _ rfl
  have h0 : DataW.trod enc Tryz.prog w base spare held n 3 (List.take (Tryz.prog.cellsOf 3) (List.drop 0 [c0, c1, c2])) = some y0 := hh0
  clear hh0
  rw [c_i] at h0
  simp only [List.drop_succ_cons, List.drop_zero, List.take_succ_cons, List.take_zero] at h0
  obtain ⟨v0, e0, -, -⟩ := DataW.trod_int Tryz.underlying3 h0
  simp only [List.cons.injEq, and_true] at e0
  obtain ⟨y1, hh1⟩ := hf 1 _ rfl
  have h1 : DataW.trod enc Tryz.prog w base spare held n 3 (List.take (Tryz.prog.cellsOf 3) (List.drop 1 [c0, c1, c2])) = some y1 := hh1
  clear hh1
  rw [c_i] at h1
  simp only [List.drop_succ_cons, List.drop_zero, List.take_succ_cons, List.take_zero] at h1
  obtain ⟨v1, e1, -, -⟩ := DataW.trod_int Tryz.underlying3 h1
  simp only [List.cons.injEq, and_true] at e1
  obtain ⟨y2, hh2⟩ := hf 2 _ rfl
  have h2 : DataW.trod enc Tryz.prog w base spare held n 9 (List.take (Tryz.prog.cellsOf 9) (List.drop 2 [c0, c1, c2])) = some y2 := hh2
  clear hh2
  rw [c_s] at h2
  simp only [List.drop_succ_cons, List.drop_zero, List.take_succ_cons, List.take_zero] at h2
  obtain ⟨v2, e2, -, g2⟩ := DataW.trod_string Tryz.underlying9 h2
  unfold maxLen at g2
  simp only [List.cons.injEq, and_true] at e2
  subst e0 e1 e2
  exact ⟨⟨v0, v1, v2⟩, rfl, g2⟩
instance : Inhabited DCommit := ⟨⟨0, 0, 0, 0, ByteArray.empty, ByteArray.empty⟩⟩
theorem c_lCommit : Tryz.prog.cellsOf 90 = 6 := by kernel_rfl
theorem open_lCommit (h : DataW.trod enc Tryz.prog w base spare held fuel 90 cs = some x) : ∃ a : DCommit, cs = a.cells ∧ a.name.size ≤ 9223372036854775807 ∧ a.text.size ≤ 9223372036854775807 := by
  obtain ⟨hl, n, hf⟩ := open_struct Tryz.underlying90 h
  rw [c_lCommit] at hl
  obtain ⟨c0, c1, c2, c3, c4, c5, rfl⟩ := list6 hl
  obtain ⟨y0, hh0⟩ := hf 0 _ rfl
  have h0 : DataW.trod enc Tryz.prog w base spare held n 3 (List.take (Tryz.prog.cellsOf 3) (List.drop 0 [c0, c1, c2, c3, c4, c5])) = some y0 := hh0
  clear hh0
  rw [c_i] at h0
  simp only [List.drop_succ_cons, List.drop_zero, List.take_succ_cons, List.take_zero] at h0
  obtain ⟨v0, e0, -, -⟩ := DataW.trod_int Tryz.underlying3 h0
  simp only [List.cons.injEq, and_true] at e0
  obtain ⟨y1, hh1⟩ := hf 1 _ rfl
  have h1 : DataW.trod enc Tryz.prog w base spare held n 3 (List.take (Tryz.prog.cellsOf 3) (List.drop 1 [c0, c1, c2, c3, c4, c5])) = some y1 := hh1
  clear hh1
  rw [c_i] at h1
  simp only [List.drop_succ_cons, List.drop_zero, List.take_succ_cons, List.take_zero] at h1
  obtain ⟨v1, e1, -, -⟩ := DataW.trod_int Tryz.underlying3 h1
  simp only [List.cons.injEq, and_true] at e1
  obtain ⟨y2, hh2⟩ := hf 2 _ rfl
  have h2 : DataW.trod enc Tryz.prog w base spare held n 3 (List.take (Tryz.prog.cellsOf 3) (List.drop 2 [c0, c1, c2, c3, c4, c5])) = some y2 := hh2
  clear hh2
  rw [c_i] at h2
  simp only [List.drop_succ_cons, List.drop_zero, List.take_succ_cons, List.take_zero] at h2
  obtain ⟨v2, e2, -, -⟩ := DataW.trod_int Tryz.underlying3 h2
  simp only [List.cons.injEq, and_true] at e2
  obtain ⟨y3, hh3⟩ := hf 3 _ rfl
  have h3 : DataW.trod enc Tryz.prog w base spare held n 3 (List.take (Tryz.prog.cellsOf 3) (List.drop 3 [c0, c1, c2, c3, c4, c5])) = some y3 := hh3
  clear hh3
  rw [c_i] at h3
  simp only [List.drop_succ_cons, List.drop_zero, List.take_succ_cons, List.take_zero] at h3
  obtain ⟨v3, e3, -, -⟩ := DataW.trod_int Tryz.underlying3 h3
  simp only [List.cons.injEq, and_true] at e3
  obtain ⟨y4, hh4⟩ := hf 4 _ rfl
  have h4 : DataW.trod enc Tryz.prog w base spare held n 9 (List.take (Tryz.prog.cellsOf 9) (List.drop 4 [c0, c1, c2, c3, c4, c5])) = some y4 := hh4
  clear hh4
  rw [c_s] at h4
  simp only [List.drop_succ_cons, List.drop_zero, List.take_succ_cons, List.take_zero] at h4
  obtain ⟨v4, e4, -, g4⟩ := DataW.trod_string Tryz.underlying9 h4
  unfold maxLen at g4
  simp only [List.cons.injEq, and_true] at e4
  obtain ⟨y5, hh5⟩ := hf 5 _ rfl
  have h5 : DataW.trod enc Tryz.prog w base spare held n 9 (List.take (Tryz.prog.cellsOf 9) (List.drop 5 [c0, c1, c2, c3, c4, c5])) = some y5 := hh5
  clear hh5
  rw [c_s] at h5
  simp only [List.drop_succ_cons, List.drop_zero, List.take_succ_cons, List.take_zero] at h5
  obtain ⟨v5, e5, -, g5⟩ := DataW.trod_string Tryz.underlying9 h5
  unfold maxLen at g5
  simp only [List.cons.injEq, and_true] at e5
  subst e0 e1 e2 e3 e4 e5
  exact ⟨⟨v0, v1, v2, v3, v4, v5⟩, rfl, g4, g5⟩
theorem c_lBox : Tryz.prog.cellsOf 88 = 4 := by kernel_rfl
theorem c_86 : Tryz.prog.cellsOf 86 = 1 := by kernel_rfl
theorem open_lBox (h : DataW.trod enc Tryz.prog w base spare held fuel 88 cs = some x) : ∃ (xname : ByteArray) (xvalidity : Int) (xnext : Int) (xmsgs : List DMsg) (xmsgsA : Option Addr) (xmsgsC : Nat), cs = [.string xname, .int .i64 xvalidity, .int .i64 xnext, .slice xmsgsA xmsgs.length xmsgsC] ∧ Rd w xmsgsA xmsgsC 3 xmsgs.length (xmsgs.flatMap DMsg.cells) ∧ xname.size ≤ 9223372036854775807 ∧ (∀ y ∈ xmsgs, y.text.size ≤ 9223372036854775807) := by
  obtain ⟨hl, n, hf⟩ := open_struct Tryz.underlying88 h
  rw [c_lBox] at hl
  obtain ⟨c0, c1, c2, c3, rfl⟩ := list4 hl
  obtain ⟨y0, hh0⟩ := hf 0 _ rfl
  have h0 : DataW.trod enc Tryz.prog w base spare held n 9 (List.take (Tryz.prog.cellsOf 9) (List.drop 0 [c0, c1, c2, c3])) = some y0 := hh0
  clear hh0
  rw [c_s] at h0
  simp only [List.drop_succ_cons, List.drop_zero, List.take_succ_cons, List.take_zero] at h0
  obtain ⟨v0, e0, -, g0⟩ := DataW.trod_string Tryz.underlying9 h0
  unfold maxLen at g0
  simp only [List.cons.injEq, and_true] at e0
  obtain ⟨y1, hh1⟩ := hf 1 _ rfl
  have h1 : DataW.trod enc Tryz.prog w base spare held n 3 (List.take (Tryz.prog.cellsOf 3) (List.drop 1 [c0, c1, c2, c3])) = some y1 := hh1
  clear hh1
  rw [c_i] at h1
  simp only [List.drop_succ_cons, List.drop_zero, List.take_succ_cons, List.take_zero] at h1
  obtain ⟨v1, e1, -, -⟩ := DataW.trod_int Tryz.underlying3 h1
  simp only [List.cons.injEq, and_true] at e1
  obtain ⟨y2, hh2⟩ := hf 2 _ rfl
  have h2 : DataW.trod enc Tryz.prog w base spare held n 3 (List.take (Tryz.prog.cellsOf 3) (List.drop 2 [c0, c1, c2, c3])) = some y2 := hh2
  clear hh2
  rw [c_i] at h2
  simp only [List.drop_succ_cons, List.drop_zero, List.take_succ_cons, List.take_zero] at h2
  obtain ⟨v2, e2, -, -⟩ := DataW.trod_int Tryz.underlying3 h2
  simp only [List.cons.injEq, and_true] at e2
  obtain ⟨y3, hh3⟩ := hf 3 _ rfl
  have h3 : DataW.trod enc Tryz.prog w base spare held n 86 (List.take (Tryz.prog.cellsOf 86) (List.drop 3 [c0, c1, c2, c3])) = some y3 := hh3
  clear hh3
  rw [c_86] at h3
  simp only [List.drop_succ_cons, List.drop_zero, List.take_succ_cons, List.take_zero] at h3
  obtain ⟨a3, q3, v3, e3, r3, g3⟩ := open_flat Tryz.underlying86 c_lMsg (by omega) DMsg.cells DMsg.cells_len (fun a => a.text.size ≤ 9223372036854775807) (fun _ _ _ h => open_lMsg h) h3
  simp only [List.cons.injEq, and_true] at e3
  subst e0 e1 e2 e3
  exact ⟨v0, v1, v2, v3, a3, q3, rfl, r3, g0, g3⟩
end

end Go.Proofs.YtmnalediohghiaaGreat
