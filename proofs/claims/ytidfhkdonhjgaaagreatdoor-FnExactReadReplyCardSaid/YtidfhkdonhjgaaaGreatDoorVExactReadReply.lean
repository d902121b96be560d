/-
  The law FnExactReadReply: its walk, out of the contracts of what it calls.
-/
import Derived.Test.YtidfhkdonhjgaaaGreatDoorWRdS
namespace Go.Proofs.YtidfhkdonhjgaaaGreatDoor
open Go.RowKit
set_option linter.unusedVariables false
set_option linter.unusedSimpArgs false

set_option maxRecDepth 100000 in
set_option maxHeartbeats 4000000 in
theorem fnExactReadReply_walk (s : ByteArray) (w : World) (hg : Gl w) (hs : s.size ≤ 9223372036854775807) :
    Calls Tryz.prog 3 #[.string s] w fun e w' => e = .returned (.bool true) ∧ Below w.heap.size w w' := by
  have HG := Lib.hid hg
  have hU : (undef : Value) = .tuple #[] := rfl
  clear hg
  go_enter Tryz.func3, Tryz.ntmps3
  by_cases hbig : 1048576 < s.size
  · have d0 : decide ((1048576 : Int) < (s.size : Int)) = true := decide_eq_true (by omega)
    have d1 : decide (1048576 < s.size) = true := decide_eq_true hbig
    go_wp2_with fail
    go_ret
    exact ⟨rfl, bxt⟩
  have d0 : decide ((1048576 : Int) < (s.size : Int)) = false := decide_eq_false (by omega)
  have d1 : decide (1048576 < s.size) = false := decide_eq_false hbig
  have hsz : s.size ≤ 1048576 := by omega
  clear hbig
  go_wp2_with fail
  refine (specReadReply_any s _ hsz).mono ?_
  rintro e w1 ⟨r1, o1, rfl, hr1, hb1, hn1, ht1⟩
  have H1 := Lib.hid hr1
  have hs1 := hb1.size
  clear hr1
  go_wp2_with fail
  refine (implReadReply_any s _ (HG.out.ext bxt) hsz).mono ?_
  rintro e w2 ⟨r2, o2, rfl, hr2, hb2, hn2, ht2⟩
  have c0 : w2.cell? ⟨w1.heap.size, 0, none⟩ = some (.int .i64 r1.kind) := (hb2.cell (p := ⟨w1.heap.size, 0, none⟩) (by simp)).trans (by simp [go_sem])
  have c1 : w2.cell? ⟨w1.heap.size, 1, none⟩ = some (.int .i64 r1.n) := (hb2.cell (p := ⟨w1.heap.size, 1, none⟩) (by simp)).trans (by simp [go_sem])
  have c2 : w2.cell? ⟨w1.heap.size, 2, none⟩ = some (.int .i64 r1.uid) := (hb2.cell (p := ⟨w1.heap.size, 2, none⟩) (by simp)).trans (by simp [go_sem])
  have c3 : w2.cell? ⟨w1.heap.size, 3, none⟩ = some (.int .i64 r1.flags) := (hb2.cell (p := ⟨w1.heap.size, 3, none⟩) (by simp)).trans (by simp [go_sem])
  have c4 : w2.cell? ⟨w1.heap.size, 4, none⟩ = some (.string r1.name) := (hb2.cell (p := ⟨w1.heap.size, 4, none⟩) (by simp)).trans (by simp [go_sem])
  have c5 : w2.cell? ⟨w1.heap.size, 5, none⟩ = some (.string r1.text) := (hb2.cell (p := ⟨w1.heap.size, 5, none⟩) (by simp)).trans (by simp [go_sem])
  obtain ⟨rfl, rfl⟩ := read_eq hr2 H1.out
  have hz2 : w1.heap.size < w2.heap.size := by (have := hb2.size; simp at this; omega)
  clear hr2 H1
  go_wp2_with fail
  refine (eqReply_any r1 r1 _ true (Lib.hid (by simp))).mono ?_
  rintro e w3 ⟨rfl, hb3⟩
  have hoo : (o1 != o1) = false := by simp
  go_wp2_with fail
  go_ret
  exact ⟨rfl, bxt⟩
end Go.Proofs.YtidfhkdonhjgaaaGreatDoor
