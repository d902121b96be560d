/-
  A reply out of its text: the program's ReadReply.
-/
import Derived.Test.YtidfhkdonhjgaaaGreatDoorWGue
import Derived.Test.YtidfhkdonhjgaaaGreatDoorWRTi
namespace Go.Proofs.YtidfhkdonhjgaaaGreatDoor
open Go.RowKit
set_option linter.unusedVariables false
set_option linter.unusedSimpArgs false

def RdPost (P : List UInt8 → DReply → Bool → Prop) (s : ByteArray) (w : World) (e : Ending) (w' : World) : Prop :=
  ∃ (r : DReply) (ok : Bool), e = .returned (.tuple #[.agg #[.int .i64 r.kind, .int .i64 r.n, .int .i64 r.uid, .int .i64 r.flags, .string r.name, .string r.text], .bool ok]) ∧ P s.data.toList r ok ∧ Ext w w' ∧ r.name.size ≤ 1048576 ∧ r.text.size ≤ 1048576
set_option maxRecDepth 100000 in
set_option maxHeartbeats 8000000 in
theorem implReadReply_any (s : ByteArray) (w : World) (hg : Gl w) (hs : s.size ≤ 1048576) :
    Calls Tryz.prog 8 #[.string s] w (RdPost ReadU s w) := by
  have HG := Lib.hid hg
  have hU : (undef : Value) = .tuple #[] := rfl
  clear hg
  go_enter Tryz.func8, Tryz.ntmps8
  go_wp2_with fail
  refine (guess_any s _ (HG.out.ext bxt) hs).mono ?_
  rintro e w1 ⟨x, rfl, hx, hxn, hxt, hb1⟩
  have HX := Lib.hid hx
  have hE1 : Ext w w1 := Below.ext (show Ext w _ from bxt) hb1
  have hz1 : w.heap.size < w1.heap.size := by (have := hb1.size; simp at this; omega)
  have hrc : ∀ j v, ([.int .i64 0, .int .i64 0, .int .i64 0, .int .i64 0, .string ⟨#[]⟩, .string ⟨#[]⟩] : List Value)[j]? = some v → w1.cell? ⟨w.heap.size, j, none⟩ = some v ∧ w1.frozen? ⟨w.heap.size, j, none⟩ = false := fun j v hj => by
    have hjl : j < 6 := (List.getElem?_eq_some_iff.1 hj).1
    refine ⟨(hb1.cell (p := ⟨w.heap.size, j, none⟩) (by simp)).trans ?_, (hb1.frozen (p := ⟨w.heap.size, j, none⟩) (by simp)).trans ?_⟩
    · have : j = 0 ∨ j = 1 ∨ j = 2 ∨ j = 3 ∨ j = 4 ∨ j = 5 := by omega
      rcases this with rfl | rfl | rfl | rfl | rfl | rfl <;> (injection hj with hj; subst hj; simp [go_sem]; try rfl)
    · have : j = 0 ∨ j = 1 ∨ j = 2 ∨ j = 3 ∨ j = 4 ∨ j = 5 := by omega
      rcases this with rfl | rfl | rfl | rfl | rfl | rfl <;> simp [go_sem]
  have HRC := Lib.hid hrc
  clear hx hrc
  obtain ⟨r, hr⟩ := boolOf (ReplyP x)
  have Hr := Lib.hid hr
  clear hr
  go_wp2_with fail
  refine (implReplyOk_any x _ (HG.out.mx.ext (show Ext w _ from bxt)) (by omega) (by omega) r Hr).mono ?_
  rintro e w2 ⟨rfl, hb2⟩
  have hE2 : Ext w w2 := Below.ext (show Ext w _ from bxt) hb2
  have hz2 : w1.heap.size < w2.heap.size := by (have := hb2.size; simp at this; omega)
  have hE12 : Ext w1 w2 := Below.ext (show Ext w1 _ from bxt) hb2
  have HC0 : Hid (w2.cell? ⟨w1.heap.size, 0, none⟩ = some (.int .i64 x.kind)) := (hb2.cell (p := ⟨w1.heap.size, 0, none⟩) (by simp)).trans (by simp [go_sem])
  have HC1 : Hid (w2.cell? ⟨w1.heap.size, 1, none⟩ = some (.int .i64 x.n)) := (hb2.cell (p := ⟨w1.heap.size, 1, none⟩) (by simp)).trans (by simp [go_sem])
  have HC2 : Hid (w2.cell? ⟨w1.heap.size, 2, none⟩ = some (.int .i64 x.uid)) := (hb2.cell (p := ⟨w1.heap.size, 2, none⟩) (by simp)).trans (by simp [go_sem])
  have HC3 : Hid (w2.cell? ⟨w1.heap.size, 3, none⟩ = some (.int .i64 x.flags)) := (hb2.cell (p := ⟨w1.heap.size, 3, none⟩) (by simp)).trans (by simp [go_sem])
  have HC4 : Hid (w2.cell? ⟨w1.heap.size, 4, none⟩ = some (.string x.name)) := (hb2.cell (p := ⟨w1.heap.size, 4, none⟩) (by simp)).trans (by simp [go_sem])
  have HC5 : Hid (w2.cell? ⟨w1.heap.size, 5, none⟩ = some (.string x.text)) := (hb2.cell (p := ⟨w1.heap.size, 5, none⟩) (by simp)).trans (by simp [go_sem])
  have hz1w2 : w.heap.size < w2.heap.size := by omega
  cases r with
  | false =>
    have HN : Hid (ReadU s.data.toList ⟨0, 0, 0, 0, ⟨#[]⟩, ⟨#[]⟩⟩ false) := read_not HX.out (fun h => by have := Hr.out.2 h.1; cases this)
    have r0 := (hE12.cell (p := ⟨w.heap.size, 0, none⟩) hz1).trans (HRC.out 0 (.int .i64 0) rfl).1
    have f0 := (hE12.frozen (p := ⟨w.heap.size, 0, none⟩) hz1).trans (HRC.out 0 (.int .i64 0) rfl).2
    have r1 := (hE12.cell (p := ⟨w.heap.size, 1, none⟩) hz1).trans (HRC.out 1 (.int .i64 0) rfl).1
    have f1 := (hE12.frozen (p := ⟨w.heap.size, 1, none⟩) hz1).trans (HRC.out 1 (.int .i64 0) rfl).2
    have r2 := (hE12.cell (p := ⟨w.heap.size, 2, none⟩) hz1).trans (HRC.out 2 (.int .i64 0) rfl).1
    have f2 := (hE12.frozen (p := ⟨w.heap.size, 2, none⟩) hz1).trans (HRC.out 2 (.int .i64 0) rfl).2
    have r3 := (hE12.cell (p := ⟨w.heap.size, 3, none⟩) hz1).trans (HRC.out 3 (.int .i64 0) rfl).1
    have f3 := (hE12.frozen (p := ⟨w.heap.size, 3, none⟩) hz1).trans (HRC.out 3 (.int .i64 0) rfl).2
    have r4 := (hE12.cell (p := ⟨w.heap.size, 4, none⟩) hz1).trans (HRC.out 4 (.string ⟨#[]⟩) rfl).1
    have f4 := (hE12.frozen (p := ⟨w.heap.size, 4, none⟩) hz1).trans (HRC.out 4 (.string ⟨#[]⟩) rfl).2
    have r5 := (hE12.cell (p := ⟨w.heap.size, 5, none⟩) hz1).trans (HRC.out 5 (.string ⟨#[]⟩) rfl).1
    have f5 := (hE12.frozen (p := ⟨w.heap.size, 5, none⟩) hz1).trans (HRC.out 5 (.string ⟨#[]⟩) rfl).2
    go_wp2_with fail
    refine bodyPost_ret (v := .tuple #[.agg #[.int .i64 0, .int .i64 0, .int .i64 0, .int .i64 0, .string ⟨#[]⟩, .string ⟨#[]⟩], .bool false]) (by simp [results, Tryz.results8, go_sem, *]) rfl ?_
    exact ⟨⟨0, 0, 0, 0, ⟨#[]⟩, ⟨#[]⟩⟩, false, rfl, HN.out, bxt, Nat.zero_le _, Nat.zero_le _⟩
  | true =>
    have c0 := HC0.out
    have c1 := HC1.out
    have c2 := HC2.out
    have c3 := HC3.out
    have c4 := HC4.out
    have c5 := HC5.out
    go_wp2_with fail
    refine (implReplyText_any x _ (HG.out.pw.ext hE2) (HG.out.mx.ext hE2) (by omega) (by omega) true Hr).mono ?_
    rintro e w3 ⟨rfl, hb3⟩
    have hE23 : Ext w2 w3 := hb3
    have hE13 : Ext w1 w3 := Below.ext hE12 hb3
    have hE3 : Ext w w3 := Below.ext hE2 hb3
    have hz3 := hb3.size
    clear c0 c1 c2 c3 c4 c5
    have r0 := (hE13.cell (p := ⟨w.heap.size, 0, none⟩) hz1).trans (HRC.out 0 (.int .i64 0) rfl).1
    have f0 := (hE13.frozen (p := ⟨w.heap.size, 0, none⟩) hz1).trans (HRC.out 0 (.int .i64 0) rfl).2
    have r1 := (hE13.cell (p := ⟨w.heap.size, 1, none⟩) hz1).trans (HRC.out 1 (.int .i64 0) rfl).1
    have f1 := (hE13.frozen (p := ⟨w.heap.size, 1, none⟩) hz1).trans (HRC.out 1 (.int .i64 0) rfl).2
    have r2 := (hE13.cell (p := ⟨w.heap.size, 2, none⟩) hz1).trans (HRC.out 2 (.int .i64 0) rfl).1
    have f2 := (hE13.frozen (p := ⟨w.heap.size, 2, none⟩) hz1).trans (HRC.out 2 (.int .i64 0) rfl).2
    have r3 := (hE13.cell (p := ⟨w.heap.size, 3, none⟩) hz1).trans (HRC.out 3 (.int .i64 0) rfl).1
    have f3 := (hE13.frozen (p := ⟨w.heap.size, 3, none⟩) hz1).trans (HRC.out 3 (.int .i64 0) rfl).2
    have r4 := (hE13.cell (p := ⟨w.heap.size, 4, none⟩) hz1).trans (HRC.out 4 (.string ⟨#[]⟩) rfl).1
    have f4 := (hE13.frozen (p := ⟨w.heap.size, 4, none⟩) hz1).trans (HRC.out 4 (.string ⟨#[]⟩) rfl).2
    have r5 := (hE13.cell (p := ⟨w.heap.size, 5, none⟩) hz1).trans (HRC.out 5 (.string ⟨#[]⟩) rfl).1
    have f5 := (hE13.frozen (p := ⟨w.heap.size, 5, none⟩) hz1).trans (HRC.out 5 (.string ⟨#[]⟩) rfl).2
    by_cases heq : txt x = s
    · have HQ := Lib.hid heq
      have HD : Hid (ReadU s.data.toList x true) := by
        refine read_guess HX.out (Hr.out.1 rfl) ?_
        rw [← heq]
        exact (bs_data _).symm
      clear heq
      have c0 := (hE23.cell (p := ⟨w1.heap.size, 0, none⟩) hz2).trans HC0.out
      have c1 := (hE23.cell (p := ⟨w1.heap.size, 1, none⟩) hz2).trans HC1.out
      have c2 := (hE23.cell (p := ⟨w1.heap.size, 2, none⟩) hz2).trans HC2.out
      have c3 := (hE23.cell (p := ⟨w1.heap.size, 3, none⟩) hz2).trans HC3.out
      have c4 := (hE23.cell (p := ⟨w1.heap.size, 4, none⟩) hz2).trans HC4.out
      have c5 := (hE23.cell (p := ⟨w1.heap.size, 5, none⟩) hz2).trans HC5.out
      rw [show txtOf true x = txt x from rfl, HQ.out]
      go_wp2_with fail
      refine bodyPost_ret (v := .tuple #[.agg #[.int .i64 x.kind, .int .i64 x.n, .int .i64 x.uid, .int .i64 x.flags, .string x.name, .string x.text], .bool true]) (by simp [results, Tryz.results8, go_sem, *]) rfl ?_
      exact ⟨x, true, rfl, HD.out, bxt, hxn, hxt⟩
    · have HN : Hid (ReadU s.data.toList ⟨0, 0, 0, 0, ⟨#[]⟩, ⟨#[]⟩⟩ false) := read_not HX.out (fun h => heq (by rw [← bs_of s, ← h.2]; rfl))
      have hne := str_ne heq
      clear heq
      rw [show txtOf true x = txt x from rfl]
      go_wp2_with fail
      refine bodyPost_ret (v := .tuple #[.agg #[.int .i64 0, .int .i64 0, .int .i64 0, .int .i64 0, .string ⟨#[]⟩, .string ⟨#[]⟩], .bool false]) (by simp [results, Tryz.results8, go_sem, *]) rfl ?_
      exact ⟨⟨0, 0, 0, 0, ⟨#[]⟩, ⟨#[]⟩⟩, false, rfl, HN.out, bxt, Nat.zero_le _, Nat.zero_le _⟩
end Go.Proofs.YtidfhkdonhjgaaaGreatDoor
