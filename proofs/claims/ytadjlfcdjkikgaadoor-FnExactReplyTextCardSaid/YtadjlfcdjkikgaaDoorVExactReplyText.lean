/-
  The law FnExactReplyText: its walk, out of the contracts of what it calls.
-/
import Derived.Test.YtadjlfcdjkikgaaDoorWRTs
import Derived.Test.YtadjlfcdjkikgaaDoorWRTi
namespace Go.Proofs.YtadjlfcdjkikgaaDoor
open Go.RowKit
set_option linter.unusedVariables false
set_option linter.unusedSimpArgs false

set_option maxRecDepth 100000 in
set_option maxHeartbeats 4000000 in
theorem fnExactReplyText_walk (a0 : DReply) (w : World) (hpw : Pw w) (hmx : MaxLen w) (g0name : a0.name.size ≤ 9223372036854775807) (g0text : a0.text.size ≤ 9223372036854775807) :
    Calls Tryd.prog 4 #[.agg #[.int .i64 a0.kind, .int .i64 a0.n, .int .i64 a0.uid, .int .i64 a0.flags, .string a0.name, .string a0.text]] w fun e w' => e = .returned (.bool true) ∧ Below w.heap.size w w' := by
  obtain ⟨r, hr⟩ := boolOf (ReplyP a0)
  have Hr := Lib.hid hr
  have HMX := Lib.hid hmx
  have HPW := Lib.hid hpw
  clear hr hmx hpw
  go_enter Tryd.func4, Tryd.ntmps4
  go_wp2_with fail
  refine (szReply_any a0 1048576 _ (by omega) (by omega) g0name g0text).mono ?_
  rintro e w1 ⟨left1, rfl, hz1, hb1⟩
  obtain ⟨hc1, hf1⟩ := bcell hb1
  have hs1_0 : w.heap.size < w1.heap.size := by (have hss := hb1.size; first | omega | (simp at hss <;> omega))
  rcases hz1 with hz1 | ⟨hz10, hz1⟩
  · go_wp2_with fail
    go_ret
    exact ⟨rfl, bxt⟩
  have hlt1 : left1 ≤ 1048576 := by omega
  clear hz1
  go_wp2_with fail
  refine (toReply_any a0 _).mono ?_
  rintro e w2 ⟨rfl, hb2⟩
  obtain ⟨hc2, hf2⟩ := bcell hb2
  have hs2_0 : w.heap.size < w2.heap.size := by (have hss := hb2.size; first | omega | (simp at hss <;> omega))
  go_wp2_with fail
  refine (specReplyText_any a0 _  g0name g0text r Hr).mono ?_
  rintro e w3 ⟨rfl, hb3⟩
  obtain ⟨hc3, hf3⟩ := bcell hb3
  have hs3_0 : w.heap.size < w3.heap.size := by (have hss := hb3.size; first | omega | (simp at hss <;> omega))
  go_wp2_with fail
  refine (toReply_any a0 _).mono ?_
  rintro e w4 ⟨rfl, hb4⟩
  obtain ⟨hc4, hf4⟩ := bcell hb4
  have hs4_0 : w.heap.size < w4.heap.size := by (have hss := hb4.size; first | omega | (simp at hss <;> omega))
  go_wp2_with fail
  refine (implReplyText_any a0 _ (Pw.ext HPW.out (show Ext w w4 from bxt)) (HMX.out.ext (show Ext w w4 from bxt)) g0name g0text r Hr).mono ?_
  rintro e w5 ⟨rfl, hb5⟩
  go_wp2_with fail
  go_ret
  exact ⟨rfl, bxt⟩
end Go.Proofs.YtadjlfcdjkikgaaDoor
