/-
  The law FnExactReplyOk: its walk, out of the contracts of what it calls.
-/
import Derived.Test.YteciccchpenbmaaWspecReplyOk
import Derived.Test.YteciccchpenbmaaWimplReplyOk
namespace Go.Proofs.Yteciccchpenbmaa
open Go.RowKit
set_option linter.unusedVariables false
set_option linter.unusedSimpArgs false

set_option maxHeartbeats 4000000 in
theorem fnExactReplyOk_walk (a0 : DReply) (w : World) : (MaxLen w) → (a0.name.size ≤ 9223372036854775807) → (a0.text.size ≤ 9223372036854775807) →
    Calls Try.prog 11 #[.agg #[.int .i64 a0.kind, .int .i64 a0.n, .int .i64 a0.uid, .int .i64 a0.flags, .string a0.name, .string a0.text]] w fun e w' => e = .returned (.bool true) ∧ Below w.heap.size w w' := by
  intro hmx g0name g0text
  obtain ⟨r, hr⟩ := boolOf (ReplyP a0)
  have Hr := Lib.hid hr
  clear hr
  have HMX := Lib.hid hmx
  clear hmx
  go_enter Try.func11, Try.ntmps11
  go_wp2_with fail
  refine (szReply_any a0 1048576 _ (by omega) (by omega) g0name g0text).mono ?_
  rintro e w1 ⟨left1, rfl, hz1, hb1⟩
  obtain ⟨hc1, hf1⟩ := bcell hb1
  have hs1_0 : w.heap.size < w1.heap.size := by (have hss := hb1.size; first | omega | (simp at hss <;> omega))
  rcases hz1 with hz1 | ⟨hz10, hz1⟩
  · go_wp2_with fail
    go_ret
    exact ⟨rfl, by repeat' (first | with_reducible exact Below.refl _ _ | with_reducible assumption | with_reducible refine Below.alloc ?_ ?_ _ | with_reducible refine Below.setCell ?_ ?_ _ | with_reducible refine Below.drew ?_ | with_reducible refine Below.drewN ?_ _ | with_reducible refine Below.ext ?_ (by assumption) | (simp <;> omega) | omega)⟩
  have hlt1 : left1 ≤ 1048576 := by omega
  clear hz1
  go_wp2_with fail
  refine (toReply_any a0 _).mono ?_
  rintro e w2 ⟨rfl, hb2⟩
  obtain ⟨hc2, hf2⟩ := bcell hb2
  have hs2_0 : w.heap.size < w2.heap.size := by (have hss := hb2.size; first | omega | (simp at hss <;> omega))
  go_wp2_with fail
  refine (specReplyOk_any a0 _  g0name g0text r Hr).mono ?_
  rintro e w3 ⟨rfl, hb3⟩
  obtain ⟨hc3, hf3⟩ := bcell hb3
  have hs3_0 : w.heap.size < w3.heap.size := by (have hss := hb3.size; first | omega | (simp at hss <;> omega))
  go_wp2_with fail
  refine (toReply_any a0 _).mono ?_
  rintro e w4 ⟨rfl, hb4⟩
  obtain ⟨hc4, hf4⟩ := bcell hb4
  have hs4_0 : w.heap.size < w4.heap.size := by (have hss := hb4.size; first | omega | (simp at hss <;> omega))
  go_wp2_with fail
  refine (implReplyOk_any a0 _  (HMX.out.ext (by repeat' (first | with_reducible exact Below.refl _ _ | with_reducible assumption | with_reducible refine Below.alloc ?_ ?_ _ | with_reducible refine Below.setCell ?_ ?_ _ | with_reducible refine Below.drew ?_ | with_reducible refine Below.drewN ?_ _ | with_reducible refine Below.ext ?_ (by assumption) | (simp <;> omega) | omega))) g0name g0text r Hr).mono ?_
  rintro e w5 ⟨rfl, hb5⟩
  obtain ⟨hc5, hf5⟩ := bcell hb5
  have hs5_0 : w.heap.size < w5.heap.size := by (have hss := hb5.size; first | omega | (simp at hss <;> omega))
  go_wp2_with fail
  go_ret
  exact ⟨rfl, by repeat' (first | with_reducible exact Below.refl _ _ | with_reducible assumption | with_reducible refine Below.alloc ?_ ?_ _ | with_reducible refine Below.setCell ?_ ?_ _ | with_reducible refine Below.drew ?_ | with_reducible refine Below.drewN ?_ _ | with_reducible refine Below.ext ?_ (by assumption) | (simp <;> omega) | omega)⟩

end Go.Proofs.Yteciccchpenbmaa
