/-
  The law FnExactLinesText: its walk, out of the contracts of what it calls.
-/
import Derived.Test.YtadjlfcdjkikgaaDoorWLTx
namespace Go.Proofs.YtadjlfcdjkikgaaDoor
open Go.RowKit
set_option linter.unusedVariables false
set_option linter.unusedSimpArgs false

set_option maxRecDepth 100000 in
set_option maxHeartbeats 4000000 in
theorem fnExactLinesText_walk (a0 : List DReply) (aa0 : Option Addr) (ac0 : Nat) (w : World) (hpw : Pw w) (hmx : MaxLen w) (R : Rd w aa0 ac0 6 a0.length (a0.flatMap DReply.cells)) (g1 : ∀ y ∈ a0, y.name.size ≤ 9223372036854775807) (g2 : ∀ y ∈ a0, y.text.size ≤ 9223372036854775807) :
    Calls Tryd.prog 5 #[.slice aa0 a0.length ac0] w fun e w' => e = .returned (.bool true) ∧ Below w.heap.size w w' := by
  have HMX := Lib.hid hmx
  have HPW := Lib.hid hpw
  have HR := Lib.hid R
  have G1 := Lib.hid g1
  have G2 := Lib.hid g2
  clear hmx hpw R g1 g2
  go_enter Tryd.func5, Tryd.ntmps5
  go_wp2_with fail
  refine (szReplyS_any a0 _ _ 1048576 _ HR.out (by omega) (by omega) G1.out G2.out).mono ?_
  rintro e w1 ⟨left1, rfl, hz1, hb1⟩
  have hle := DReply.len_le a0
  rcases hz1 with hz1 | ⟨hz10, hz1⟩
  · go_wp2_with fail
    go_ret
    exact ⟨rfl, bxt⟩
  have hlen : a0.length ≤ 1048576 := by omega
  clear hz1 hle
  go_wp2_with fail
  refine (toReplyS_any a0 _ _ _ (HR.out.ext bxt) hlen).mono ?_
  rintro e w2 ⟨ga, rfl, ho2, hb2⟩
  have H2 := Lib.hid ho2
  clear ho2
  go_wp2_with fail
  refine (specLinesText_any a0 _ _ _ (Rd.of_own H2.out) hlen G1.out G2.out).mono ?_
  rintro e w3 ⟨rfl, hb3⟩
  go_wp2_with fail
  refine (toReplyS_any a0 _ _ _ (HR.out.ext (show Ext w w3 from bxt)) hlen).mono ?_
  rintro e w4 ⟨gb, rfl, ho4, hb4⟩
  have H4 := Lib.hid ho4
  clear ho4
  go_wp2_with fail
  refine (implLinesText_any a0 _ _ _ (Pw.ext HPW.out (show Ext w w4 from bxt)) (HMX.out.ext (show Ext w w4 from bxt)) (Rd.of_own H4.out) hlen G1.out G2.out).mono ?_
  rintro e w5 ⟨rfl, hb5⟩
  go_wp2_with fail
  refine (toReplyS_any a0 _ _ _ (HR.out.ext (show Ext w w5 from bxt)) hlen).mono ?_
  rintro e w6 ⟨gc, rfl, ho6, hb6⟩
  have H6 := Lib.hid ho6
  clear ho6
  go_wp2_with fail
  refine (eqReplyS_any a0 a0 _ _ _ _ _ ((Rd.of_own H4.out).ext (show Ext w4 w6 from bxt)) (Rd.of_own H6.out) true (Lib.hid (by simp))).mono ?_
  rintro e w7 ⟨rfl, hb7⟩
  go_wp2_with fail
  go_ret
  exact ⟨rfl, bxt⟩
end Go.Proofs.YtadjlfcdjkikgaaDoor
