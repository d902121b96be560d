/-
  AppliedAll: the program's function.
-/
import Derived.Test.YtpameapajhbdnaaXLaw
namespace Go.Proofs.Ytpameapajhbdnaa
open Go.RowKit
set_option linter.unusedVariables false
set_option linter.unusedSimpArgs false

set_option maxRecDepth 100000 in
set_option maxHeartbeats 8000000 in
theorem implAppliedAll_law (l : List PBox) (a : Option Addr) (c : Nat) (log : List DCommit) (la : Option Addr) (lc : Nat) (w : World) (R : Rd w a c 4 l.length (l.flatMap PBox.cells)) (M : RdM w l) (hl : l.length ≤ 1048576) (hlm : ∀ y ∈ l, y.msgs.length ≤ 1048576) (gn : ∀ y ∈ l, y.name.size ≤ 9223372036854775807) (gt : ∀ y ∈ l, ∀ m ∈ y.msgs, m.text.size ≤ 9223372036854775807) (RL : Rd w la lc 6 log.length (log.flatMap DCommit.cells)) (hll : log.length ≤ 1048576) (gl : ∀ y ∈ log, y.name.size ≤ 9223372036854775807 ∧ y.text.size ≤ 9223372036854775807) (hm : MaxLen w) (rr : List DBox) (rok : Bool) (H : Hid (AllRel (l.map PBox.box) log rr rok)) :
    Calls Try.prog 39 #[.slice a l.length c, .slice la log.length lc] w fun e w' => ∃ g q l', e = .returned (.tuple #[.slice g l'.length q, .bool rok]) ∧ OwnBs w' w.heap.size 52 111 g q l' ∧ l'.map PBox.box = rr ∧ Ext w w' := by
  have HR := Lib.hid R
  have HM := Lib.hid M
  have HLM := Lib.hid hlm
  have HRL := Lib.hid RL
  have HGL := Lib.hid gl
  have HMX := Lib.hid hm
  have HG0 := Lib.hid (good_of hl hlm gn gt)
  clear R M hlm RL gl gn gt hm
  go_enter Try.func39, Try.ntmps39
  go_wp2_with (go_at_call 87; refine (implCopies_any l a c _ (HR.out.ext bxt) (RdM.ext HM.out (show Below w.heap.size w _ from bxt)) (by omega) (fun y hy => by have := HLM.out y hy; omega)).mono ?_; rintro e w1 ⟨gb, q, zs, rfl, hown, hzb, hb1⟩; have HO := Lib.hid hown; have HZB := Lib.hid hzb; clear hown hzb)
  go_loopw [6, 13] (AllLoop 52 111 log rr rok w) (fun _ i _ => log.length - (intOf i).toNat)
  case atStart => exact ⟨0, zs, (some ⟨gb, 0, none⟩), q, Nat.zero_le _, rfl, rfl, Lib.hid (by rw [HZB.out]; exact HG0.out), Lib.hid (by rw [HZB.out]; exact H.out), Lib.hid (OwnBs.ext HO.out bxt), bxt⟩
  case round =>
    obtain ⟨k, zs, g, q, hk, rfl, rfl, HG, HA, HO, hbe⟩ := hrel
    by_cases hlt : k < log.length
    · obtain ⟨b, ofs, rfl, hbb, hat⟩ := HRL.out.ptr (by omega)
      have hbw : b < wr.heap.size := by (have := hbe.size; omega)
      obtain ⟨x0, x1, x2, x3, x4, x5⟩ := DCommit.at (hat.ext hbb hbe) k hlt
      have HAT := Lib.hid hat
      clear hat
      have hws : w.heap.size ≤ wr.heap.size := hbe.size
      have HMW := Lib.hid (HMX.out.ext hbe)
      obtain ⟨r, hr⟩ := boolOf (AppliesP (zs.map PBox.box) log[k])
      have HT : Hid (Tells r (AppliesP (zs.map PBox.box) log[k])) := Lib.hid hr
      have HST := Lib.hid (allRel_step hlt HA.out hr)
      clear hr
      cases r with
      | false =>
        obtain ⟨hz1, hz2⟩ : zs.map PBox.box = rr ∧ false = rok := by simpa using HST.out
        subst hz2
        have HZ1 := Lib.hid hz1
        clear hz1
        go_wp2_with (go_at_call 32; refine (implApplies_any zs _ _ log[k] _ (OwnBs.ext HO.out (show Below wr.heap.size wr _ from bxt)).rd (OwnBs.ext HO.out (show Below wr.heap.size wr _ from bxt)).rdm (HMW.out.ext bxt) (good_to HG.out).2.2.1 (good_to HG.out).2.2.2 (HGL.out _ (List.getElem_mem hlt)).1 (HGL.out _ (List.getElem_mem hlt)).2 false HT).mono ?_; rintro e w2 ⟨rfl, hb2⟩; have cm0_0 : w2.cell? ⟨wr.heap.size, 0, none⟩ = some (.int .i64 log[k].kind) := (hb2.cell (p := ⟨wr.heap.size, 0, none⟩) smx).trans kpx; have cm0_1 : w2.cell? ⟨wr.heap.size, 1, none⟩ = some (.int .i64 log[k].validity) := (hb2.cell (p := ⟨wr.heap.size, 1, none⟩) smx).trans kpx; have cm0_2 : w2.cell? ⟨wr.heap.size, 2, none⟩ = some (.int .i64 log[k].uid) := (hb2.cell (p := ⟨wr.heap.size, 2, none⟩) smx).trans kpx; have cm0_3 : w2.cell? ⟨wr.heap.size, 3, none⟩ = some (.int .i64 log[k].flags) := (hb2.cell (p := ⟨wr.heap.size, 3, none⟩) smx).trans kpx; have cm0_4 : w2.cell? ⟨wr.heap.size, 4, none⟩ = some (.string log[k].name) := (hb2.cell (p := ⟨wr.heap.size, 4, none⟩) smx).trans kpx; have cm0_5 : w2.cell? ⟨wr.heap.size, 5, none⟩ = some (.string log[k].text) := (hb2.cell (p := ⟨wr.heap.size, 5, none⟩) smx).trans kpx; have sm0 : wr.heap.size < w2.heap.size := (by have hss := hb2.size; first | omega | (simp at hss; omega)); have hbr2 : Below wr.heap.size wr w2 := bxt)
        refine bodyPost_ret (v := .tuple #[.slice g (zs).length q, .bool false]) (by simp [results, Try.results39, go_sem, *]) rfl ⟨g, q, zs, rfl, OwnBs.ext HO.out (show Below wr.heap.size wr _ from bxt), HZ1.out, Below.ext hbe (show Below wr.heap.size wr _ from bxt)⟩
      | true =>
        have HAP : Hid (AppliesP (zs.map PBox.box) log[k]) := Lib.hid (HT.out.1 rfl)
        have HST2 : Hid (AllRel (appD (zs.map PBox.box) log[k]) (log.drop (k + 1)) rr rok) := Lib.hid (by simpa using HST.out)
        go_wp2_with (first | (go_at_call 32; refine (implApplies_any zs _ _ log[k] _ (OwnBs.ext HO.out (show Below wr.heap.size wr _ from bxt)).rd (OwnBs.ext HO.out (show Below wr.heap.size wr _ from bxt)).rdm (HMW.out.ext bxt) (good_to HG.out).2.2.1 (good_to HG.out).2.2.2 (HGL.out _ (List.getElem_mem hlt)).1 (HGL.out _ (List.getElem_mem hlt)).2 true HT).mono ?_; rintro e w2 ⟨rfl, hb2⟩; have cm0_0 : w2.cell? ⟨wr.heap.size, 0, none⟩ = some (.int .i64 log[k].kind) := (hb2.cell (p := ⟨wr.heap.size, 0, none⟩) smx).trans kpx; have cm0_1 : w2.cell? ⟨wr.heap.size, 1, none⟩ = some (.int .i64 log[k].validity) := (hb2.cell (p := ⟨wr.heap.size, 1, none⟩) smx).trans kpx; have cm0_2 : w2.cell? ⟨wr.heap.size, 2, none⟩ = some (.int .i64 log[k].uid) := (hb2.cell (p := ⟨wr.heap.size, 2, none⟩) smx).trans kpx; have cm0_3 : w2.cell? ⟨wr.heap.size, 3, none⟩ = some (.int .i64 log[k].flags) := (hb2.cell (p := ⟨wr.heap.size, 3, none⟩) smx).trans kpx; have cm0_4 : w2.cell? ⟨wr.heap.size, 4, none⟩ = some (.string log[k].name) := (hb2.cell (p := ⟨wr.heap.size, 4, none⟩) smx).trans kpx; have cm0_5 : w2.cell? ⟨wr.heap.size, 5, none⟩ = some (.string log[k].text) := (hb2.cell (p := ⟨wr.heap.size, 5, none⟩) smx).trans kpx; have sm0 : wr.heap.size < w2.heap.size := (by have hss := hb2.size; first | omega | (simp at hss; omega)); have hbr2 : Below wr.heap.size wr w2 := bxt) | (go_at_call 88; refine (perform_any zs g q w.heap.size log[k] _ (OwnBs.ext HO.out (show Below wr.heap.size wr _ from bxt)) (by first | exact Nat.le_trans hws hbr2.size | (simp; have := hbr2.size; omega)) HAP.out).mono ?_; rintro e w5 ⟨g5, q5, l5, rfl, ho5, hl5, hb5⟩; have HO5 := Lib.hid ho5; have HL5 := Lib.hid hl5; clear ho5 hl5))
        go_roundw
        case rel => exact ⟨k + 1, l5, g5, q5, by omega, by go_num, rfl, Lib.hid (by rw [HL5.out]; exact good_app HG.out HAP.out (HGL.out _ (List.getElem_mem hlt)).1 (HGL.out _ (List.getElem_mem hlt)).2), Lib.hid (by rw [HL5.out]; exact HST2.out), HO5, Below.trans (show Below w.heap.size w w2 from Below.ext hbe hbr2) hb5⟩
        case measure => simp [intOf]; omega
    · obtain ⟨hz1, hz2⟩ := allRel_end (by omega) HA.out
      subst hz2
      have HZ1 := Lib.hid hz1
      have hkk : k = log.length := by omega
      have HKK := Lib.hid hkk
      clear hkk hz1
      go_wp2_with fail
      refine bodyPost_ret (v := .tuple #[.slice g (zs).length q, .bool true]) (by simp [results, Try.results39, go_sem, *]) rfl ⟨g, q, zs, rfl, OwnBs.ext HO.out (show Below wr.heap.size wr _ from bxt), HZ1.out, Below.ext hbe (show Below wr.heap.size wr _ from bxt)⟩
end Go.Proofs.Ytpameapajhbdnaa
