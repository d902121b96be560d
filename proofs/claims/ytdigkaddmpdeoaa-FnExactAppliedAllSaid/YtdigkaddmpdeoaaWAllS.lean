/-
  AppliedAll: the program's function and the reference's.
-/
import Derived.Test.YtdigkaddmpdeoaaWAppLaw
namespace Go.Proofs.Ytdigkaddmpdeoaa
open Go.RowKit
set_option linter.unusedVariables false
set_option linter.unusedSimpArgs false

def AllLoop (E EM : Nat) (log : List DCommit) (rr : List DBox) (rok : Bool) (w : World) (v i : Value) (wr : World) : Prop :=
  ∃ (k : Nat) (zs : List PBox) (g : Option Addr) (q : Nat), k ≤ log.length ∧ i = .int .i64 k ∧ v = .slice g zs.length q ∧ Hid (GoodD (zs.map PBox.box)) ∧ Hid (AllRel (zs.map PBox.box) (log.drop k) rr rok) ∧ Hid (OwnBs wr w.heap.size E EM g q zs) ∧ Below w.heap.size w wr
theorem allRel_step {l : List DBox} {log : List DCommit} {k : Nat} {rr : List DBox} {rok r : Bool} (hk : k < log.length) (h : AllRel l (log.drop k) rr rok) (hr : Tells r (AppliesP l log[k])) : if r then AllRel (appD l log[k]) (log.drop (k + 1)) rr rok else (l = rr ∧ false = rok) := by
  unfold AllRel at h
  rw [List.drop_eq_getElem_cons hk, allD_cons _ _ _ hr] at h
  cases r with
  | false =>
    simp only [Bool.false_eq_true, if_false, Prod.mk.injEq] at h ⊢
    exact h
  | true =>
    simp only [if_true] at h ⊢
    exact h
theorem allRel_end {l : List DBox} {log : List DCommit} {k : Nat} {rr : List DBox} {rok : Bool} (hk : k = log.length) (h : AllRel l (log.drop k) rr rok) : l = rr ∧ true = rok := by
  unfold AllRel at h
  rw [hk, List.drop_length, allD] at h
  simpa using h

set_option maxRecDepth 100000 in
set_option maxHeartbeats 8000000 in
theorem specAppliedAll_law (l : List PBox) (a : Option Addr) (c : Nat) (log : List DCommit) (la : Option Addr) (lc : Nat) (w : World) (R : Rd w a c 4 l.length (l.flatMap PBox.cells)) (M : RdM w l) (hl : l.length ≤ 1048576) (hlm : ∀ y ∈ l, y.msgs.length ≤ 1048576) (gn : ∀ y ∈ l, y.name.size ≤ 9223372036854775807) (gt : ∀ y ∈ l, ∀ m ∈ y.msgs, m.text.size ≤ 9223372036854775807) (RL : Rd w la lc 6 log.length (log.flatMap DCommit.cells)) (hll : log.length ≤ 1048576) (gl : ∀ y ∈ log, y.name.size ≤ 9223372036854775807 ∧ y.text.size ≤ 9223372036854775807) (rr : List DBox) (rok : Bool) (H : Hid (AllRel (l.map PBox.box) log rr rok)) :
    Calls Try.prog 34 #[.slice a l.length c, .slice la log.length lc] w fun e w' => ∃ g q l', e = .returned (.tuple #[.slice g l'.length q, .bool rok]) ∧ OwnBs w' w.heap.size 73 95 g q l' ∧ l'.map PBox.box = rr ∧ Ext w w' := by
  have HR := Lib.hid R
  have HM := Lib.hid M
  have HLM := Lib.hid hlm
  have HRL := Lib.hid RL
  have HGL := Lib.hid gl
  have HG0 := Lib.hid (good_of hl hlm gn gt)
  clear R M hlm RL gl gn gt
  go_enter Try.func34, Try.ntmps34
  go_wp2_with (go_at_call 70; refine (specCopies_any l a c _ (HR.out.ext (by repeat' (first | with_reducible exact Below.refl _ _ | with_reducible assumption | with_reducible refine Below.alloc ?_ ?_ _ | with_reducible refine Below.setCell ?_ ?_ _ | with_reducible refine Below.drew ?_ | with_reducible refine Below.drewN ?_ _ | with_reducible refine Below.ext ?_ (by assumption) | (simp <;> omega) | omega))) (RdM.ext HM.out (show Below w.heap.size w _ from (by repeat' (first | with_reducible exact Below.refl _ _ | with_reducible assumption | with_reducible refine Below.alloc ?_ ?_ _ | with_reducible refine Below.setCell ?_ ?_ _ | with_reducible refine Below.drew ?_ | with_reducible refine Below.drewN ?_ _ | with_reducible refine Below.ext ?_ (by assumption) | (simp <;> omega) | omega)))) (by omega) (fun y hy => by have := HLM.out y hy; omega)).mono ?_; rintro e w1 ⟨gb, q, zs, rfl, hown, hzb, hb1⟩; have HO := Lib.hid hown; have HZB := Lib.hid hzb; clear hown hzb)
  go_loopw [6, 7] (AllLoop 73 95 log rr rok w) (fun _ i _ => log.length - (intOf i).toNat)
  case atStart => exact ⟨0, zs, (some ⟨gb, 0, none⟩), q, Nat.zero_le _, rfl, rfl, Lib.hid (by rw [HZB.out]; exact HG0.out), Lib.hid (by rw [HZB.out]; exact H.out), Lib.hid (OwnBs.ext HO.out (by repeat' (first | with_reducible exact Below.refl _ _ | with_reducible assumption | with_reducible refine Below.alloc ?_ ?_ _ | with_reducible refine Below.setCell ?_ ?_ _ | with_reducible refine Below.drew ?_ | with_reducible refine Below.drewN ?_ _ | with_reducible refine Below.ext ?_ (by assumption) | (simp <;> omega) | omega))), by repeat' (first | with_reducible exact Below.refl _ _ | with_reducible assumption | with_reducible refine Below.alloc ?_ ?_ _ | with_reducible refine Below.setCell ?_ ?_ _ | with_reducible refine Below.drew ?_ | with_reducible refine Below.drewN ?_ _ | with_reducible refine Below.ext ?_ (by assumption) | (simp <;> omega) | omega)⟩
  case round =>
    obtain ⟨k, zs, g, q, hk, rfl, rfl, HG, HA, HO, hbe⟩ := hrel
    by_cases hlt : k < log.length
    · obtain ⟨b, ofs, rfl, hbb, hat⟩ := HRL.out.ptr (by omega)
      have hbw : b < wr.heap.size := by (have := hbe.size; omega)
      obtain ⟨x0, x1, x2, x3, x4, x5⟩ := DCommit.at (hat.ext hbb hbe) k hlt
      have HAT := Lib.hid hat
      clear hat
      have hws : w.heap.size ≤ wr.heap.size := hbe.size
      obtain ⟨r, hr⟩ := boolOf (AppliesP (zs.map PBox.box) log[k])
      have HT : Hid (Tells r (AppliesP (zs.map PBox.box) log[k])) := Lib.hid hr
      have HST := Lib.hid (allRel_step hlt HA.out hr)
      clear hr
      cases r with
      | false =>
        obtain ⟨hz1, hz2⟩ : zs.map PBox.box = rr ∧ false = rok := by simpa using HST.out
        subst hz2
        have HZ1 := Lib.hid hz1
        clear hz1
        go_wp2_with (go_at_call 37; refine (specApplied_any zs _ _ log[k] _ (OwnBs.ext HO.out (show Below wr.heap.size wr _ from (by repeat' (first | with_reducible exact Below.refl _ _ | with_reducible assumption | with_reducible refine Below.alloc ?_ ?_ _ | with_reducible refine Below.setCell ?_ ?_ _ | with_reducible refine Below.drew ?_ | with_reducible refine Below.drewN ?_ _ | with_reducible refine Below.ext ?_ (by assumption) | (simp <;> omega) | omega)))).rd (OwnBs.ext HO.out (show Below wr.heap.size wr _ from (by repeat' (first | with_reducible exact Below.refl _ _ | with_reducible assumption | with_reducible refine Below.alloc ?_ ?_ _ | with_reducible refine Below.setCell ?_ ?_ _ | with_reducible refine Below.drew ?_ | with_reducible refine Below.drewN ?_ _ | with_reducible refine Below.ext ?_ (by assumption) | (simp <;> omega) | omega)))).rdm (good_to HG.out).1 (good_to HG.out).2.1 (good_to HG.out).2.2.1 (good_to HG.out).2.2.2 (HGL.out _ (List.getElem_mem hlt)).1 (HGL.out _ (List.getElem_mem hlt)).2 false HT).mono ?_; rintro e w5 ⟨g5, q5, l5, rfl, ho5, hl5, hb5⟩; have HO5 := Lib.hid ho5; have HL5 := Lib.hid hl5; have hbr5 : Below wr.heap.size wr w5 := (by repeat' (first | with_reducible exact Below.refl _ _ | with_reducible assumption | with_reducible refine Below.alloc ?_ ?_ _ | with_reducible refine Below.setCell ?_ ?_ _ | with_reducible refine Below.drew ?_ | with_reducible refine Below.drewN ?_ _ | with_reducible refine Below.ext ?_ (by assumption) | (simp <;> omega) | omega)); clear ho5 hl5)
        refine bodyPost_ret (v := .tuple #[.slice g (zs).length q, .bool false]) (by simp [results, Try.results34, go_sem, *]) rfl ⟨g, q, zs, rfl, OwnBs.ext HO.out (show Below wr.heap.size wr _ from (by repeat' (first | with_reducible exact Below.refl _ _ | with_reducible assumption | with_reducible refine Below.alloc ?_ ?_ _ | with_reducible refine Below.setCell ?_ ?_ _ | with_reducible refine Below.drew ?_ | with_reducible refine Below.drewN ?_ _ | with_reducible refine Below.ext ?_ (by assumption) | (simp <;> omega) | omega))), HZ1.out, Below.ext hbe (show Below wr.heap.size wr _ from (by repeat' (first | with_reducible exact Below.refl _ _ | with_reducible assumption | with_reducible refine Below.alloc ?_ ?_ _ | with_reducible refine Below.setCell ?_ ?_ _ | with_reducible refine Below.drew ?_ | with_reducible refine Below.drewN ?_ _ | with_reducible refine Below.ext ?_ (by assumption) | (simp <;> omega) | omega)))⟩
      | true =>
        have HAP : Hid (AppliesP (zs.map PBox.box) log[k]) := Lib.hid (HT.out.1 rfl)
        have HST2 : Hid (AllRel (appD (zs.map PBox.box) log[k]) (log.drop (k + 1)) rr rok) := Lib.hid (by simpa using HST.out)
        go_wp2_with (go_at_call 37; refine (specApplied_any zs _ _ log[k] _ (OwnBs.ext HO.out (show Below wr.heap.size wr _ from (by repeat' (first | with_reducible exact Below.refl _ _ | with_reducible assumption | with_reducible refine Below.alloc ?_ ?_ _ | with_reducible refine Below.setCell ?_ ?_ _ | with_reducible refine Below.drew ?_ | with_reducible refine Below.drewN ?_ _ | with_reducible refine Below.ext ?_ (by assumption) | (simp <;> omega) | omega)))).rd (OwnBs.ext HO.out (show Below wr.heap.size wr _ from (by repeat' (first | with_reducible exact Below.refl _ _ | with_reducible assumption | with_reducible refine Below.alloc ?_ ?_ _ | with_reducible refine Below.setCell ?_ ?_ _ | with_reducible refine Below.drew ?_ | with_reducible refine Below.drewN ?_ _ | with_reducible refine Below.ext ?_ (by assumption) | (simp <;> omega) | omega)))).rdm (good_to HG.out).1 (good_to HG.out).2.1 (good_to HG.out).2.2.1 (good_to HG.out).2.2.2 (HGL.out _ (List.getElem_mem hlt)).1 (HGL.out _ (List.getElem_mem hlt)).2 true HT).mono ?_; rintro e w5 ⟨g5, q5, l5, rfl, ho5, hl5, hb5⟩; have HO5 := Lib.hid ho5; have HL5 := Lib.hid hl5; have hbr5 : Below wr.heap.size wr w5 := (by repeat' (first | with_reducible exact Below.refl _ _ | with_reducible assumption | with_reducible refine Below.alloc ?_ ?_ _ | with_reducible refine Below.setCell ?_ ?_ _ | with_reducible refine Below.drew ?_ | with_reducible refine Below.drewN ?_ _ | with_reducible refine Below.ext ?_ (by assumption) | (simp <;> omega) | omega)); clear ho5 hl5)
        go_roundw
        case rel => exact ⟨k + 1, l5, g5, q5, by omega, by go_num, rfl, Lib.hid (by rw [HL5.out]; exact good_app HG.out HAP.out (HGL.out _ (List.getElem_mem hlt)).1 (HGL.out _ (List.getElem_mem hlt)).2), Lib.hid (by rw [HL5.out]; exact HST2.out), Lib.hid (OwnBs.le HO5.out (by first | exact hws | (simp; omega))), Below.ext hbe hbr5⟩
        case measure => simp [intOf]; omega
    · obtain ⟨hz1, hz2⟩ := allRel_end (by omega) HA.out
      subst hz2
      have HZ1 := Lib.hid hz1
      have hkk : k = log.length := by omega
      have HKK := Lib.hid hkk
      clear hkk hz1
      go_wp2_with fail
      refine bodyPost_ret (v := .tuple #[.slice g (zs).length q, .bool true]) (by simp [results, Try.results34, go_sem, *]) rfl ⟨g, q, zs, rfl, OwnBs.ext HO.out (show Below wr.heap.size wr _ from (by repeat' (first | with_reducible exact Below.refl _ _ | with_reducible assumption | with_reducible refine Below.alloc ?_ ?_ _ | with_reducible refine Below.setCell ?_ ?_ _ | with_reducible refine Below.drew ?_ | with_reducible refine Below.drewN ?_ _ | with_reducible refine Below.ext ?_ (by assumption) | (simp <;> omega) | omega))), HZ1.out, Below.ext hbe (show Below wr.heap.size wr _ from (by repeat' (first | with_reducible exact Below.refl _ _ | with_reducible assumption | with_reducible refine Below.alloc ?_ ?_ _ | with_reducible refine Below.setCell ?_ ?_ _ | with_reducible refine Below.drew ?_ | with_reducible refine Below.drewN ?_ _ | with_reducible refine Below.ext ?_ (by assumption) | (simp <;> omega) | omega)))⟩
end Go.Proofs.Ytdigkaddmpdeoaa
