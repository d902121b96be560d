/-
  The library's insertion sort over mailboxes.
-/
import Derived.Test.YtdigkaddmpdeoaaWSort
import Derived.Test.YtdigkaddmpdeoaaCut
import Derived.IntWalk
namespace Go.Proofs.Ytdigkaddmpdeoaa
open Go.RowKit
set_option linter.unusedVariables false
set_option linter.unusedSimpArgs false

theorem OwnBs.swapped2 {w : World} {B E EM g c j : Nat} {l : List PBox} (h : OwnBs w B E EM (some ⟨g, 0, none⟩) c l) (hc : c ≠ 0) (hj : 0 < j) (hl : j < l.length) :
    OwnBs (putW (putW w g ((j - 1) * 4) l[j].cells) g (j * 4) l[j - 1].cells) B E EM (some ⟨g, 0, none⟩) c (swapB l j) ∧ w.grownBy (putW (putW w g ((j - 1) * 4) l[j].cells) g (j * 4) l[j - 1].cells) (some g) := by
  obtain ⟨g', hg', hrow⟩ := h.row.row hc
  cases hg'
  obtain ⟨h1, g1⟩ := own_put l[j].cells w ((j - 1) * 4) _ hrow
  rw [putAt_flat PBox.cells_len l (j - 1) (by omega)] at h1
  obtain ⟨h2, g2⟩ := own_put l[j - 1].cells _ (j * 4) _ h1
  rw [putAt_flat PBox.cells_len _ j (by simp; omega)] at h2
  have e : swapB l j = (l.set (j - 1) l[j]).set j l[j - 1] := by
    unfold swapB; rw [dif_pos ⟨hj, hl⟩]
    exact List.set_comm _ _ (by omega)
  rw [← e] at h2
  exact ⟨h.perm (swapB_perm l j) (by rw [swapB_len]; exact Own.of_row h2) (grown_trans g1 g2) hc, grown_trans g1 g2⟩
theorem SortTo.mono {l : List PBox} {k n : Nat} (h : SortTo l k) (hn : n ≤ k) : SortTo l n := fun p q hpq hq hl hl' => h p q hpq (by omega) hl hl'
theorem SortTo.one (l : List PBox) : SortTo l 1 := fun p q hpq hq hl hl' => by omega

set_option maxRecDepth 100000 in
set_option maxHeartbeats 8000000 in
theorem insSort_any (l : List PBox) (g c B : Nat) (w : World) (h : OwnBs w B 73 95 (some ⟨g, 0, none⟩) c l) (hc : c ≠ 0) (hl : l.length ≤ 12) :
    Calls Try.prog 123 #[.slice (some ⟨g, 0, none⟩) l.length c, .int .i64 0, .int .i64 l.length, .func (.func 104) #[] #[]] w fun e w' => e = .returned (.tuple #[]) ∧ ∃ l', OwnBs w' B 73 95 (some ⟨g, 0, none⟩) c l' ∧ l'.Perm l ∧ SortTo l' l.length ∧ Chg (rowsB (some ⟨g, 0, none⟩) c l) w w' := by
  have HS : Hid (rowsB (some ⟨g, 0, none⟩) c l g) := Or.inl (by simp [foot, hc])
  have hgw : g < w.heap.size := (h.rows_lt g HS.out).2
  have HC := Lib.hid hc
  have H := Lib.hid h
  clear h hc
  go_enter Try.func123, Try.ntmps123
  go_wp2_with fail
  go_loopw [8] (fun i wr => ∃ (k : Nat) (l' : List PBox), 1 ≤ k ∧ i = .int .i64 k ∧ Hid (l'.Perm l) ∧ Hid (SortTo l' k) ∧ Hid (OwnBs wr B 73 95 (some ⟨g, 0, none⟩) c l') ∧ Hid (Chg (rowsB (some ⟨g, 0, none⟩) c l) w wr)) (fun i _ => l.length - (intOf i).toNat)
  case atStart => exact ⟨1, l, Nat.le_refl _, rfl, List.Perm.refl _, SortTo.one _, H.out, Chg.refl _ _⟩
  case round =>
    obtain ⟨k, l', hk, rfl, HP, HSo, HO, HCh⟩ := hrel
    by_cases hlt : k < l.length
    rotate_left
    · go_wp2_with fail
      first
        | exact bodyPost_end (results_none rfl _ _ _) rfl ⟨rfl, l', HO.out, HP.out, HSo.out.mono (by omega), HCh.out⟩
        | exact bodyPost_ret (results_none rfl _ _ _) rfl ⟨rfl, l', HO.out, HP.out, HSo.out.mono (by omega), HCh.out⟩
    · go_wp2_with fail
      go_loopw [9] (fun jv wq => ∃ (j : Nat) (m : List PBox), j ≤ k ∧ jv = .int .i64 j ∧ Hid (m.Perm l) ∧ Hid (InsTo m j k) ∧ Hid (OwnBs wq B 73 95 (some ⟨g, 0, none⟩) c m) ∧ Hid (Chg (rowsB (some ⟨g, 0, none⟩) c l) w wq)) (fun jv _ => (intOf jv).toNat)
      case atStart => exact ⟨k, l', Nat.le_refl _, rfl, HP.out, InsTo.start HSo.out, HO.out, HCh.out⟩
      case round =>
        rename_i wq
        obtain ⟨j, m, hj, rfl, HPm, HIn, HOm, HCm⟩ := hrel
        have hgq : g < wr.heap.size := by (have := HCm.out.size; omega)
        by_cases hj0 : 0 < j
        rotate_left
        · have hd0 : decide ((0 : Int) < (j : Int)) = false := decide_eq_false (by omega)
          have hd0n : decide (0 < j) = false := decide_eq_false hj0
          go_wp2_with fail
          refine wp_region_ext (by kernel_rfl) (by kernel_rfl) ?_
          repeat (go_big_quiet_step (fail))
          refine wpQuiet_nil ?_
          rintro w3 ⟨⟨w3x, hw3⟩, hx3⟩
          have hx4 : w3 = w3x := hx3
          subst hx4
          clear hx3
          go_wp2_with fail
          go_roundw
          case rel => exact ⟨k + 1, m, by omega, by go_num, HPm.out, by (have h9 := HIn.out; rw [show j = 0 from by omega] at h9; exact h9.zero), HOm.out.ext hw3, HCm.out.trans (Chg.ext hw3)⟩
          case measure => simp [intOf]; omega
        · have hd0 : decide ((0 : Int) < (j : Int)) = true := decide_eq_true (by omega)
          have hd0n : decide (0 < j) = true := decide_eq_true hj0
          have hml : m.length = l.length := HPm.out.length_eq
          have hjm : j < m.length := by omega
          have hjm1 : j - 1 < m.length := by omega
          have HML := Lib.hid hml
          have hji : (j : Int) < (l.length : Int) := by omega
          have hji0 : (0 : Int) ≤ (j : Int) := by omega
          have hw1 : IntKind.i64.wrap ((j : Int) - 1) = (j : Int) - 1 := IntWalk.i64_in _ (by omega)
          have hi3 : (1 : Int) ≤ (j : Int) := by omega
          have hi4 : (j : Int) - 1 < (l.length : Int) := by omega
          have hi5 : (0 : Int) ≤ (j : Int) - 1 := by omega
          have hi2 : ((j : Int) - 1).toNat = j - 1 := by omega
          clear hml
          obtain ⟨g', hg', hrow⟩ := HOm.out.row.row HC.out
          cases hg'
          obtain ⟨b, ofs, hbo, hbb, hat⟩ := (Rd.of_own hrow).ptr (by omega)
          cases hbo
          obtain ⟨x0, x1, x2, x3⟩ := PBox.at hat j hjm
          obtain ⟨y0, y1, y2, y3⟩ := PBox.at hat (j - 1) hjm1
          simp only [Nat.zero_add] at x0 x1 x2 x3 y0 y1 y2 y3
          have HAT := Lib.hid hat
          clear hat hrow hbb
          have qx0 := fun y : ExtW wr => (y.h.cell (p := ⟨g, j * 4, none⟩) hgq).trans x0
          have qx1 := fun y : ExtW wr => (y.h.cell (p := ⟨g, j * 4 + 1, none⟩) hgq).trans x1
          have qx2 := fun y : ExtW wr => (y.h.cell (p := ⟨g, j * 4 + 2, none⟩) hgq).trans x2
          have qx3 := fun y : ExtW wr => (y.h.cell (p := ⟨g, j * 4 + 3, none⟩) hgq).trans x3
          have qy0 := fun y : ExtW wr => (y.h.cell (p := ⟨g, (j - 1) * 4, none⟩) hgq).trans y0
          have qy1 := fun y : ExtW wr => (y.h.cell (p := ⟨g, (j - 1) * 4 + 1, none⟩) hgq).trans y1
          have qy2 := fun y : ExtW wr => (y.h.cell (p := ⟨g, (j - 1) * 4 + 2, none⟩) hgq).trans y2
          have qy3 := fun y : ExtW wr => (y.h.cell (p := ⟨g, (j - 1) * 4 + 3, none⟩) hgq).trans y3
          cases hd : nameLt m[j].name m[j - 1].name with
          | false =>
            have hz : decide (cmpZ m[j].name m[j - 1].name < 0) = false := by rw [cmpZ_lt]; exact hd
            have HD := Lib.hid hd
            clear hd
            go_wp2_with fail
            refine wp_region_ext (by kernel_rfl) (by kernel_rfl) ?_
            repeat (go_big_quiet_step ((go_at_call 104; refine (cmpBox_any m[j] m[j - 1] _).mono ?_; rintro e w4 ⟨rfl, hb4⟩; exact ⟨rfl, ExtW.on _ hb4⟩)))
            refine wpQuiet_nil ?_
            rintro w3 ⟨⟨w3x, hw3⟩, hx3⟩
            have hx4 : w3 = w3x := hx3
            subst hx4
            clear hx3 qx0 qx1 qx2 qx3 qy0 qy1 qy2 qy3
            go_wp2_with fail
            go_roundw
            case rel => exact ⟨k + 1, m, by omega, by go_num, HPm.out, HIn.out.stop hj0 hjm HD.out, HOm.out.ext hw3, HCm.out.trans (Chg.ext hw3)⟩
            case measure => simp [intOf]; omega
          | true =>
            have hz : decide (cmpZ m[j].name m[j - 1].name < 0) = true := by rw [cmpZ_lt]; exact hd
            have HD := Lib.hid hd
            clear hd
            go_wp2_with fail
            refine wp_region_ext (by kernel_rfl) (by kernel_rfl) ?_
            repeat (go_big_quiet_step ((go_at_call 104; refine (cmpBox_any m[j] m[j - 1] _).mono ?_; rintro e w4 ⟨rfl, hb4⟩; exact ⟨rfl, ExtW.on _ hb4⟩)))
            refine wpQuiet_nil ?_
            rintro w3 ⟨⟨w3x, hw3⟩, hx3⟩
            have hx4 : w3 = w3x := hx3
            subst hx4
            clear hx3 qx0 qx1 qx2 qx3 qy0 qy1 qy2 qy3
            have hg3 : g < w3.heap.size := Nat.lt_of_lt_of_le hgq hw3.size
            have HO3 := Lib.hid (HOm.out.ext hw3)
            obtain ⟨g', hg', hrow⟩ := HO3.out.row.row HC.out
            cases hg'
            obtain ⟨b, ofs, hbo, hbb, hat⟩ := (Rd.of_own hrow).ptr (by omega)
            cases hbo
            obtain ⟨x0, x1, x2, x3⟩ := PBox.at hat j hjm
            obtain ⟨y0, y1, y2, y3⟩ := PBox.at hat (j - 1) hjm1
            simp only [Nat.zero_add] at x0 x1 x2 x3 y0 y1 y2 y3
            obtain ⟨-, fx0⟩ := own_slot hrow (j * 4) (by omega)
            obtain ⟨-, fx1⟩ := own_slot hrow (j * 4 + 1) (by omega)
            obtain ⟨-, fx2⟩ := own_slot hrow (j * 4 + 2) (by omega)
            obtain ⟨-, fx3⟩ := own_slot hrow (j * 4 + 3) (by omega)
            obtain ⟨-, fy0⟩ := own_slot hrow ((j - 1) * 4) (by omega)
            obtain ⟨-, fy1⟩ := own_slot hrow ((j - 1) * 4 + 1) (by omega)
            obtain ⟨-, fy2⟩ := own_slot hrow ((j - 1) * 4 + 2) (by omega)
            obtain ⟨-, fy3⟩ := own_slot hrow ((j - 1) * 4 + 3) (by omega)
            have hne : j ≠ j - 1 := by omega
            have HAT3 := Lib.hid hat
            clear hat hrow hbb
            go_wp2_with fail
            first
              | go_region_law (fail)
              | fail
            all_goals
              go_wp2_with fail
              go_roundw
              case rel =>
                have hsw := HO3.out.swapped HC.out hj0 hjm
                simp only [putW, PBox.cells, Nat.add_assoc, Nat.reduceAdd] at hsw
                obtain ⟨hs1, hs2⟩ := hsw
                refine ⟨j - 1, swapB m j, by omega, by rw [show ((j - 1 : Nat) : Int) = (j : Int) - 1 from by omega], (swapB_perm m j).trans HPm.out, HIn.out.swap hj0 hjm hj HD.out, ?_, ?_⟩
                · exact hs1.ext ((Below.refl _ _).drew)
                · exact HCm.out.trans ((Chg.ext hw3).trans ((Chg.grown hs2 (fun x hx => by cases hx; exact HS.out)).trans (Chg.ext ((Below.refl _ _).drew))))
              case measure => simp [intOf]; omega
end Go.Proofs.Ytdigkaddmpdeoaa
