/-
  The reference's StoreOk.
-/
import Derived.Test.YtdigkaddmpdeoaaGreatWMade
import Derived.Test.YtdigkaddmpdeoaaGreatWSameBoxes
namespace Go.Proofs.YtdigkaddmpdeoaaGreat
open Go.RowKit
set_option linter.unusedVariables false
set_option linter.unusedSimpArgs false

theorem specAllFull (l : List DCommit) (la : Option Addr) (lc : Nat) (w : World) (RL : Rd w la lc 6 l.length (l.flatMap DCommit.cells)) (hll : l.length ≤ 1048576) (gl : ∀ y ∈ l, y.name.size ≤ 9223372036854775807 ∧ y.text.size ≤ 9223372036854775807) (D : List DBox) (rok : Bool) (H : Hid (allD [] l = (D, rok))) :
    Calls Tryz.prog 38 #[.slice none 0 0, .slice la l.length lc] w fun e w' => ∃ g q l', e = .returned (.tuple #[.slice g l'.length q, .bool rok]) ∧ OwnBs w' w.heap.size 42 88 g q l' ∧ l'.map PBox.box = D ∧ Ext w w' :=
  specAppliedAll_law [] none 0 l la lc w ⟨by simp, Nat.le_refl _, by omega, fun h => by simp at h⟩ (fun y hy => by cases hy) (by simp) (fun y hy => by cases hy) (fun y hy => by cases hy) (fun y hy => by cases hy) RL hll gl D rok (Lib.hid H.out)

set_option maxRecDepth 100000 in
set_option maxHeartbeats 8000000 in
theorem specStoreOk_any (b : List PBox) (ba : Option Addr) (bc : Nat) (l : List DCommit) (la : Option Addr) (lc : Nat) (gv : Int) (w : World) (R : Rd w ba bc 4 b.length (b.flatMap PBox.cells)) (M : RdM w b) (RL : Rd w la lc 6 l.length (l.flatMap DCommit.cells)) (hl : b.length ≤ 1048576) (hlm : ∀ y ∈ b, y.msgs.length ≤ 1048576) (hll : l.length ≤ 1048576) (gn : ∀ y ∈ b, y.name.size ≤ 9223372036854775807) (gt : ∀ y ∈ b, ∀ m ∈ y.msgs, m.text.size ≤ 9223372036854775807) (gl : ∀ y ∈ l, y.name.size ≤ 9223372036854775807 ∧ y.text.size ≤ 9223372036854775807) (r : Bool) (Hr : Hid (Tells r (StoreP ⟨b.map PBox.box, l, gv⟩))) :
    Calls Tryz.prog 9 #[.agg #[.slice ba b.length bc, .slice la l.length lc, .int .i64 gv]] w fun e w' => e = .returned (.bool r) ∧ Ext w w' := by
  have HR := Lib.hid R
  have HM := Lib.hid M
  have HRL := Lib.hid RL
  have HGL := Lib.hid gl
  have hcm : l.length ≤ 9223372036854775807 := by omega
  clear R M RL gl hlm gn gt
  obtain ⟨rg, hrg⟩ := boolOf (0 ≤ gv ∧ gv ≤ 999999999)
  have HRG := Lib.hid hrg
  obtain ⟨rm, hrm⟩ := boolOf (MadeP l)
  have HRM := Lib.hid hrm
  obtain ⟨D, rok, hD⟩ : ∃ D rok, allD [] l = (D, rok) := ⟨_, _, rfl⟩
  have HD := Lib.hid hD
  clear hrg hrm hD
  by_cases h300 : 300 < l.length
  · have hd : decide ((300 : Int) < (l.length : Int)) = true := decide_eq_true (by omega)
    go_enter Tryz.func9, Tryz.ntmps9
    go_wp2_with fail
    go_ret
    exact ⟨ret_no Hr.out (fun h => by have h2 : l.length ≤ 300 := h.2.1; omega), bxt⟩
  have hd : decide ((300 : Int) < (l.length : Int)) = false := decide_eq_false (by omega)
  cases rg with
  | false =>
    go_enter Tryz.func9, Tryz.ntmps9
    go_wp2_with (go_at_call 36; refine (l1In_any gv 0 999999999 _ false HRG).mono ?_; rintro e wx ⟨rfl, hwx⟩; subst wx)
    go_ret
    exact ⟨ret_no Hr.out (fun h => no_of HRG.out h.2.2.1), bxt⟩
  | true =>
  cases rm with
  | false =>
    go_enter Tryz.func9, Tryz.ntmps9
    go_wp2_with (first | (go_at_call 36; refine (l1In_any gv 0 999999999 _ true HRG).mono ?_; rintro e wx ⟨rfl, hwx⟩; subst wx) | (go_at_call 37; refine (specMade_any l la lc _ (HRL.out.ext bxt) false HRM).mono ?_; rintro e w2 ⟨rfl, hb2⟩; have cp0_0 : w2.cell? ⟨w.heap.size, 0, none⟩ = some (.slice ba b.length bc) := (hb2.cell (p := ⟨w.heap.size, 0, none⟩) smx).trans kpx; have cp0_1 : w2.cell? ⟨w.heap.size, 1, none⟩ = some (.slice la l.length lc) := (hb2.cell (p := ⟨w.heap.size, 1, none⟩) smx).trans kpx; have cp0_2 : w2.cell? ⟨w.heap.size, 2, none⟩ = some (.int .i64 gv) := (hb2.cell (p := ⟨w.heap.size, 2, none⟩) smx).trans kpx; have sp0 : w.heap.size < w2.heap.size := (by have hss := hb2.size; first | omega | (simp at hss; omega))))
    go_ret
    exact ⟨ret_no Hr.out (fun h => no_of HRM.out h.2.2.2.1), bxt⟩
  | true =>
    go_enter Tryz.func9, Tryz.ntmps9
    go_wp2_with (first | (go_at_call 36; refine (l1In_any gv 0 999999999 _ true HRG).mono ?_; rintro e wx ⟨rfl, hwx⟩; subst wx) | (go_at_call 37; refine (specMade_any l la lc _ (HRL.out.ext bxt) true HRM).mono ?_; rintro e w2 ⟨rfl, hb2⟩; have cp0_0 : w2.cell? ⟨w.heap.size, 0, none⟩ = some (.slice ba b.length bc) := (hb2.cell (p := ⟨w.heap.size, 0, none⟩) smx).trans kpx; have cp0_1 : w2.cell? ⟨w.heap.size, 1, none⟩ = some (.slice la l.length lc) := (hb2.cell (p := ⟨w.heap.size, 1, none⟩) smx).trans kpx; have cp0_2 : w2.cell? ⟨w.heap.size, 2, none⟩ = some (.int .i64 gv) := (hb2.cell (p := ⟨w.heap.size, 2, none⟩) smx).trans kpx; have sp0 : w.heap.size < w2.heap.size := (by have hss := hb2.size; first | omega | (simp at hss; omega))) | (go_at_call 38; refine (specAllFull l la lc _ (HRL.out.ext bxt) hll HGL.out D rok HD).mono ?_; rintro e w4 ⟨g4, q4, l4, rfl, ho4, hd4, hb4⟩; have HO4 := Lib.hid ho4; have HD4 := Lib.hid hd4; clear ho4 hd4; have cr0_0 : w4.cell? ⟨w.heap.size, 0, none⟩ = some (.slice ba b.length bc) := (hb4.cell (p := ⟨w.heap.size, 0, none⟩) smx).trans kpx; have cr0_1 : w4.cell? ⟨w.heap.size, 1, none⟩ = some (.slice la l.length lc) := (hb4.cell (p := ⟨w.heap.size, 1, none⟩) smx).trans kpx; have cr0_2 : w4.cell? ⟨w.heap.size, 2, none⟩ = some (.int .i64 gv) := (hb4.cell (p := ⟨w.heap.size, 2, none⟩) smx).trans kpx; have sr0 : w.heap.size < w4.heap.size := (by have hss := hb4.size; first | omega | (simp at hss; omega))))
    have hbw4 : Ext w w4 := bxt
    go_loopw [4, 5] (fun okv i wr => ∃ (k : Nat) (d : Bool), k ≤ l.length ∧ i = .int .i64 k ∧ okv = .bool d ∧ Hid (Tells d (rok = true ∧ UnderTo l gv k)) ∧ Below w4.heap.size w4 wr) (fun _ i _ => l.length - (intOf i).toNat)
    case atStart => exact ⟨0, rok, Nat.zero_le _, rfl, rfl, ⟨fun h => ⟨h, fun i hi h => by omega⟩, fun h => h.1⟩, Below.refl _ _⟩
    case round =>
      obtain ⟨k, d, hk, rfl, rfl, HT, hb⟩ := hrel
      have hbw : Ext w wr := Below.ext hbw4 hb
      have hs4 : w.heap.size < wr.heap.size := Nat.lt_of_lt_of_le sr0 hb.size
      have v0 : wr.cell? ⟨w.heap.size, 0, none⟩ = some (.slice ba b.length bc) := (hb.cell (p := ⟨w.heap.size, 0, none⟩) sr0).trans cr0_0
      have v1 : wr.cell? ⟨w.heap.size, 1, none⟩ = some (.slice la l.length lc) := (hb.cell (p := ⟨w.heap.size, 1, none⟩) sr0).trans cr0_1
      have v2 : wr.cell? ⟨w.heap.size, 2, none⟩ = some (.int .i64 gv) := (hb.cell (p := ⟨w.heap.size, 2, none⟩) sr0).trans cr0_2
      by_cases hlt : k < l.length
      · obtain ⟨lb, ofs, rfl, hlb, hat⟩ := HRL.out.ptr (by omega)
        have hlw : lb < wr.heap.size := Nat.lt_of_lt_of_le hlb hbw.size
        obtain ⟨x0, x1, -, -, -, -⟩ := DCommit.at (hat.ext hlb hbw) k hlt
        have HAT := Lib.hid hat
        clear hat
        have i1 : (k : Int) < (l.length : Int) := by omega
        have z0 := fun y : ExtW wr => (y.h.cell (p := ⟨lb, ofs + k * 6, none⟩) hlw).trans x0
        have z1 := fun y : ExtW wr => (y.h.cell (p := ⟨lb, ofs + k * 6 + 1, none⟩) hlw).trans x1
        have u1 := fun y : ExtW wr => (y.h.cell (p := ⟨w.heap.size, 1, none⟩) hs4).trans v1
        have u2 := fun y : ExtW wr => (y.h.cell (p := ⟨w.heap.size, 2, none⟩) hs4).trans v2
        cases d with
        | false =>
          go_wp2_with fail
          refine wp_region_ext (by kernel_rfl) (by kernel_rfl) ?_
          repeat (go_big_quiet_step (fail))
          refine wpQuiet_nil ?_
          rintro w3 ⟨⟨w3x, hw3⟩, hx3⟩
          have hx4 : w3 = w3x := hx3
          subst hx4
          clear hx3 z0 z1 u1 u2
          go_wp2_with fail
          go_roundw
          case rel => exact ⟨k + 1, false, by omega, by go_num, rfl, ⟨fun h => (by cases h), fun h => absurd ⟨h.1, fun i hi hik => h.2 i hi (by omega)⟩ (no_of HT.out)⟩, Below.ext hb hw3⟩
          case measure => simp [intOf]; omega
        | true =>
          by_cases e1 : l[k].kind = 1
          · have d1 : (l[k].kind != 1) = false := by rw [e1]; rfl
            by_cases e2 : l[k].validity ≤ gv
            · have d2 : decide (l[k].validity ≤ gv) = true := decide_eq_true e2
              have HE := Lib.hid e2
              clear e1 e2
              go_wp2_with fail
              refine wp_region_ext (by kernel_rfl) (by kernel_rfl) ?_
              repeat (go_big_quiet_step (fail))
              refine wpQuiet_nil ?_
              rintro w3 ⟨⟨w3x, hw3⟩, hx3⟩
              have hx4 : w3 = w3x := hx3
              subst hx4
              clear hx3 z0 z1 u1 u2
              go_wp2_with fail
              go_roundw
              case rel => exact ⟨k + 1, true, by omega, by go_num, rfl, ⟨fun _ => ⟨(yes_of HT.out).1, underTo_succ hlt (yes_of HT.out).2 (fun _ => HE.out)⟩, fun _ => rfl⟩, Below.ext hb hw3⟩
              case measure => simp [intOf]; omega
            · have d2 : decide (l[k].validity ≤ gv) = false := decide_eq_false e2
              have HE := Lib.hid (And.intro e1 e2)
              clear e1 e2
              go_wp2_with fail
              refine wp_region_ext (by kernel_rfl) (by kernel_rfl) ?_
              repeat (go_big_quiet_step (fail))
              refine wpQuiet_nil ?_
              rintro w3 ⟨⟨w3x, hw3⟩, hx3⟩
              have hx4 : w3 = w3x := hx3
              subst hx4
              clear hx3 z0 z1 u1 u2
              go_wp2_with fail
              go_roundw
              case rel => exact ⟨k + 1, false, by omega, by go_num, rfl, ⟨fun h => (by cases h), fun h => absurd (h.2 k hlt (by omega) HE.out.1) (by have := HE.out.2; omega)⟩, Below.ext hb hw3⟩
              case measure => simp [intOf]; omega
          · have d1 : (l[k].kind != 1) = true := by simp [e1]
            have HE := Lib.hid e1
            clear e1
            go_wp2_with fail
            refine wp_region_ext (by kernel_rfl) (by kernel_rfl) ?_
            repeat (go_big_quiet_step (fail))
            refine wpQuiet_nil ?_
            rintro w3 ⟨⟨w3x, hw3⟩, hx3⟩
            have hx4 : w3 = w3x := hx3
            subst hx4
            clear hx3 z0 z1 u1 u2
            go_wp2_with fail
            go_roundw
            case rel => exact ⟨k + 1, true, by omega, by go_num, rfl, ⟨fun _ => ⟨(yes_of HT.out).1, underTo_succ hlt (yes_of HT.out).2 (fun h => absurd h HE.out)⟩, fun _ => rfl⟩, Below.ext hb hw3⟩
            case measure => simp [intOf]; omega
      · have hkk : k = l.length := by omega
        have HKK := Lib.hid hkk
        clear hkk
        cases d with
        | false =>
          go_wp2_with fail
          go_ret
          exact ⟨ret_no Hr.out (fun h => no_of HT.out ⟨by (have h1 := HD.out; rw [show allD [] l = (b.map PBox.box, true) from h.1] at h1; cases h1; rfl), by (have h2 := h.2.2.2.2; rw [HKK.out]; exact h2)⟩), hbw⟩
        | true =>
          obtain ⟨ds, hds⟩ : ∃ d, decide (l4.map PBox.box = b.map PBox.box) = d := ⟨_, rfl⟩
          have HDS := Lib.hid hds
          clear hds
          go_wp2_with (go_at_call 39; refine (specSameBoxes_any l4 b _ _ _ _ _ (HO4.out.rd.ext bxt) (RdM.ext HO4.out.rdm bxt) (HR.out.ext bxt) (RdM.ext HM.out bxt) ds HDS).mono ?_; rintro e w6 ⟨rfl, hb6⟩)
          go_ret
          refine ⟨?_, bxt⟩
          obtain ⟨h1, h2⟩ := yes_of HT.out
          rw [HKK.out] at h2
          cases ds with
          | false => exact ret_no Hr.out (fun h => by (have h3 := HD.out; rw [show allD [] l = (b.map PBox.box, true) from h.1] at h3; cases h3; exact of_decide_eq_false HDS.out HD4.out))
          | true => exact ret_yes Hr.out ⟨by (have h3 : l4.map PBox.box = b.map PBox.box := of_decide_eq_true HDS.out; rw [HD4.out] at h3; show allD [] l = (b.map PBox.box, true); rw [HD.out, h1, h3]), (show l.length ≤ 300 by omega), yes_of HRG.out, yes_of HRM.out, h2⟩
end Go.Proofs.YtdigkaddmpdeoaaGreat
