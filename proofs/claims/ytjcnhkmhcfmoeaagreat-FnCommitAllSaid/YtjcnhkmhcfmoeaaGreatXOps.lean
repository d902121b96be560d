/-
  The reference's l11Made.
  The reference's StoreOk.
  The reference's CommitAll.
  The reference's l12Full.
  What the closures of the operations have in common.
-/
import Derived.Test.YtjcnhkmhcfmoeaaGreatWStoreP
import Derived.Test.YtjcnhkmhcfmoeaaGreatXOwn
import Derived.Test.YtjcnhkmhcfmoeaaGreatWSameBoxes
import Derived.Test.YtjcnhkmhcfmoeaaGreatXLaw
import Derived.Test.YtjcnhkmhcfmoeaaGreatWComS
import Derived.Test.YtjcnhkmhcfmoeaaGreatWComAllP
import Derived.Test.YtjcnhkmhcfmoeaaGreatWCutS
import Derived.Test.YtjcnhkmhcfmoeaaGreatWOpsP
import Derived.IntWalk
namespace Go.Proofs.YtjcnhkmhcfmoeaaGreat
open Go.RowKit
set_option linter.unusedVariables false
set_option linter.unusedSimpArgs false

set_option maxRecDepth 100000 in
set_option maxHeartbeats 4000000 in
theorem specMade_any (l : List DCommit) (a : Option Addr) (c : Nat) (w : World) (R : Rd w a c 6 l.length (l.flatMap DCommit.cells)) (r : Bool) (Hr : Hid (Tells r (MadeP l))) :
    Calls Tryz.prog 75 #[.slice a l.length c] w fun e w' => e = .returned (.bool r) ∧ Ext w w' := by
  have hl : l.length ≤ 9223372036854775807 := Nat.le_trans R.nc R.cm
  have HR := Lib.hid R
  clear R
  go_enter Tryz.func75, Tryz.ntmps75
  go_wp2_with fail
  go_loopw [3] (fun i wr => ∃ k : Nat, k ≤ l.length ∧ i = .int .i64 k ∧ Hid (MadeTo l k) ∧ Below w.heap.size w wr) (fun i _ => l.length - (intOf i).toNat)
  case atStart => exact ⟨0, Nat.zero_le _, rfl, fun i hi h => by omega, Below.refl _ _⟩
  case round =>
    obtain ⟨k, hk, rfl, HMD, hb⟩ := hrel
    obtain ⟨wo, hwo⟩ : ∃ x, x = wr := ⟨_, rfl⟩
    subst hwo
    by_cases hlt : k < l.length
    · obtain ⟨b, o, rfl, hbb, hat⟩ := HR.out.ptr (by omega)
      have HAT := Lib.hid (hat.ext hbb hb)
      have hbw : b < wo.heap.size := Nat.lt_of_lt_of_le hbb hb.size
      obtain ⟨x0, x1, -, -, -, -⟩ := DCommit.at HAT.out k hlt
      clear hat
      go_wp2_with fail
      go_loopw [4] (fun j wq => ∃ p : Nat, p ≤ k ∧ j = .int .i64 p ∧ Hid (∀ j (hj : j < k), j < p → ¬ (l[k].kind = 1 ∧ l[j].kind = 1 ∧ l[k].validity = l[j].validity)) ∧ Below wo.heap.size wo wq) (fun j _ => k - (intOf j).toNat)
      case atStart => exact ⟨0, Nat.zero_le _, rfl, fun j hj h => by omega, Below.refl _ _⟩
      case round =>
        obtain ⟨p, hp, rfl, HPR, hbq⟩ := hrel
        by_cases hlp : p < k
        · have hpl : p < l.length := by omega
          obtain ⟨y0, y1, -, -, -, -⟩ := DCommit.at HAT.out p hpl
          have z0 := fun y : ExtW wr => ((Below.ext hbq y.h).cell (p := ⟨b, o + k * 6, none⟩) hbw).trans x0
          have z1 := fun y : ExtW wr => ((Below.ext hbq y.h).cell (p := ⟨b, o + k * 6 + 1, none⟩) hbw).trans x1
          have z2 := fun y : ExtW wr => ((Below.ext hbq y.h).cell (p := ⟨b, o + p * 6, none⟩) hbw).trans y0
          have z3 := fun y : ExtW wr => ((Below.ext hbq y.h).cell (p := ⟨b, o + p * 6 + 1, none⟩) hbw).trans y1
          have i1 : (k : Int) < (l.length : Int) := by omega
          have i2 : (p : Int) < (l.length : Int) := by omega
          by_cases e1 : l[k].kind = 1
          · have d1 : (l[k].kind == 1) = true := by rw [e1]; rfl
            by_cases e2 : l[p].kind = 1
            · have d2 : (l[p].kind == 1) = true := by rw [e2]; rfl
              by_cases e3 : l[k].validity = l[p].validity
              · have d3 : (l[k].validity == l[p].validity) = true := beq_iff_eq.2 e3
                have HE := Lib.hid (And.intro e1 (And.intro e2 e3))
                clear e1 e2 e3
                go_wp2_with fail
                refine wp_region_ext (by kernel_rfl) (by kernel_rfl) ?_
                repeat (go_big_quiet_step (fail))
                refine wpQuiet_nil ?_
                rintro w3 ⟨⟨w3x, hw3⟩, hx3⟩
                have hx4 : w3 = w3x := hx3
                subst hx4
                clear hx3 z0 z1 z2 z3
                go_wp2_with fail
                go_ret
                exact ⟨ret_no Hr.out (fun hm => hm k hlt hlt p hlp HE.out), Below.ext hb (Below.ext hbq hw3)⟩
              · have d3 : (l[k].validity == l[p].validity) = false := by simp [e3]
                have HE := Lib.hid e3
                clear e1 e2 e3
                go_wp2_with fail
                refine wp_region_ext (by kernel_rfl) (by kernel_rfl) ?_
                repeat (go_big_quiet_step (fail))
                refine wpQuiet_nil ?_
                rintro w3 ⟨⟨w3x, hw3⟩, hx3⟩
                have hx4 : w3 = w3x := hx3
                subst hx4
                clear hx3 z0 z1 z2 z3
                go_wp2_with fail
                go_roundw
                case rel => exact ⟨p + 1, by omega, by go_num, fun j hj hjp h => by
                    by_cases e : j = p
                    · subst e; exact HE.out (by first | exact h.2.2 | exact h.2.1 | exact h.1)
                    · exact HPR.out j hj (by omega) h, Below.ext hbq hw3⟩
                case measure => simp [intOf]; omega
            · have d2 : (l[p].kind == 1) = false := by simp [e2]
              have HE := Lib.hid e2
              clear e1 e2
              go_wp2_with fail
              refine wp_region_ext (by kernel_rfl) (by kernel_rfl) ?_
              repeat (go_big_quiet_step (fail))
              refine wpQuiet_nil ?_
              rintro w3 ⟨⟨w3x, hw3⟩, hx3⟩
              have hx4 : w3 = w3x := hx3
              subst hx4
              clear hx3 z0 z1 z2 z3
              go_wp2_with fail
              go_roundw
              case rel => exact ⟨p + 1, by omega, by go_num, fun j hj hjp h => by
                  by_cases e : j = p
                  · subst e; exact HE.out (by first | exact h.2.2 | exact h.2.1 | exact h.1)
                  · exact HPR.out j hj (by omega) h, Below.ext hbq hw3⟩
              case measure => simp [intOf]; omega
          · have d1 : (l[k].kind == 1) = false := by simp [e1]
            have HE := Lib.hid e1
            clear e1
            go_wp2_with fail
            refine wp_region_ext (by kernel_rfl) (by kernel_rfl) ?_
            repeat (go_big_quiet_step (fail))
            refine wpQuiet_nil ?_
            rintro w3 ⟨⟨w3x, hw3⟩, hx3⟩
            have hx4 : w3 = w3x := hx3
            subst hx4
            clear hx3 z0 z1 z2 z3
            go_wp2_with fail
            go_roundw
            case rel => exact ⟨p + 1, by omega, by go_num, fun j hj hjp h => by
                by_cases e : j = p
                · subst e; exact HE.out (by first | exact h.2.2 | exact h.2.1 | exact h.1)
                · exact HPR.out j hj (by omega) h, Below.ext hbq hw3⟩
            case measure => simp [intOf]; omega
        · go_wp2_with fail
          go_roundw
          case rel => exact ⟨k + 1, by omega, by go_num, madeTo_succ hlt HMD.out (fun j hj => HPR.out j hj (by omega)), Below.ext hb hbq⟩
          case measure => simp [intOf]; omega
    · go_wp2_with fail
      go_ret
      exact ⟨ret_yes Hr.out (fun i hi hil => HMD.out i hi (by omega)), hb⟩
end Go.Proofs.YtjcnhkmhcfmoeaaGreat

namespace Go.Proofs.YtjcnhkmhcfmoeaaGreat
open Go.RowKit
set_option linter.unusedVariables false
set_option linter.unusedSimpArgs false

theorem specAllFull (l : List DCommit) (la : Option Addr) (lc : Nat) (w : World) (RL : Rd w la lc 6 l.length (l.flatMap DCommit.cells)) (hll : l.length ≤ 1048576) (gl : ∀ y ∈ l, y.name.size ≤ 9223372036854775807 ∧ y.text.size ≤ 9223372036854775807) (D : List DBox) (rok : Bool) (H : Hid (allD [] l = (D, rok))) :
    Calls Tryz.prog 76 #[.slice none 0 0, .slice la l.length lc] w fun e w' => ∃ g q l', e = .returned (.tuple #[.slice g l'.length q, .bool rok]) ∧ OwnBs w' w.heap.size 49 66 g q l' ∧ l'.map PBox.box = D ∧ Ext w w' :=
  specAppliedAll_law [] none 0 l la lc w ⟨by simp, Nat.le_refl _, by omega, fun h => by simp at h⟩ (fun y hy => by cases hy) (by simp) (fun y hy => by cases hy) (fun y hy => by cases hy) (fun y hy => by cases hy) RL hll gl D rok (Lib.hid H.out)

set_option maxRecDepth 100000 in
set_option maxHeartbeats 8000000 in
theorem specStoreOk_any (b : List PBox) (ba : Option Addr) (bc : Nat) (l : List DCommit) (la : Option Addr) (lc : Nat) (gv : Int) (w : World) (R : Rd w ba bc 4 b.length (b.flatMap PBox.cells)) (M : RdM w b) (RL : Rd w la lc 6 l.length (l.flatMap DCommit.cells)) (hl : b.length ≤ 1048576) (hlm : ∀ y ∈ b, y.msgs.length ≤ 1048576) (hll : l.length ≤ 1048576) (gn : ∀ y ∈ b, y.name.size ≤ 9223372036854775807) (gt : ∀ y ∈ b, ∀ m ∈ y.msgs, m.text.size ≤ 9223372036854775807) (gl : ∀ y ∈ l, y.name.size ≤ 9223372036854775807 ∧ y.text.size ≤ 9223372036854775807) (r : Bool) (Hr : Hid (Tells r (StoreP ⟨b.map PBox.box, l, gv⟩))) :
    Calls Tryz.prog 19 #[.agg #[.slice ba b.length bc, .slice la l.length lc, .int .i64 gv]] w fun e w' => e = .returned (.bool r) ∧ Ext w w' := by
  have HR := Lib.hid R
  have HM := Lib.hid M
  have HRL := Lib.hid RL
  have HGL := Lib.hid gl
  have hcm : l.length ≤ 9223372036854775807 := by omega
  clear R M RL gl hlm gn gt
  obtain ⟨rg, hrg⟩ := boolOf (0 ≤ gv ∧ gv ≤ 999999999)
  have HRG := Lib.hid hrg
  obtain ⟨rm, hrm⟩ := boolOf (MadeP l)
  have HRM := Lib.hid hrm
  obtain ⟨D, rok, hD⟩ : ∃ D rok, allD [] l = (D, rok) := ⟨_, _, rfl⟩
  have HD := Lib.hid hD
  clear hrg hrm hD
  by_cases h300 : 300 < l.length
  · have hd : decide ((300 : Int) < (l.length : Int)) = true := decide_eq_true (by omega)
    go_enter Tryz.func19, Tryz.ntmps19
    go_wp2_with fail
    go_ret
    exact ⟨ret_no Hr.out (fun h => by have h2 : l.length ≤ 300 := h.2.1; omega), bxt⟩
  have hd : decide ((300 : Int) < (l.length : Int)) = false := decide_eq_false (by omega)
  cases rg with
  | false =>
    go_enter Tryz.func19, Tryz.ntmps19
    go_wp2_with (go_at_call 74; refine (l1In_any gv 0 999999999 _ false HRG).mono ?_; rintro e wx ⟨rfl, hwx⟩; subst wx)
    go_ret
    exact ⟨ret_no Hr.out (fun h => no_of HRG.out h.2.2.1), bxt⟩
  | true =>
  cases rm with
  | false =>
    go_enter Tryz.func19, Tryz.ntmps19
    go_wp2_with (first | (go_at_call 74; refine (l1In_any gv 0 999999999 _ true HRG).mono ?_; rintro e wx ⟨rfl, hwx⟩; subst wx) | (go_at_call 75; refine (specMade_any l la lc _ (HRL.out.ext bxt) false HRM).mono ?_; rintro e w2 ⟨rfl, hb2⟩; have cp0_0 : w2.cell? ⟨w.heap.size, 0, none⟩ = some (.slice ba b.length bc) := (hb2.cell (p := ⟨w.heap.size, 0, none⟩) smx).trans kpx; have cp0_1 : w2.cell? ⟨w.heap.size, 1, none⟩ = some (.slice la l.length lc) := (hb2.cell (p := ⟨w.heap.size, 1, none⟩) smx).trans kpx; have cp0_2 : w2.cell? ⟨w.heap.size, 2, none⟩ = some (.int .i64 gv) := (hb2.cell (p := ⟨w.heap.size, 2, none⟩) smx).trans kpx; have sp0 : w.heap.size < w2.heap.size := (by have hss := hb2.size; first | omega | (simp at hss; omega))))
    go_ret
    exact ⟨ret_no Hr.out (fun h => no_of HRM.out h.2.2.2.1), bxt⟩
  | true =>
    go_enter Tryz.func19, Tryz.ntmps19
    go_wp2_with (first | (go_at_call 74; refine (l1In_any gv 0 999999999 _ true HRG).mono ?_; rintro e wx ⟨rfl, hwx⟩; subst wx) | (go_at_call 75; refine (specMade_any l la lc _ (HRL.out.ext bxt) true HRM).mono ?_; rintro e w2 ⟨rfl, hb2⟩; have cp0_0 : w2.cell? ⟨w.heap.size, 0, none⟩ = some (.slice ba b.length bc) := (hb2.cell (p := ⟨w.heap.size, 0, none⟩) smx).trans kpx; have cp0_1 : w2.cell? ⟨w.heap.size, 1, none⟩ = some (.slice la l.length lc) := (hb2.cell (p := ⟨w.heap.size, 1, none⟩) smx).trans kpx; have cp0_2 : w2.cell? ⟨w.heap.size, 2, none⟩ = some (.int .i64 gv) := (hb2.cell (p := ⟨w.heap.size, 2, none⟩) smx).trans kpx; have sp0 : w.heap.size < w2.heap.size := (by have hss := hb2.size; first | omega | (simp at hss; omega))) | (go_at_call 76; refine (specAllFull l la lc _ (HRL.out.ext bxt) hll HGL.out D rok HD).mono ?_; rintro e w4 ⟨g4, q4, l4, rfl, ho4, hd4, hb4⟩; have HO4 := Lib.hid ho4; have HD4 := Lib.hid hd4; clear ho4 hd4; have cr0_0 : w4.cell? ⟨w.heap.size, 0, none⟩ = some (.slice ba b.length bc) := (hb4.cell (p := ⟨w.heap.size, 0, none⟩) smx).trans kpx; have cr0_1 : w4.cell? ⟨w.heap.size, 1, none⟩ = some (.slice la l.length lc) := (hb4.cell (p := ⟨w.heap.size, 1, none⟩) smx).trans kpx; have cr0_2 : w4.cell? ⟨w.heap.size, 2, none⟩ = some (.int .i64 gv) := (hb4.cell (p := ⟨w.heap.size, 2, none⟩) smx).trans kpx; have sr0 : w.heap.size < w4.heap.size := (by have hss := hb4.size; first | omega | (simp at hss; omega))))
    have hbw4 : Ext w w4 := bxt
    go_loopw [4, 5] (fun okv i wr => ∃ (k : Nat) (d : Bool), k ≤ l.length ∧ i = .int .i64 k ∧ okv = .bool d ∧ Hid (Tells d (rok = true ∧ UnderTo l gv k)) ∧ Below w4.heap.size w4 wr) (fun _ i _ => l.length - (intOf i).toNat)
    case atStart => exact ⟨0, rok, Nat.zero_le _, rfl, rfl, ⟨fun h => ⟨h, fun i hi h => by omega⟩, fun h => h.1⟩, Below.refl _ _⟩
    case round =>
      obtain ⟨k, d, hk, rfl, rfl, HT, hb⟩ := hrel
      have hbw : Ext w wr := Below.ext hbw4 hb
      have hs4 : w.heap.size < wr.heap.size := Nat.lt_of_lt_of_le sr0 hb.size
      have v0 : wr.cell? ⟨w.heap.size, 0, none⟩ = some (.slice ba b.length bc) := (hb.cell (p := ⟨w.heap.size, 0, none⟩) sr0).trans cr0_0
      have v1 : wr.cell? ⟨w.heap.size, 1, none⟩ = some (.slice la l.length lc) := (hb.cell (p := ⟨w.heap.size, 1, none⟩) sr0).trans cr0_1
      have v2 : wr.cell? ⟨w.heap.size, 2, none⟩ = some (.int .i64 gv) := (hb.cell (p := ⟨w.heap.size, 2, none⟩) sr0).trans cr0_2
      by_cases hlt : k < l.length
      · obtain ⟨lb, ofs, rfl, hlb, hat⟩ := HRL.out.ptr (by omega)
        have hlw : lb < wr.heap.size := Nat.lt_of_lt_of_le hlb hbw.size
        obtain ⟨x0, x1, -, -, -, -⟩ := DCommit.at (hat.ext hlb hbw) k hlt
        have HAT := Lib.hid hat
        clear hat
        have i1 : (k : Int) < (l.length : Int) := by omega
        have z0 := fun y : ExtW wr => (y.h.cell (p := ⟨lb, ofs + k * 6, none⟩) hlw).trans x0
        have z1 := fun y : ExtW wr => (y.h.cell (p := ⟨lb, ofs + k * 6 + 1, none⟩) hlw).trans x1
        have u1 := fun y : ExtW wr => (y.h.cell (p := ⟨w.heap.size, 1, none⟩) hs4).trans v1
        have u2 := fun y : ExtW wr => (y.h.cell (p := ⟨w.heap.size, 2, none⟩) hs4).trans v2
        cases d with
        | false =>
          go_wp2_with fail
          refine wp_region_ext (by kernel_rfl) (by kernel_rfl) ?_
          repeat (go_big_quiet_step (fail))
          refine wpQuiet_nil ?_
          rintro w3 ⟨⟨w3x, hw3⟩, hx3⟩
          have hx4 : w3 = w3x := hx3
          subst hx4
          clear hx3 z0 z1 u1 u2
          go_wp2_with fail
          go_roundw
          case rel => exact ⟨k + 1, false, by omega, by go_num, rfl, ⟨fun h => (by cases h), fun h => absurd ⟨h.1, fun i hi hik => h.2 i hi (by omega)⟩ (no_of HT.out)⟩, Below.ext hb hw3⟩
          case measure => simp [intOf]; omega
        | true =>
          by_cases e1 : l[k].kind = 1
          · have d1 : (l[k].kind != 1) = false := by rw [e1]; rfl
            by_cases e2 : l[k].validity ≤ gv
            · have d2 : decide (l[k].validity ≤ gv) = true := decide_eq_true e2
              have HE := Lib.hid e2
              clear e1 e2
              go_wp2_with fail
              refine wp_region_ext (by kernel_rfl) (by kernel_rfl) ?_
              repeat (go_big_quiet_step (fail))
              refine wpQuiet_nil ?_
              rintro w3 ⟨⟨w3x, hw3⟩, hx3⟩
              have hx4 : w3 = w3x := hx3
              subst hx4
              clear hx3 z0 z1 u1 u2
              go_wp2_with fail
              go_roundw
              case rel => exact ⟨k + 1, true, by omega, by go_num, rfl, ⟨fun _ => ⟨(yes_of HT.out).1, underTo_succ hlt (yes_of HT.out).2 (fun _ => HE.out)⟩, fun _ => rfl⟩, Below.ext hb hw3⟩
              case measure => simp [intOf]; omega
            · have d2 : decide (l[k].validity ≤ gv) = false := decide_eq_false e2
              have HE := Lib.hid (And.intro e1 e2)
              clear e1 e2
              go_wp2_with fail
              refine wp_region_ext (by kernel_rfl) (by kernel_rfl) ?_
              repeat (go_big_quiet_step (fail))
              refine wpQuiet_nil ?_
              rintro w3 ⟨⟨w3x, hw3⟩, hx3⟩
              have hx4 : w3 = w3x := hx3
              subst hx4
              clear hx3 z0 z1 u1 u2
              go_wp2_with fail
              go_roundw
              case rel => exact ⟨k + 1, false, by omega, by go_num, rfl, ⟨fun h => (by cases h), fun h => absurd (h.2 k hlt (by omega) HE.out.1) (by have := HE.out.2; omega)⟩, Below.ext hb hw3⟩
              case measure => simp [intOf]; omega
          · have d1 : (l[k].kind != 1) = true := by simp [e1]
            have HE := Lib.hid e1
            clear e1
            go_wp2_with fail
            refine wp_region_ext (by kernel_rfl) (by kernel_rfl) ?_
            repeat (go_big_quiet_step (fail))
            refine wpQuiet_nil ?_
            rintro w3 ⟨⟨w3x, hw3⟩, hx3⟩
            have hx4 : w3 = w3x := hx3
            subst hx4
            clear hx3 z0 z1 u1 u2
            go_wp2_with fail
            go_roundw
            case rel => exact ⟨k + 1, true, by omega, by go_num, rfl, ⟨fun _ => ⟨(yes_of HT.out).1, underTo_succ hlt (yes_of HT.out).2 (fun h => absurd h HE.out)⟩, fun _ => rfl⟩, Below.ext hb hw3⟩
            case measure => simp [intOf]; omega
      · have hkk : k = l.length := by omega
        have HKK := Lib.hid hkk
        clear hkk
        cases d with
        | false =>
          go_wp2_with fail
          go_ret
          exact ⟨ret_no Hr.out (fun h => no_of HT.out ⟨by (have h1 := HD.out; rw [show allD [] l = (b.map PBox.box, true) from h.1] at h1; cases h1; rfl), by (have h2 := h.2.2.2.2; rw [HKK.out]; exact h2)⟩), hbw⟩
        | true =>
          obtain ⟨ds, hds⟩ : ∃ d, decide (l4.map PBox.box = b.map PBox.box) = d := ⟨_, rfl⟩
          have HDS := Lib.hid hds
          clear hds
          go_wp2_with (go_at_call 20; refine (specSameBoxes_any l4 b _ _ _ _ _ (HO4.out.rd.ext bxt) (RdM.ext HO4.out.rdm bxt) (HR.out.ext bxt) (RdM.ext HM.out bxt) ds HDS).mono ?_; rintro e w6 ⟨rfl, hb6⟩)
          go_ret
          refine ⟨?_, bxt⟩
          obtain ⟨h1, h2⟩ := yes_of HT.out
          rw [HKK.out] at h2
          cases ds with
          | false => exact ret_no Hr.out (fun h => by (have h3 := HD.out; rw [show allD [] l = (b.map PBox.box, true) from h.1] at h3; cases h3; exact of_decide_eq_false HDS.out HD4.out))
          | true => exact ret_yes Hr.out ⟨by (have h3 : l4.map PBox.box = b.map PBox.box := of_decide_eq_true HDS.out; rw [HD4.out] at h3; show allD [] l = (b.map PBox.box, true); rw [HD.out, h1, h3]), (show l.length ≤ 300 by omega), yes_of HRG.out, yes_of HRM.out, h2⟩
end Go.Proofs.YtjcnhkmhcfmoeaaGreat

namespace Go.Proofs.YtjcnhkmhcfmoeaaGreat
open Go.RowKit
set_option linter.unusedVariables false
set_option linter.unusedSimpArgs false

theorem sMk3 {W w : World} (h3 : Below W.heap.size W w) : Below W.heap.size W w ∧ (∀ b o, b < W.heap.size → w.cell? ⟨b, o, none⟩ = W.cell? ⟨b, o, none⟩) := ⟨h3, (bcell h3).1⟩
/-- the three cells of the pointer's block are written anew -/
theorem StB.put3 {w : World} {G B E EM EC q lc : Nat} {ga la : Option Addr} {zs : List PBox} {l : List DCommit} {gv : Int} {u0 u1 u2 : Value} (h : OwnSt w B E EM EC ga q zs la lc l) (hlt : G < w.heap.size) (hoff : ∀ k, rowsS ga q zs la lc l.length k → k ≠ G)
    (c0 : w.cell? ⟨G, 0, none⟩ = some u0) (c1 : w.cell? ⟨G, 1, none⟩ = some u1) (c2 : w.cell? ⟨G, 2, none⟩ = some u2) (f0 : w.frozen? ⟨G, 0, none⟩ = false) (f1 : w.frozen? ⟨G, 1, none⟩ = false) (f2 : w.frozen? ⟨G, 2, none⟩ = false) :
    StB (((w.setCell ⟨G, 0, none⟩ (.slice ga zs.length q)).setCell ⟨G, 1, none⟩ (.slice la l.length lc)).setCell ⟨G, 2, none⟩ (.int .i64 gv)) G B E EM EC ga q zs la lc l gv :=
  ⟨((h.set_ne hoff _).set_ne hoff _).set_ne hoff _, by simpa [World.setCell] using hlt, hoff, set_other (set_other (set_same c0) (by omega)) (by omega), set_other (set_same (set_other c1 (by omega))) (by omega), set_same (set_other (set_other c2 (by omega)) (by omega)), setf (setf (setf f0)), setf (setf (setf f1)), setf (setf (setf f2))⟩
def CAllLoopS (E EM EC : Nat) (log : List DCommit) (t : DStore) (rok : Bool) (G B : Nat) (w4 : World) (i : Value) (wr : World) : Prop :=
  ∃ (k : Nat) (cur : DStore) (ga : Option Addr) (q : Nat) (zs : List PBox) (la : Option Addr) (lc : Nat), k ≤ log.length ∧ i = .int .i64 k ∧ Hid (StB wr G B E EM EC ga q zs la lc cur.log cur.given) ∧ Hid (zs.map PBox.box = cur.boxes) ∧ Hid (GoodS cur) ∧ Hid (cmtAll cur (log.drop k) = (t, rok)) ∧ Below B w4 wr
set_option maxRecDepth 100000 in
set_option maxHeartbeats 8000000 in
theorem specCommitAll_law (b : List PBox) (ba : Option Addr) (bc : Nat) (l : List DCommit) (la : Option Addr) (lc : Nat) (gv : Int) (log : List DCommit) (ka : Option Addr) (kc : Nat) (w : World) (R : Rd w ba bc 4 b.length (b.flatMap PBox.cells)) (M : RdM w b) (RL : Rd w la lc 6 l.length (l.flatMap DCommit.cells)) (hl : b.length ≤ 1048576) (hlm : ∀ y ∈ b, y.msgs.length ≤ 1048576) (hll : l.length ≤ 1048576) (gn : ∀ y ∈ b, y.name.size ≤ 9223372036854775807) (gt : ∀ y ∈ b, ∀ m ∈ y.msgs, m.text.size ≤ 9223372036854775807) (gl : ∀ y ∈ l, y.name.size ≤ 9223372036854775807 ∧ y.text.size ≤ 9223372036854775807) (RK : Rd w ka kc 6 log.length (log.flatMap DCommit.cells)) (hkl : log.length ≤ 1048576) (gk : ∀ y ∈ log, y.name.size ≤ 9223372036854775807 ∧ y.text.size ≤ 9223372036854775807) (rs : DStore) (rok : Bool) (H : Hid (CmtAllRel ⟨b.map PBox.box, l, gv⟩ log rs rok)) :
    Calls Tryz.prog 15 #[.agg #[.slice ba b.length bc, .slice la l.length lc, .int .i64 gv], .slice ka log.length kc] w fun e w' => ∃ g q zs g2 q2, e = .returned (.tuple #[.agg #[.slice g zs.length q, .slice g2 rs.log.length q2, .int .i64 rs.given], .bool rok]) ∧ OwnSt w' w.heap.size 49 66 41 g q zs g2 q2 rs.log ∧ zs.map PBox.box = rs.boxes ∧ Ext w w' := by
  have HR := Lib.hid R
  have HM := Lib.hid M
  have HRL := Lib.hid RL
  have HLM := Lib.hid hlm
  have HRK := Lib.hid RK
  have HGK := Lib.hid gk
  have HG0 := Lib.hid (good_S (gv := gv) hl hlm hll gn gt gl)
  obtain ⟨tt, htt, hrs⟩ := H.out
  have HTT := Lib.hid htt
  have HRS := Lib.hid hrs
  clear R M RL hlm gn gt RK gk htt hrs gl
  go_enter Tryz.func15, Tryz.ntmps15
  go_wp2_with (go_at_call 68; refine (specCopySt_any b ba bc l la lc gv _ (HR.out.ext bxt) (RdM.ext HM.out (show Below w.heap.size w _ from bxt)) (HRL.out.ext bxt) hl HLM.out hll).mono ?_; rintro e w4 ⟨gb0, q, zs, g2, q2, rfl, hown, hzb, hb4⟩; have HO : Hid (OwnSt w4 (w.heap.size + 2) 49 66 41 gb0 q zs g2 q2 l) := OwnSt.le hown (by first | (simp; done) | (simp; omega)); have HZB := Lib.hid hzb; clear hown hzb; have cp0_0 : w4.cell? ⟨w.heap.size, 0, none⟩ = some (.slice ba b.length bc) := (hb4.cell (p := ⟨w.heap.size, 0, none⟩) smx).trans kpx; have fp0_0 : w4.frozen? ⟨w.heap.size, 0, none⟩ = false := (hb4.frozen (p := ⟨w.heap.size, 0, none⟩) smx).trans kfx; have cp0_1 : w4.cell? ⟨w.heap.size, 1, none⟩ = some (.slice la l.length lc) := (hb4.cell (p := ⟨w.heap.size, 1, none⟩) smx).trans kpx; have fp0_1 : w4.frozen? ⟨w.heap.size, 1, none⟩ = false := (hb4.frozen (p := ⟨w.heap.size, 1, none⟩) smx).trans kfx; have cp0_2 : w4.cell? ⟨w.heap.size, 2, none⟩ = some (.int .i64 gv) := (hb4.cell (p := ⟨w.heap.size, 2, none⟩) smx).trans kpx; have fp0_2 : w4.frozen? ⟨w.heap.size, 2, none⟩ = false := (hb4.frozen (p := ⟨w.heap.size, 2, none⟩) smx).trans kfx; have sp0 : w.heap.size < w4.heap.size := (by have hss := hb4.size; first | omega | (simp at hss; omega)); have cp1_0 : w4.cell? ⟨(w.heap.size + 1), 0, none⟩ = some (.slice none 0 0) := (hb4.cell (p := ⟨(w.heap.size + 1), 0, none⟩) smx).trans kpx; have fp1_0 : w4.frozen? ⟨(w.heap.size + 1), 0, none⟩ = false := (hb4.frozen (p := ⟨(w.heap.size + 1), 0, none⟩) smx).trans kfx; have cp1_1 : w4.cell? ⟨(w.heap.size + 1), 1, none⟩ = some (.slice none 0 0) := (hb4.cell (p := ⟨(w.heap.size + 1), 1, none⟩) smx).trans kpx; have fp1_1 : w4.frozen? ⟨(w.heap.size + 1), 1, none⟩ = false := (hb4.frozen (p := ⟨(w.heap.size + 1), 1, none⟩) smx).trans kfx; have cp1_2 : w4.cell? ⟨(w.heap.size + 1), 2, none⟩ = some (.int .i64 0) := (hb4.cell (p := ⟨(w.heap.size + 1), 2, none⟩) smx).trans kpx; have fp1_2 : w4.frozen? ⟨(w.heap.size + 1), 2, none⟩ = false := (hb4.frozen (p := ⟨(w.heap.size + 1), 2, none⟩) smx).trans kfx; have sp1 : (w.heap.size + 1) < w4.heap.size := (by have hss := hb4.size; first | omega | (simp at hss; omega)))
  have hbw4 : Below w.heap.size w w4 := bxt
  have hs24 : w.heap.size + 2 ≤ w4.heap.size := by omega
  go_loopw [7] (CAllLoopS 49 66 41 log tt rok w4.heap.size (w.heap.size + 2) w4) (fun i _ => log.length - (intOf i).toNat)
  case atStart => exact ⟨0, ⟨b.map PBox.box, l, gv⟩, gb0, q, zs, g2, q2, Nat.zero_le _, rfl, Lib.hid (StB.new HO.out), HZB, HG0, HTT, Below.alloc (Below.refl _ _) hs24 _⟩
  case round =>
    obtain ⟨k, cur, ga, q, zs, la2, lc2, hk, rfl, HS, HZ, HG, HC, hbe⟩ := hrel
    have hbw : Below w.heap.size w wr := hbw4.trans (hbe.mono (by omega))
    have hws : w4.heap.size ≤ wr.heap.size := hbe.size
    have e0 := HS.out.c0
    have e1 := HS.out.c1
    have e2 := HS.out.c2
    have hGs := HS.out.lt
    have ca0_0 : wr.cell? ⟨w.heap.size, 0, none⟩ = some (.slice ba b.length bc) := (hbe.cell (p := ⟨w.heap.size, 0, none⟩) smx).trans kpx
    have fa0_0 : wr.frozen? ⟨w.heap.size, 0, none⟩ = false := (hbe.frozen (p := ⟨w.heap.size, 0, none⟩) smx).trans kfx
    have ca0_1 : wr.cell? ⟨w.heap.size, 1, none⟩ = some (.slice la l.length lc) := (hbe.cell (p := ⟨w.heap.size, 1, none⟩) smx).trans kpx
    have fa0_1 : wr.frozen? ⟨w.heap.size, 1, none⟩ = false := (hbe.frozen (p := ⟨w.heap.size, 1, none⟩) smx).trans kfx
    have ca0_2 : wr.cell? ⟨w.heap.size, 2, none⟩ = some (.int .i64 gv) := (hbe.cell (p := ⟨w.heap.size, 2, none⟩) smx).trans kpx
    have fa0_2 : wr.frozen? ⟨w.heap.size, 2, none⟩ = false := (hbe.frozen (p := ⟨w.heap.size, 2, none⟩) smx).trans kfx
    have sa0 : w.heap.size < wr.heap.size := (by have hss := hbe.size; first | omega | (simp at hss; omega))
    have ca1_0 : wr.cell? ⟨(w.heap.size + 1), 0, none⟩ = some (.slice none 0 0) := (hbe.cell (p := ⟨(w.heap.size + 1), 0, none⟩) smx).trans kpx
    have fa1_0 : wr.frozen? ⟨(w.heap.size + 1), 0, none⟩ = false := (hbe.frozen (p := ⟨(w.heap.size + 1), 0, none⟩) smx).trans kfx
    have ca1_1 : wr.cell? ⟨(w.heap.size + 1), 1, none⟩ = some (.slice none 0 0) := (hbe.cell (p := ⟨(w.heap.size + 1), 1, none⟩) smx).trans kpx
    have fa1_1 : wr.frozen? ⟨(w.heap.size + 1), 1, none⟩ = false := (hbe.frozen (p := ⟨(w.heap.size + 1), 1, none⟩) smx).trans kfx
    have ca1_2 : wr.cell? ⟨(w.heap.size + 1), 2, none⟩ = some (.int .i64 0) := (hbe.cell (p := ⟨(w.heap.size + 1), 2, none⟩) smx).trans kpx
    have fa1_2 : wr.frozen? ⟨(w.heap.size + 1), 2, none⟩ = false := (hbe.frozen (p := ⟨(w.heap.size + 1), 2, none⟩) smx).trans kfx
    have sa1 : (w.heap.size + 1) < wr.heap.size := (by have hss := hbe.size; first | omega | (simp at hss; omega))
    by_cases hlt : k < log.length
    · obtain ⟨kb, ofs, rfl, hbb, hat⟩ := HRK.out.ptr (by omega)
      have hkbw : kb < wr.heap.size := by (have := hbw.size; omega)
      obtain ⟨x0, x1, x2, x3, x4, x5⟩ := DCommit.at (hat.ext hbb hbw) k hlt
      have HAT := Lib.hid hat
      clear hat
      obtain ⟨r, hr⟩ := boolOf (ComP cur log[k])
      obtain ⟨rs6, hrs6⟩ : ∃ x, (if r then comD cur log[k] else cur) = x := ⟨_, rfl⟩
      have HT : Hid (CmtRel ⟨zs.map PBox.box, cur.log, cur.given⟩ log[k] rs6 r) := Lib.hid (by rw [HZ.out]; exact ⟨hr, hrs6⟩)
      have HRS6 := Lib.hid hrs6
      clear hrs6
      have HST := Lib.hid (cmtAll_step hlt HC.out hr)
      clear hr
      have hgl := HGK.out _ (List.getElem_mem hlt)
      obtain ⟨hl5, hlm5', hgn5', hgt5'⟩ := good_to (show GoodD (zs.map PBox.box) by rw [HZ.out]; exact HG.out.1)
      have hll5 := HG.out.2.1
      have hlm5 := Lib.hid hlm5'
      have hgn5 := Lib.hid hgn5'
      have hgt5 := Lib.hid hgt5'
      clear hlm5' hgn5' hgt5'
      go_upto_region 5 with fail
      go_cut [8, 9] (fun v u wx => CutS 49 66 41 rs6 wr v wx ∧ u = .bool r)
      case first =>
        go_region_held3 (fun w' => Below wr.heap.size wr w' ∧ (∀ b o, b < wr.heap.size → w'.cell? ⟨b, o, none⟩ = wr.cell? ⟨b, o, none⟩)) (first | with_reducible exact sBeg _ | with_reducible exact sExt (by assumption) (by assumption) | (refine sMk3 ?_; exact bxt)) ((go_at_call 26; refine (specCommitted_law zs ga q cur.log la2 lc2 cur.given log[k] _ ((HS.out.own.box.rd).ext bxt) (RdM.ext HS.out.own.box.rdm (show Below wr.heap.size wr _ from bxt)) ((Rd.of_Own HS.out.own.log).ext bxt) hl5 hlm5.out hll5 hgn5.out hgt5.out hgl.1 hgl.2 rs6 r HT).mono ?_; rintro e w6 ⟨ga6, qa6, zs6, gc6, qc6, rfl, hown, hqz, hb6⟩; have HX6 := Lib.hid hown; have HZ6 := Lib.hid hqz; clear hown hqz; have hzz6 := hb6.size; (try simp at hzz6); (try (have hx6 : wr.heap.size < w6.heap.size := hzz6; (first | have hy6_0 : w6.cell? ⟨wr.heap.size, 0, none⟩ = some (.slice none 0 0) := (hb6.cell (p := ⟨wr.heap.size, 0, none⟩) (by simp)).trans (keep_new rfl) | have hy6_0 : w6.cell? ⟨wr.heap.size, 0, none⟩ = some (.slice none 0 0) := (hb6.cell (p := ⟨wr.heap.size, 0, none⟩) (by simp)).trans (keep_newd rfl)); (first | have hv6_0 : w6.frozen? ⟨wr.heap.size, 0, none⟩ = false := (hb6.frozen (p := ⟨wr.heap.size, 0, none⟩) (by simp)).trans (keepf_new (by simp)) | have hv6_0 : w6.frozen? ⟨wr.heap.size, 0, none⟩ = false := (hb6.frozen (p := ⟨wr.heap.size, 0, none⟩) (by simp)).trans (keepf_newd (by simp))); (first | have hy6_1 : w6.cell? ⟨wr.heap.size, 1, none⟩ = some (.slice none 0 0) := (hb6.cell (p := ⟨wr.heap.size, 1, none⟩) (by simp)).trans (keep_new rfl) | have hy6_1 : w6.cell? ⟨wr.heap.size, 1, none⟩ = some (.slice none 0 0) := (hb6.cell (p := ⟨wr.heap.size, 1, none⟩) (by simp)).trans (keep_newd rfl)); (first | have hv6_1 : w6.frozen? ⟨wr.heap.size, 1, none⟩ = false := (hb6.frozen (p := ⟨wr.heap.size, 1, none⟩) (by simp)).trans (keepf_new (by simp)) | have hv6_1 : w6.frozen? ⟨wr.heap.size, 1, none⟩ = false := (hb6.frozen (p := ⟨wr.heap.size, 1, none⟩) (by simp)).trans (keepf_newd (by simp))); (first | have hy6_2 : w6.cell? ⟨wr.heap.size, 2, none⟩ = some (.int .i64 0) := (hb6.cell (p := ⟨wr.heap.size, 2, none⟩) (by simp)).trans (keep_new rfl) | have hy6_2 : w6.cell? ⟨wr.heap.size, 2, none⟩ = some (.int .i64 0) := (hb6.cell (p := ⟨wr.heap.size, 2, none⟩) (by simp)).trans (keep_newd rfl)); (first | have hv6_2 : w6.frozen? ⟨wr.heap.size, 2, none⟩ = false := (hb6.frozen (p := ⟨wr.heap.size, 2, none⟩) (by simp)).trans (keepf_new (by simp)) | have hv6_2 : w6.frozen? ⟨wr.heap.size, 2, none⟩ = false := (hb6.frozen (p := ⟨wr.heap.size, 2, none⟩) (by simp)).trans (keepf_newd (by simp)))))))
        all_goals go_wp2_with fail
        all_goals go_meet
        all_goals refine ⟨⟨_, ga6, qa6, zs6, gc6, qc6, rfl, (by (first | omega | (simp <;> omega))), (by (first | omega | (simp <;> omega))), (at_cons (by simp [go_sem, *]) (at_cons (by simp [go_sem, *]) (at_cons (by simp [go_sem, *]) at_nil))), ?_, ?_, HZ6.out, ?_⟩, rfl⟩
        all_goals first | with_reducible exact OwnSt.ne_at HX6.out (by (first | omega | (simp <;> omega))) | with_reducible exact (by (repeat' (first | with_reducible refine OwnSt.set_at ?_ HX6.out (by (first | omega | (simp <;> omega))) _ | with_reducible refine OwnSt.alloc1 ?_ _ | with_reducible refine OwnSt.drew1 ?_)); exact OwnSt.le HX6.out (by (first | omega | (simp <;> omega)))) | exact bxt
      case rest =>
        obtain ⟨⟨β, g5, q5, z5, la5, lc5, rfl, hβ, hβs, hat, hown5, hoff5, hd5, hb5⟩, rfl⟩ := hcut
        have y0 : wc.cell? ⟨β, 0, none⟩ = some (.slice g5 z5.length q5) := by simpa using hat 0 _ rfl
        have y1 : wc.cell? ⟨β, 1, none⟩ = some (.slice la5 rs6.log.length lc5) := by simpa using hat 1 _ rfl
        have y2 : wc.cell? ⟨β, 2, none⟩ = some (.int .i64 rs6.given) := by simpa using hat 2 _ rfl
        have HO5 := Lib.hid hown5
        have HD5 := Lib.hid hd5
        clear hat hown5 hoff5 hd5
        have hG5 : w4.heap.size < wc.heap.size := Nat.lt_of_lt_of_le hGs hb5.size
        have HSW := Lib.hid (HS.out.ext hb5)
        have z0 := HSW.out.c0
        have z1 := HSW.out.c1
        have z2 := HSW.out.c2
        have zf0 := HSW.out.f0
        have zf1 := HSW.out.f1
        have zf2 := HSW.out.f2
        have hbw6 : Below (w.heap.size + 2) w4 wc := Below.extB hbe hb5 (by omega)
        have cd0_0 : wc.cell? ⟨w.heap.size, 0, none⟩ = some (.slice ba b.length bc) := (hb5.cell (p := ⟨w.heap.size, 0, none⟩) smx).trans kpx
        have fd0_0 : wc.frozen? ⟨w.heap.size, 0, none⟩ = false := (hb5.frozen (p := ⟨w.heap.size, 0, none⟩) smx).trans kfx
        have cd0_1 : wc.cell? ⟨w.heap.size, 1, none⟩ = some (.slice la l.length lc) := (hb5.cell (p := ⟨w.heap.size, 1, none⟩) smx).trans kpx
        have fd0_1 : wc.frozen? ⟨w.heap.size, 1, none⟩ = false := (hb5.frozen (p := ⟨w.heap.size, 1, none⟩) smx).trans kfx
        have cd0_2 : wc.cell? ⟨w.heap.size, 2, none⟩ = some (.int .i64 gv) := (hb5.cell (p := ⟨w.heap.size, 2, none⟩) smx).trans kpx
        have fd0_2 : wc.frozen? ⟨w.heap.size, 2, none⟩ = false := (hb5.frozen (p := ⟨w.heap.size, 2, none⟩) smx).trans kfx
        have sd0 : w.heap.size < wc.heap.size := (by have hss := hb5.size; first | omega | (simp at hss; omega))
        have cd1_0 : wc.cell? ⟨(w.heap.size + 1), 0, none⟩ = some (.slice none 0 0) := (hb5.cell (p := ⟨(w.heap.size + 1), 0, none⟩) smx).trans kpx
        have fd1_0 : wc.frozen? ⟨(w.heap.size + 1), 0, none⟩ = false := (hb5.frozen (p := ⟨(w.heap.size + 1), 0, none⟩) smx).trans kfx
        have cd1_1 : wc.cell? ⟨(w.heap.size + 1), 1, none⟩ = some (.slice none 0 0) := (hb5.cell (p := ⟨(w.heap.size + 1), 1, none⟩) smx).trans kpx
        have fd1_1 : wc.frozen? ⟨(w.heap.size + 1), 1, none⟩ = false := (hb5.frozen (p := ⟨(w.heap.size + 1), 1, none⟩) smx).trans kfx
        have cd1_2 : wc.cell? ⟨(w.heap.size + 1), 2, none⟩ = some (.int .i64 0) := (hb5.cell (p := ⟨(w.heap.size + 1), 2, none⟩) smx).trans kpx
        have fd1_2 : wc.frozen? ⟨(w.heap.size + 1), 2, none⟩ = false := (hb5.frozen (p := ⟨(w.heap.size + 1), 2, none⟩) smx).trans kfx
        have sd1 : (w.heap.size + 1) < wc.heap.size := (by have hss := hb5.size; first | omega | (simp at hss; omega))
        cases r with
        | true =>
          obtain rfl : comD cur log[k] = rs6 := by simpa using HRS6.out
          have HST2 : Hid (cmtAll (comD cur log[k]) (log.drop (k + 1)) = (tt, rok)) := Lib.hid (by simpa using HST.out)
          have HCP : Hid (ComP cur log[k]) := Lib.hid (HT.out.1.1 rfl |> fun h => by rw [HZ.out] at h; exact h)
          go_wp2_with fail
          go_roundw
          case rel => exact ⟨k + 1, comD cur log[k], g5, q5, z5, la5, lc5, by omega, by go_num, Lib.hid (StB.put3 (HO5.out.le (by omega)) hG5 (fun x hx e => by have := (HO5.out.rows_lt x hx).1; omega) z0 z1 z2 zf0 zf1 zf2), HD5, Lib.hid (good_com HG.out HCP.out hgl.1 hgl.2), HST2, Below.setCell (Below.setCell (Below.setCell hbw6 (by omega) _) (by omega) _) (by omega) _⟩
          case measure => simp [intOf]; omega
        | false =>
          obtain rfl : cur = rs6 := by simpa using HRS6.out
          obtain ⟨hz1, hz2⟩ : cur = tt ∧ false = rok := by simpa using HST.out
          subst hz2
          have hrs2 : rs = ⟨b.map PBox.box, l, gv⟩ := by simpa using HRS.out
          have HRS2 := Lib.hid hrs2
          clear hz1 hrs2
          go_wp2_with (go_at_call 68; refine (specCopySt_any b ba bc l la lc gv _ (HR.out.ext (Below.ext hbw bxt)) (RdM.ext HM.out (Below.ext hbw bxt)) (HRL.out.ext (Below.ext hbw bxt)) hl HLM.out hll).mono ?_; rintro e w7 ⟨gb7, q7, zs7, g7, q8, rfl, hown7, hzb7, hb7⟩; have HO7 := Lib.hid hown7; have HZ7 := Lib.hid hzb7; clear hown7 hzb7; have cu0_0 : w7.cell? ⟨(w.heap.size + 1), 0, none⟩ = some (.slice none 0 0) := (hb7.cell (p := ⟨(w.heap.size + 1), 0, none⟩) smx).trans kpx; have fu0_0 : w7.frozen? ⟨(w.heap.size + 1), 0, none⟩ = false := (hb7.frozen (p := ⟨(w.heap.size + 1), 0, none⟩) smx).trans kfx; have cu0_1 : w7.cell? ⟨(w.heap.size + 1), 1, none⟩ = some (.slice none 0 0) := (hb7.cell (p := ⟨(w.heap.size + 1), 1, none⟩) smx).trans kpx; have fu0_1 : w7.frozen? ⟨(w.heap.size + 1), 1, none⟩ = false := (hb7.frozen (p := ⟨(w.heap.size + 1), 1, none⟩) smx).trans kfx; have cu0_2 : w7.cell? ⟨(w.heap.size + 1), 2, none⟩ = some (.int .i64 0) := (hb7.cell (p := ⟨(w.heap.size + 1), 2, none⟩) smx).trans kpx; have fu0_2 : w7.frozen? ⟨(w.heap.size + 1), 2, none⟩ = false := (hb7.frozen (p := ⟨(w.heap.size + 1), 2, none⟩) smx).trans kfx; have su0 : (w.heap.size + 1) < w7.heap.size := (by have hss := hb7.size; first | omega | (simp at hss; omega)))
          refine bodyPost_ret (v := .tuple #[.agg #[.slice gb7 zs7.length q7, .slice g7 l.length q8, .int .i64 gv], .bool false]) (by simp [results, Tryz.results15, go_sem, *]) rfl ⟨gb7, q7, zs7, g7, q8, by rw [HRS2.out], ?_, by rw [HRS2.out]; exact HZ7.out, ?_⟩
          · rw [HRS2.out]
            exact (((HO7.out.setb smx _).setb smx _).setb smx _).le (by omega)
          · exact bxt
    · obtain ⟨hz1, hz2⟩ := cmtAll_end (by omega) HC.out
      subst hz2
      have hrs2 : rs = cur := by (have h := HRS.out; rw [if_pos rfl] at h; rw [h, hz1])
      have hkk : k = log.length := by omega
      have HKK := Lib.hid hkk
      subst hrs2
      clear hkk hz1
      go_wp2_with fail
      refine bodyPost_ret (v := .tuple #[.agg #[.slice ga zs.length q, .slice la2 rs.log.length lc2, .int .i64 rs.given], .bool true]) (by simp [results, Tryz.results15, go_sem, *]) rfl ⟨ga, q, zs, la2, lc2, rfl, ?_, HZ.out, ?_⟩
      · exact (((HS.out.own.setb smx _).setb smx _).setb smx _).le (by omega)
      · exact bxt
end Go.Proofs.YtjcnhkmhcfmoeaaGreat

namespace Go.Proofs.YtjcnhkmhcfmoeaaGreat
open Go.RowKit
set_option linter.unusedVariables false
set_option linter.unusedSimpArgs false

set_option maxRecDepth 100000 in
set_option maxHeartbeats 8000000 in
theorem specFull_any (b : List PBox) (ba : Option Addr) (bc : Nat) (l : List DCommit) (la : Option Addr) (lc : Nat) (gv : Int) (log : List DCommit) (ka : Option Addr) (kc : Nat) (w : World) (R : Rd w ba bc 4 b.length (b.flatMap PBox.cells)) (M : RdM w b) (RL : Rd w la lc 6 l.length (l.flatMap DCommit.cells)) (hl : b.length ≤ 1048576) (hlm : ∀ y ∈ b, y.msgs.length ≤ 1048576) (hll : l.length ≤ 1048576) (gn : ∀ y ∈ b, y.name.size ≤ 9223372036854775807) (gt : ∀ y ∈ b, ∀ m ∈ y.msgs, m.text.size ≤ 9223372036854775807) (gl : ∀ y ∈ l, y.name.size ≤ 9223372036854775807 ∧ y.text.size ≤ 9223372036854775807) (RK : Rd w ka kc 6 log.length (log.flatMap DCommit.cells)) (hkl : log.length ≤ 1048576) (gk : ∀ y ∈ log, y.name.size ≤ 9223372036854775807 ∧ y.text.size ≤ 9223372036854775807) (rs : DStore) (rc : Int) (H : Hid (FullRel ⟨b.map PBox.box, l, gv⟩ log rs rc)) :
    Calls Tryz.prog 102 #[.agg #[.slice ba b.length bc, .slice la l.length lc, .int .i64 gv], .slice ka log.length kc] w fun e w' => ∃ g q zs g2 q2, e = .returned (.tuple #[.agg #[.slice g zs.length q, .slice g2 rs.log.length q2, .int .i64 rs.given], .int .i64 rc]) ∧ OwnSt w' w.heap.size 49 66 41 g q zs g2 q2 rs.log ∧ zs.map PBox.box = rs.boxes ∧ Ext w w' := by
  have HR := Lib.hid R
  have HM := Lib.hid M
  have HRL := Lib.hid RL
  have HLM := Lib.hid hlm
  have HGN := Lib.hid gn
  have HGT := Lib.hid gt
  have HGL := Lib.hid gl
  have HRK := Lib.hid RK
  have HGK := Lib.hid gk
  obtain ⟨rok, hca, hrc⟩ := H.out
  have HCA := Lib.hid hca
  clear R M RL hlm gn gt gl RK gk hca
  cases rok
  all_goals (simp only [Bool.false_eq_true, if_false, if_true] at hrc; subst hrc)
  · go_enter Tryz.func102, Tryz.ntmps102
    go_wp2_with (go_at_call 15; refine (specCommitAll_law b ba bc l la lc gv log ka kc _ (HR.out.ext bxt) (RdM.ext HM.out (show Below w.heap.size w _ from bxt)) (HRL.out.ext bxt) hl HLM.out hll HGN.out HGT.out HGL.out (HRK.out.ext bxt) hkl HGK.out rs false HCA).mono ?_; rintro e w4 ⟨g4, q4, z4, g5, q5, rfl, hown, hzb, hb4⟩; have HO : Hid (OwnSt w4 (w.heap.size + 2) 49 66 41 g4 q4 z4 g5 q5 rs.log) := OwnSt.le hown (by first | (simp; done) | (simp; omega)); have HZB := Lib.hid hzb; clear hown hzb; have cp0_0 : w4.cell? ⟨(w.heap.size + 1), 0, none⟩ = some (.slice none 0 0) := (hb4.cell (p := ⟨(w.heap.size + 1), 0, none⟩) smx).trans kpx; have fp0_0 : w4.frozen? ⟨(w.heap.size + 1), 0, none⟩ = false := (hb4.frozen (p := ⟨(w.heap.size + 1), 0, none⟩) smx).trans kfx; have cp0_1 : w4.cell? ⟨(w.heap.size + 1), 1, none⟩ = some (.slice none 0 0) := (hb4.cell (p := ⟨(w.heap.size + 1), 1, none⟩) smx).trans kpx; have fp0_1 : w4.frozen? ⟨(w.heap.size + 1), 1, none⟩ = false := (hb4.frozen (p := ⟨(w.heap.size + 1), 1, none⟩) smx).trans kfx; have cp0_2 : w4.cell? ⟨(w.heap.size + 1), 2, none⟩ = some (.int .i64 0) := (hb4.cell (p := ⟨(w.heap.size + 1), 2, none⟩) smx).trans kpx; have fp0_2 : w4.frozen? ⟨(w.heap.size + 1), 2, none⟩ = false := (hb4.frozen (p := ⟨(w.heap.size + 1), 2, none⟩) smx).trans kfx; have sp0 : (w.heap.size + 1) < w4.heap.size := (by have hss := hb4.size; first | omega | (simp at hss; omega)))
    refine bodyPost_ret (v := .tuple #[.agg #[.slice g4 z4.length q4, .slice g5 rs.log.length q5, .int .i64 rs.given], .int .i64 2]) (by simp [results, Tryz.results102, go_sem, *]) rfl ⟨g4, q4, z4, g5, q5, rfl, ?_, HZB.out, ?_⟩
    · exact (by (repeat' (first | with_reducible refine OwnSt.set_at ?_ HO.out (by (first | omega | (simp <;> omega))) _ | with_reducible refine OwnSt.alloc1 ?_ _ | with_reducible refine OwnSt.drew1 ?_)); exact OwnSt.le HO.out (by (first | omega | (simp <;> omega))))
    · exact bxt
  · go_enter Tryz.func102, Tryz.ntmps102
    go_wp2_with (go_at_call 15; refine (specCommitAll_law b ba bc l la lc gv log ka kc _ (HR.out.ext bxt) (RdM.ext HM.out (show Below w.heap.size w _ from bxt)) (HRL.out.ext bxt) hl HLM.out hll HGN.out HGT.out HGL.out (HRK.out.ext bxt) hkl HGK.out rs true HCA).mono ?_; rintro e w4 ⟨g4, q4, z4, g5, q5, rfl, hown, hzb, hb4⟩; have HO : Hid (OwnSt w4 (w.heap.size + 2) 49 66 41 g4 q4 z4 g5 q5 rs.log) := OwnSt.le hown (by first | (simp; done) | (simp; omega)); have HZB := Lib.hid hzb; clear hown hzb; have cp0_0 : w4.cell? ⟨(w.heap.size + 1), 0, none⟩ = some (.slice none 0 0) := (hb4.cell (p := ⟨(w.heap.size + 1), 0, none⟩) smx).trans kpx; have fp0_0 : w4.frozen? ⟨(w.heap.size + 1), 0, none⟩ = false := (hb4.frozen (p := ⟨(w.heap.size + 1), 0, none⟩) smx).trans kfx; have cp0_1 : w4.cell? ⟨(w.heap.size + 1), 1, none⟩ = some (.slice none 0 0) := (hb4.cell (p := ⟨(w.heap.size + 1), 1, none⟩) smx).trans kpx; have fp0_1 : w4.frozen? ⟨(w.heap.size + 1), 1, none⟩ = false := (hb4.frozen (p := ⟨(w.heap.size + 1), 1, none⟩) smx).trans kfx; have cp0_2 : w4.cell? ⟨(w.heap.size + 1), 2, none⟩ = some (.int .i64 0) := (hb4.cell (p := ⟨(w.heap.size + 1), 2, none⟩) smx).trans kpx; have fp0_2 : w4.frozen? ⟨(w.heap.size + 1), 2, none⟩ = false := (hb4.frozen (p := ⟨(w.heap.size + 1), 2, none⟩) smx).trans kfx; have sp0 : (w.heap.size + 1) < w4.heap.size := (by have hss := hb4.size; first | omega | (simp at hss; omega)))
    refine bodyPost_ret (v := .tuple #[.agg #[.slice g4 z4.length q4, .slice g5 rs.log.length q5, .int .i64 rs.given], .int .i64 0]) (by simp [results, Tryz.results102, go_sem, *]) rfl ⟨g4, q4, z4, g5, q5, rfl, ?_, HZB.out, ?_⟩
    · exact (by (repeat' (first | with_reducible refine OwnSt.set_at ?_ HO.out (by (first | omega | (simp <;> omega))) _ | with_reducible refine OwnSt.alloc1 ?_ _ | with_reducible refine OwnSt.drew1 ?_)); exact OwnSt.le HO.out (by (first | omega | (simp <;> omega))))
    · exact bxt
end Go.Proofs.YtjcnhkmhcfmoeaaGreat

namespace Go.Proofs.YtjcnhkmhcfmoeaaGreat
open Go.RowKit
set_option linter.unusedVariables false
set_option linter.unusedSimpArgs false

theorem StTo.pre {S : Nat → Prop} {w w3 w4 : World} {b B E EM EC : Nat} {rs : DStore} (h : Ext w w3) (hs : StTo S w3 b B E EM EC rs w4) : StTo S w b B E EM EC rs w4 := by
  obtain ⟨ga, q, zs, la, lc, h1, h2, h3, h4⟩ := hs
  exact ⟨ga, q, zs, la, lc, h1, h2, (Chg.ext h).trans h3, fun k hk => (h4 k hk).imp_right (fun h5 => Nat.lt_of_le_of_lt h.size h5)⟩
theorem StTo.self {w w' : World} {b B E EM EC q lc : Nat} {ga la : Option Addr} {zs : List PBox} {l : List DCommit} {gv : Int} {D : List DBox} (h : StB w b B E EM EC ga q zs la lc l gv) (hd : zs.map PBox.box = D) (hb : Ext w w') : StTo (fun k => k = b ∨ rowsS ga q zs la lc l.length k) w b B E EM EC ⟨D, l, gv⟩ w' := by
  subst hd
  exact h.same hb
/-- the box of the result holds a store of the call's own -/
def RBox (E EM EC : Nat) (w : World) (res : Nat) (rs : DStore) (wx : World) : Prop := ∃ g q zs g2 q2, wx.cell? ⟨res, 0, none⟩ = some (.slice g zs.length q) ∧ wx.cell? ⟨res, 1, none⟩ = some (.slice g2 rs.log.length q2) ∧ wx.cell? ⟨res, 2, none⟩ = some (.int .i64 rs.given) ∧ OwnSt wx w.heap.size E EM EC g q zs g2 q2 rs.log ∧ zs.map PBox.box = rs.boxes ∧ Ext w wx
theorem put3_at {w : World} {G : Nat} {u0 u1 u2 v0 v1 v2 : Value} (c0 : w.cell? ⟨G, 0, none⟩ = some u0) (c1 : w.cell? ⟨G, 1, none⟩ = some u1) (c2 : w.cell? ⟨G, 2, none⟩ = some u2) :
    (((w.setCell ⟨G, 0, none⟩ v0).setCell ⟨G, 1, none⟩ v1).setCell ⟨G, 2, none⟩ v2).cell? ⟨G, 0, none⟩ = some v0 ∧ (((w.setCell ⟨G, 0, none⟩ v0).setCell ⟨G, 1, none⟩ v1).setCell ⟨G, 2, none⟩ v2).cell? ⟨G, 1, none⟩ = some v1 ∧ (((w.setCell ⟨G, 0, none⟩ v0).setCell ⟨G, 1, none⟩ v1).setCell ⟨G, 2, none⟩ v2).cell? ⟨G, 2, none⟩ = some v2 :=
  ⟨set_other (set_other (set_same c0) (by omega)) (by omega), set_other (set_same (set_other c1 (by omega))) (by omega), set_same (set_other (set_other c2 (by omega)) (by omega))⟩
theorem RBox.put {E EM EC : Nat} {w w9 : World} {B res q9 q8 : Nat} {g9 g8 : Option Addr} {z9 : List PBox} {rs : DStore} {u0 u1 u2 : Value} (h : OwnSt w9 B E EM EC g9 q9 z9 g8 q8 rs.log) (hB : w.heap.size ≤ B) (hr : res < B) (hrw : w.heap.size ≤ res) (hz : z9.map PBox.box = rs.boxes) (hb : Ext w w9)
    (c0 : w9.cell? ⟨res, 0, none⟩ = some u0) (c1 : w9.cell? ⟨res, 1, none⟩ = some u1) (c2 : w9.cell? ⟨res, 2, none⟩ = some u2) :
    RBox E EM EC w res rs (((w9.setCell ⟨res, 0, none⟩ (.slice g9 z9.length q9)).setCell ⟨res, 1, none⟩ (.slice g8 rs.log.length q8)).setCell ⟨res, 2, none⟩ (.int .i64 rs.given)) := by
  obtain ⟨h0, h1, h2⟩ := put3_at (v0 := .slice g9 z9.length q9) (v1 := .slice g8 rs.log.length q8) (v2 := .int .i64 rs.given) c0 c1 c2
  exact ⟨g9, q9, z9, g8, q8, h0, h1, h2, (((h.setB hr _).setB hr _).setB hr _).le hB, hz, Below.setCell (Below.setCell (Below.setCell hb hrw _) hrw _) hrw _⟩
theorem callFunc_in {P : Program} {f : FuncId} {fn : Func} (hf : P.funcs[f]? = some fn) (hname : (fn.name == "runtime.NumGoroutine") = false) (hb : fn.body.isNone = false) (args : Array Value) (w : World) : (callFunc f args).run P w = .ok (.enter f args) w := by
  have h1 : fn.name ≠ "runtime.NumGoroutine" := by simpa using hname
  have h2 : fn.body ≠ none := fun h => by rw [h] at hb; cases hb
  simp [callFunc, hf, h1, h2]
end Go.Proofs.YtjcnhkmhcfmoeaaGreat
