/-
  The reference's l11Made.
-/
import Derived.Test.YtdigkaddmpdeoaaGreatWStoreP
import Derived.Test.YtdigkaddmpdeoaaGreatXOwn
namespace Go.Proofs.YtdigkaddmpdeoaaGreat
open Go.RowKit
set_option linter.unusedVariables false
set_option linter.unusedSimpArgs false

set_option maxRecDepth 100000 in
set_option maxHeartbeats 4000000 in
theorem specMade_any (l : List DCommit) (a : Option Addr) (c : Nat) (w : World) (R : Rd w a c 6 l.length (l.flatMap DCommit.cells)) (r : Bool) (Hr : Hid (Tells r (MadeP l))) :
    Calls Tryz.prog 37 #[.slice a l.length c] w fun e w' => e = .returned (.bool r) ∧ Ext w w' := by
  have hl : l.length ≤ 9223372036854775807 := Nat.le_trans R.nc R.cm
  have HR := Lib.hid R
  clear R
  go_enter Tryz.func37, Tryz.ntmps37
  go_wp2_with fail
  go_loopw [3] (fun i wr => ∃ k : Nat, k ≤ l.length ∧ i = .int .i64 k ∧ Hid (MadeTo l k) ∧ Below w.heap.size w wr) (fun i _ => l.length - (intOf i).toNat)
  case atStart => exact ⟨0, Nat.zero_le _, rfl, fun i hi h => by omega, Below.refl _ _⟩
  case round =>
    obtain ⟨k, hk, rfl, HMD, hb⟩ := hrel
    obtain ⟨wo, hwo⟩ : ∃ x, x = wr := ⟨_, rfl⟩
    subst hwo
    by_cases hlt : k < l.length
    · obtain ⟨b, o, rfl, hbb, hat⟩ := HR.out.ptr (by omega)
      have HAT := Lib.hid (hat.ext hbb hb)
      have hbw : b < wo.heap.size := Nat.lt_of_lt_of_le hbb hb.size
      obtain ⟨x0, x1, -, -, -, -⟩ := DCommit.at HAT.out k hlt
      clear hat
      go_wp2_with fail
      go_loopw [4] (fun j wq => ∃ p : Nat, p ≤ k ∧ j = .int .i64 p ∧ Hid (∀ j (hj : j < k), j < p → ¬ (l[k].kind = 1 ∧ l[j].kind = 1 ∧ l[k].validity = l[j].validity)) ∧ Below wo.heap.size wo wq) (fun j _ => k - (intOf j).toNat)
      case atStart => exact ⟨0, Nat.zero_le _, rfl, fun j hj h => by omega, Below.refl _ _⟩
      case round =>
        obtain ⟨p, hp, rfl, HPR, hbq⟩ := hrel
        by_cases hlp : p < k
        · have hpl : p < l.length := by omega
          obtain ⟨y0, y1, -, -, -, -⟩ := DCommit.at HAT.out p hpl
          have z0 := fun y : ExtW wr => ((Below.ext hbq y.h).cell (p := ⟨b, o + k * 6, none⟩) hbw).trans x0
          have z1 := fun y : ExtW wr => ((Below.ext hbq y.h).cell (p := ⟨b, o + k * 6 + 1, none⟩) hbw).trans x1
          have z2 := fun y : ExtW wr => ((Below.ext hbq y.h).cell (p := ⟨b, o + p * 6, none⟩) hbw).trans y0
          have z3 := fun y : ExtW wr => ((Below.ext hbq y.h).cell (p := ⟨b, o + p * 6 + 1, none⟩) hbw).trans y1
          have i1 : (k : Int) < (l.length : Int) := by omega
          have i2 : (p : Int) < (l.length : Int) := by omega
          by_cases e1 : l[k].kind = 1
          · have d1 : (l[k].kind == 1) = true := by rw [e1]; rfl
            by_cases e2 : l[p].kind = 1
            · have d2 : (l[p].kind == 1) = true := by rw [e2]; rfl
              by_cases e3 : l[k].validity = l[p].validity
              · have d3 : (l[k].validity == l[p].validity) = true := beq_iff_eq.2 e3
                have HE := Lib.hid (And.intro e1 (And.intro e2 e3))
                clear e1 e2 e3
                go_wp2_with fail
                refine wp_region_ext (by kernel_rfl) (by kernel_rfl) ?_
                repeat (go_big_quiet_step (fail))
                refine wpQuiet_nil ?_
                rintro w3 ⟨⟨w3x, hw3⟩, hx3⟩
                have hx4 : w3 = w3x := hx3
                subst hx4
                clear hx3 z0 z1 z2 z3
                go_wp2_with fail
                go_ret
                exact ⟨ret_no Hr.out (fun hm => hm k hlt hlt p hlp HE.out), Below.ext hb (Below.ext hbq hw3)⟩
              · have d3 : (l[k].validity == l[p].validity) = false := by simp [e3]
                have HE := Lib.hid e3
                clear e1 e2 e3
                go_wp2_with fail
                refine wp_region_ext (by kernel_rfl) (by kernel_rfl) ?_
                repeat (go_big_quiet_step (fail))
                refine wpQuiet_nil ?_
                rintro w3 ⟨⟨w3x, hw3⟩, hx3⟩
                have hx4 : w3 = w3x := hx3
                subst hx4
                clear hx3 z0 z1 z2 z3
                go_wp2_with fail
                go_roundw
                case rel => exact ⟨p + 1, by omega, by go_num, fun j hj hjp h => by
                    by_cases e : j = p
                    · subst e; exact HE.out (by first | exact h.2.2 | exact h.2.1 | exact h.1)
                    · exact HPR.out j hj (by omega) h, Below.ext hbq hw3⟩
                case measure => simp [intOf]; omega
            · have d2 : (l[p].kind == 1) = false := by simp [e2]
              have HE := Lib.hid e2
              clear e1 e2
              go_wp2_with fail
              refine wp_region_ext (by kernel_rfl) (by kernel_rfl) ?_
              repeat (go_big_quiet_step (fail))
              refine wpQuiet_nil ?_
              rintro w3 ⟨⟨w3x, hw3⟩, hx3⟩
              have hx4 : w3 = w3x := hx3
              subst hx4
              clear hx3 z0 z1 z2 z3
              go_wp2_with fail
              go_roundw
              case rel => exact ⟨p + 1, by omega, by go_num, fun j hj hjp h => by
                  by_cases e : j = p
                  · subst e; exact HE.out (by first | exact h.2.2 | exact h.2.1 | exact h.1)
                  · exact HPR.out j hj (by omega) h, Below.ext hbq hw3⟩
              case measure => simp [intOf]; omega
          · have d1 : (l[k].kind == 1) = false := by simp [e1]
            have HE := Lib.hid e1
            clear e1
            go_wp2_with fail
            refine wp_region_ext (by kernel_rfl) (by kernel_rfl) ?_
            repeat (go_big_quiet_step (fail))
            refine wpQuiet_nil ?_
            rintro w3 ⟨⟨w3x, hw3⟩, hx3⟩
            have hx4 : w3 = w3x := hx3
            subst hx4
            clear hx3 z0 z1 z2 z3
            go_wp2_with fail
            go_roundw
            case rel => exact ⟨p + 1, by omega, by go_num, fun j hj hjp h => by
                by_cases e : j = p
                · subst e; exact HE.out (by first | exact h.2.2 | exact h.2.1 | exact h.1)
                · exact HPR.out j hj (by omega) h, Below.ext hbq hw3⟩
            case measure => simp [intOf]; omega
        · go_wp2_with fail
          go_roundw
          case rel => exact ⟨k + 1, by omega, by go_num, madeTo_succ hlt HMD.out (fun j hj => HPR.out j hj (by omega)), Below.ext hb hbq⟩
          case measure => simp [intOf]; omega
    · go_wp2_with fail
      go_ret
      exact ⟨ret_yes Hr.out (fun i hi hil => HMD.out i hi (by omega)), hb⟩
end Go.Proofs.YtdigkaddmpdeoaaGreat
