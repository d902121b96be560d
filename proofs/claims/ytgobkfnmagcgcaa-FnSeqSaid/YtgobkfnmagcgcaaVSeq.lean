/-
  The law FnSeq: its walk.
-/
import Derived.Test.YtgobkfnmagcgcaaDraw7
import Derived.Test.YtgobkfnmagcgcaaDrawL
import Derived.Test.YtgobkfnmagcgcaaWSeqIn
import Derived.Test.YtgobkfnmagcgcaaWUidsIn
import Derived.Test.YtgobkfnmagcgcaaWViewOk
import Derived.Deep.RegionHeld3
import Derived.BigQuiet
namespace Go.Proofs.Ytgobkfnmagcgcaa
open Go.RowKit
set_option linter.unusedVariables false
set_option linter.unusedSimpArgs false

theorem view_lt {l : List DSeen} (h : ViewOkP l) : ∀ k, k < l.length → ∀ j, j < k → ∀ (h1 : j < l.length) (h2 : k < l.length), l[j].uid < l[k].uid := fun k => by
  induction k with
  | zero => intro _ j hj; omega
  | succ k ih =>
    intro hk j hj h1 h2
    obtain ⟨_, _, _, h3⟩ := h.1 (k + 1) hk
    have h4 := h3 (by omega)
    have h5 : l[k + 1 - 1].uid = (l[k]'(by omega)).uid := rfl
    by_cases e : j = k
    · subst e; omega
    · have := ih (by omega) j (by omega) h1 (by omega); omega
theorem seq_view {l : List DSeen} (h : ViewOkP l) (k : Nat) (hk : k < l.length) : seqOf l[k].uid l = (k : Int) + 1 := by
  unfold seqOf
  rw [firstI_hit hk (by simp) (fun j hj hjk => by have := view_lt h k hk j hjk hj hk; simp; omega)]
def SeqRel (l : List DSeen) (W : World) (i : Value) (wr : World) : Prop := ∃ k : Nat, k ≤ l.length ∧ i = .int .i64 k ∧ Ext W wr
set_option maxRecDepth 100000 in
set_option maxHeartbeats 4000000 in
theorem fnSeq_walk (l : List Int) (a : Option Addr) (c : Nat) (w : World) : Rd w a c 1 l.length (l.flatMap byteCells) → (∀ y ∈ l, 0 ≤ y ∧ y ≤ 255) →
    Calls Try.prog 3 #[.slice a l.length c] w fun e w' => e = .returned (.bool true) ∧ Below w.heap.size w w' := by
  intro R hb
  have hln : l.length ≤ 9223372036854775807 := Nat.le_trans R.nc R.cm
  skip
  have HR := Lib.hid R
  have HB := Lib.hid hb
  clear R hb 
  obtain ⟨d, hd⟩ := boolOf (1048576 < l.length)
  have HDB := Lib.hid hd
  clear hd
  go_enter Try.func3, Try.ntmps3
  go_wp2_with fail
  refine (big_any l.length a c _ hln d HDB).mono ?_
  rintro e w1 ⟨rfl, rfl⟩
  cases d
  rotate_left
  · go_wp2_with fail
    go_ret
    exact ⟨rfl, bxt⟩
  have hl : l.length ≤ 1048576 := by have := no_of HDB.out; omega
  go_wp2_with fail
  refine (drawViewOk_any l a c _ (HR.out.ext bxt) HB.out hl).mono ?_
  rintro e w1 ⟨g, q, m, hm, rfl, ho, hb1⟩
  have HO := Lib.hid ho
  clear ho
  have hzz1 := hb1.size; (try simp at hzz1)
  obtain ⟨hc1, hf1⟩ := bcell hb1
  obtain ⟨d, hd⟩ := boolOf (ViewOkP m)
  have HD := Lib.hid hd
  clear hd
  have hdd : (d != d) = false := by simp
  go_wp2_with fail
  go_region_held3 (fun w' => Below (w1.alloc (.cells #[.slice g m.length q] 26)).heap.size (w1.alloc (.cells #[.slice g m.length q] 26)) w' ∧ (∀ b o, b < (w1.alloc (.cells #[.slice g m.length q] 26)).heap.size → w'.cell? ⟨b, o, none⟩ = (w1.alloc (.cells #[.slice g m.length q] 26)).cell? ⟨b, o, none⟩)) (first | exact sBeg _ | exact sExt (by assumption) (by assumption)) ((first | (go_at_call 10; refine (implViewOk_any m g q _ (Rd.of_Own (HO.out.ext bxt)) d HD).mono ?_; rintro e w2 ⟨rfl, hb2⟩) | (go_at_call 11; refine (specViewOk_any m g q _ (Rd.of_Own (HO.out.ext bxt)) d HD).mono ?_; rintro e w3 ⟨rfl, hb3⟩)))
  have hbq : Ext (w1.alloc (.cells #[.slice g m.length q] 26)) w3 := Below.ext (Below.ext (Below.refl _ _).drew hb2) hb3
  have hzz3 := hbq.size; (try simp at hzz3)
  obtain ⟨hc3, hf3⟩ := bcell hbq
  have hs3_0 : w1.heap.size < w3.heap.size := by (have hss := hbq.size; first | omega | (simp at hss <;> omega))
  obtain ⟨U, hU⟩ : ∃ U, m.map DSeen.uid = U := ⟨_, rfl⟩
  have hUl : U.length = m.length := by rw [← hU]; simp
  have HUU := Lib.hid hU
  clear hU
  go_wp2_with fail
  refine (implUidsIn_any m g q _ (Rd.of_Own (HO.out.ext bxt)) (by omega) U HUU).mono ?_
  rintro e w4 ⟨gu, qu, rfl, hu, hb4⟩
  have HU := Lib.hid (Own.of_row hu)
  clear hu
  have hzz4 := hb4.size; (try simp at hzz4)
  obtain ⟨hc4, hf4⟩ := bcell hb4
  have hs4_0 : w1.heap.size < w4.heap.size := by (have hss := hb4.size; first | omega | (simp at hss <;> omega))
  have HUL := Lib.hid hUl
  have hul : U.length ≤ 7 := by omega
  clear hUl
  go_wp2_with fail
  go_loopw [5] (SeqRel m w4) (fun i _ => m.length - (intOf i).toNat)
  case atStart => exact ⟨0, Nat.zero_le _, rfl, Below.refl _ _⟩
  case round =>
    obtain ⟨k, hk, rfl, hr⟩ := hrel
    have cV : wr.cell? ⟨w1.heap.size, 0, none⟩ = some (.slice g m.length q) := (hr.cell (p := ⟨w1.heap.size, 0, none⟩) smx).trans kpx
    have hs9 : w1.heap.size < wr.heap.size := Nat.lt_of_lt_of_le hs4_0 hr.size
    by_cases hlt : k < m.length
    · skip
      have hltu : k < U.length := by have := HUL.out; omega
      have hl1 : decide ((k : Int) < (U.length : Int)) = true := decide_eq_true (by omega)
      obtain ⟨bu, ou, rfl, hbu, hatu⟩ := (Rd.of_Own HU.out).ptr (by omega)
      have cU := intCells_at (hatu.ext hbu hr) k hltu
      have hbu9 : bu < wr.heap.size := Nat.lt_of_lt_of_le hbu hr.size
      have k1 : (0 : Int) ≤ (k : Int) := by omega
      have k2 : (k : Int) < (U.length : Int) := by omega
      have HAT := Lib.hid hatu
      clear hatu
      have hUk : U[k] = m[k].uid := by have h := HUU.out; subst h; simp
      rw [hUk] at cU
      have HUK := Lib.hid hUk
      clear hUk
      have hE : Ext w1 wr := bxt
      have HE := Lib.hid hE
      clear hE
      go_wp2_with fail
      cases d
      · obtain ⟨z, hz⟩ : ∃ z : Int, seqOf m[k].uid m = z := ⟨_, rfl⟩
        have HZ := Lib.hid hz
        clear hz
        have hzz : (z != z) = false := by simp
        have qV := fun y : ExtW wr => (y.h.cell (p := ⟨w1.heap.size, 0, none⟩) hs9).trans cV
        have qU := fun y : ExtW wr => (y.h.cell (p := ⟨bu, ou + k, none⟩) hbu9).trans cU
        refine wp_region_ext (by kernel_rfl) (by kernel_rfl) ?_
        repeat (go_big_quiet_step ((first | (go_at_call 13; refine (implSeqIn_any m g q m[k].uid _ (Rd.of_Own (HO.out.ext (ExtW.of HE.out _))) z HZ).mono ?_; rintro e w5 ⟨rfl, hb5⟩; exact ⟨rfl, ExtW.on _ hb5⟩) | (go_at_call 14; refine (specSeqIn_any m g q m[k].uid _ (Rd.of_Own (HO.out.ext (ExtW.of HE.out _))) z HZ).mono ?_; rintro e w5 ⟨rfl, hb5⟩; exact ⟨rfl, ExtW.on _ hb5⟩) | (go_at_call 11; refine (specViewOk_any m g q _ (Rd.of_Own (HO.out.ext (ExtW.of HE.out _))) false HD).mono ?_; rintro e w5 ⟨rfl, hb5⟩; exact ⟨rfl, ExtW.on _ hb5⟩))))
        refine wpQuiet_nil ?_
        rintro _ ⟨⟨wq, hwq⟩, rfl⟩
        go_wp2_with fail
        go_roundw
        case rel => exact ⟨k + 1, by omega, by go_num, Below.ext hr hwq⟩
        case measure => simp [intOf]; omega
      · have HZ := Lib.hid (seq_view (yes_of HD.out) k hlt)
        have hw : IntKind.i64.wrap ((k : Int) + 1) = (k : Int) + 1 := IntWalk.i64_in _ (by omega)
        have qV := fun y : ExtW wr => (y.h.cell (p := ⟨w1.heap.size, 0, none⟩) hs9).trans cV
        have qU := fun y : ExtW wr => (y.h.cell (p := ⟨bu, ou + k, none⟩) hbu9).trans cU
        refine wp_region_ext (by kernel_rfl) (by kernel_rfl) ?_
        repeat (go_big_quiet_step ((first | (go_at_call 13; refine (implSeqIn_any m g q m[k].uid _ (Rd.of_Own (HO.out.ext (ExtW.of HE.out _))) ((k : Int) + 1) HZ).mono ?_; rintro e w5 ⟨rfl, hb5⟩; exact ⟨rfl, ExtW.on _ hb5⟩) | (go_at_call 14; refine (specSeqIn_any m g q m[k].uid _ (Rd.of_Own (HO.out.ext (ExtW.of HE.out _))) ((k : Int) + 1) HZ).mono ?_; rintro e w5 ⟨rfl, hb5⟩; exact ⟨rfl, ExtW.on _ hb5⟩) | (go_at_call 11; refine (specViewOk_any m g q _ (Rd.of_Own (HO.out.ext (ExtW.of HE.out _))) true HD).mono ?_; rintro e w5 ⟨rfl, hb5⟩; exact ⟨rfl, ExtW.on _ hb5⟩))))
        refine wpQuiet_nil ?_
        rintro _ ⟨⟨wq, hwq⟩, rfl⟩
        go_wp2_with fail
        go_roundw
        case rel => exact ⟨k + 1, by omega, by go_num, Below.ext hr hwq⟩
        case measure => simp [intOf]; omega
    · skip
      have hl1 : decide ((k : Int) < (U.length : Int)) = false := decide_eq_false (by have := HUL.out; omega)
      have hl2 : decide (k < U.length) = false := decide_eq_false (by have := HUL.out; omega)
      have el : ((U.length : Int) == (m.length : Int)) = true := by rw [HUL.out]; simp
      have el2 : (U.length == m.length) = true := by rw [HUL.out]; simp
      go_wp2_with fail
      go_ret
      exact ⟨ret_bool (by simp [HUL.out]), bxt⟩
end Go.Proofs.Ytgobkfnmagcgcaa
