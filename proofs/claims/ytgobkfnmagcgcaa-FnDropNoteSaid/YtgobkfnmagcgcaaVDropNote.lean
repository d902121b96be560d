/-
  The law FnDropNote: its walk.
-/
import Derived.Test.YtgobkfnmagcgcaaDraw5
import Derived.Test.YtgobkfnmagcgcaaDrawL
import Derived.Test.YtgobkfnmagcgcaaWSameQueue
import Derived.Test.YtgobkfnmagcgcaaWQueueQ
import Derived.Deep.RegionHeld3
namespace Go.Proofs.Ytgobkfnmagcgcaa
open Go.RowKit
set_option linter.unusedVariables false
set_option linter.unusedSimpArgs false

set_option maxRecDepth 100000 in
set_option maxHeartbeats 4000000 in
theorem fnDropNote_walk (l : List Int) (a : Option Addr) (c : Nat) (w : World) : MaxLen w → Rd w a c 1 l.length (l.flatMap byteCells) → (∀ y ∈ l, 0 ≤ y ∧ y ≤ 255) →
    Calls Try.prog 5 #[.slice a l.length c] w fun e w' => e = .returned (.bool true) ∧ Below w.heap.size w w' := by
  intro hmx R hb
  have hln : l.length ≤ 9223372036854775807 := Nat.le_trans R.nc R.cm
  have HMX := Lib.hid hmx
  have HR := Lib.hid R
  have HB := Lib.hid hb
  clear R hb hmx
  obtain ⟨d, hd⟩ := boolOf (1048576 < l.length)
  have HDB := Lib.hid hd
  clear hd
  go_enter Try.func5, Try.ntmps5
  go_wp2_with fail
  refine (big_any l.length a c _ hln d HDB).mono ?_
  rintro e w1 ⟨rfl, rfl⟩
  cases d
  rotate_left
  · go_wp2_with fail
    go_ret
    exact ⟨rfl, bxt⟩
  have hl : l.length ≤ 1048576 := by have := no_of HDB.out; omega
  go_wp2_with fail
  refine (drawDropNote_any l a c _ (HR.out.ext bxt) HB.out hl).mono ?_
  rintro e w1 ⟨g, q, m, rb, rc, v, hm, hnm, ⟨hv0, hv1⟩, rfl, ho, hb1⟩
  have HM := Lib.hid (show ∀ y ∈ m, y.name.size ≤ 9223372036854775807 from fun y hy => by have := hnm y hy; omega)
  have HO := Lib.hid ho
  clear hnm ho
  obtain ⟨D, hD⟩ : ∃ D, dropN m v = D := ⟨_, rfl⟩
  have HD := Lib.hid hD
  have hDl : D.length ≤ m.length := by rw [← hD]; exact dropN_len m v
  clear hD
  have hzz1 := hb1.size; (try simp at hzz1)
  obtain ⟨hc1, hf1⟩ := bcell hb1
  go_wp2_with fail
  refine (implDropNote_any m g q rb rc v _ (Rd.of_Own (HO.out.ext bxt)) (by omega) D HD rb (Lib.hid rfl) rc (Lib.hid rfl)).mono ?_
  rintro e w2 ⟨g2, q2, rfl, ho2, hb2⟩
  have HO2 := Lib.hid ho2
  clear ho2
  have hzz2 := hb2.size; (try simp at hzz2)
  obtain ⟨hc2, hf2⟩ := bcell hb2
  have hs2_0 : w1.heap.size < w2.heap.size := by (have hss := hb2.size; first | omega | (simp at hss <;> omega))
  go_wp2_with fail
  obtain ⟨W, hW⟩ : ∃ W, W = (w2.alloc (.cells #[.slice g2 D.length q2, .bool rb, .bool rc] 34)) := ⟨_, rfl⟩
  go_region_held3 (fun w' => Below (w2.alloc (.cells #[.slice g2 D.length q2, .bool rb, .bool rc] 34)).heap.size (w2.alloc (.cells #[.slice g2 D.length q2, .bool rb, .bool rc] 34)) w' ∧ (∀ b o, b < (w2.alloc (.cells #[.slice g2 D.length q2, .bool rb, .bool rc] 34)).heap.size → w'.cell? ⟨b, o, none⟩ = (w2.alloc (.cells #[.slice g2 D.length q2, .bool rb, .bool rc] 34)).cell? ⟨b, o, none⟩)) (first | exact sBeg _ | exact sExt (by assumption) (by assumption)) ((first | (go_at_call 24; refine (specDropNote_any m g q rb rc v _ (Rd.of_Own (HO.out.ext bxt)) (by omega) D HD rb (Lib.hid rfl) rc (Lib.hid rfl)).mono ?_; rintro e w3 ⟨g3, q3, rfl, ho3, hb3⟩; have HO3 := Lib.hid ho3; clear ho3) | (go_at_call 17; refine (specSameQueue_any D g2 q2 rb rc D g3 q3 rb rc _ (Rd.of_Own (HO2.out.ext bxt)) (Rd.of_Own (HO3.out.ext bxt)) true (Lib.hid (by simp))).mono ?_; rintro e w4 ⟨rfl, hb4⟩)))
  clear hW W
  have hbq : Ext (w2.alloc (.cells #[.slice g2 D.length q2, .bool rb, .bool rc] 34)) w4 := Below.ext (Below.ext (Below.refl _ _).drew hb3) hb4
  have hzz4 := hbq.size; (try simp at hzz4)
  obtain ⟨hc4, hf4⟩ := bcell hbq
  have hs4_0 : w1.heap.size < w4.heap.size := by (have hss := hbq.size; first | omega | (simp at hss <;> omega))
  have hs4_1 : w2.heap.size < w4.heap.size := by (have hss := hbq.size; first | omega | (simp at hss <;> omega))
  have HF := Lib.hid (firstNote_all m)
  obtain ⟨z, hz⟩ : ∃ z : Int, firstNote true true m = z := ⟨_, rfl⟩
  have HZ := Lib.hid hz
  clear hz
  go_wp2_with fail
  refine (implFirstNote_any m g q rb rc true true _ (Rd.of_Own (HO.out.ext bxt)) z HZ).mono ?_
  rintro e w5 ⟨rfl, hb5⟩
  have hzz5 := hb5.size; (try simp at hzz5)
  obtain ⟨hc5, hf5⟩ := bcell hb5
  have hs5_0 : w1.heap.size < w5.heap.size := by (have hss := hb5.size; first | omega | (simp at hss <;> omega))
  have hs5_1 : w2.heap.size < w5.heap.size := by (have hss := hb5.size; first | omega | (simp at hss <;> omega))
  by_cases h0 : v < 0
  · have e0 : decide (v < 0) = true := decide_eq_true h0
    have hDm : D = m := by rw [← HD.out]; exact dropN_out (by omega)
    have HDM := Lib.hid hDm
    clear hDm
    by_cases hm0 : m.length = 0
    · have hz0 : z = -1 := by rw [← HZ.out, HF.out, if_pos hm0]
      subst hz0
      have HM0 := Lib.hid hm0
      clear hm0
      go_wp2_with ((refine (specSameQueue_any D g2 q2 rb rc m g q rb rc _ (Rd.of_Own (HO2.out.ext bxt)) (Rd.of_Own (HO.out.ext bxt)) true (Lib.hid (by simp [HDM.out]))).mono ?_; rintro e w6 ⟨rfl, hb6⟩))
      go_ret
      exact ⟨rfl, bxt⟩
    · have hz0 : z = 0 := by rw [← HZ.out, HF.out, if_neg hm0]
      subst hz0
      go_wp2_with ((refine (specSameQueue_any D g2 q2 rb rc m g q rb rc _ (Rd.of_Own (HO2.out.ext bxt)) (Rd.of_Own (HO.out.ext bxt)) true (Lib.hid (by simp [HDM.out]))).mono ?_; rintro e w6 ⟨rfl, hb6⟩))
      go_ret
      exact ⟨rfl, bxt⟩
  · have e0 : decide (v < 0) = false := decide_eq_false h0
    by_cases h1 : (m.length : Int) ≤ v
    · have e1 : decide ((m.length : Int) ≤ v) = true := decide_eq_true h1
      have hDm : D = m := by rw [← HD.out]; exact dropN_out (by omega)
      have HDM := Lib.hid hDm
      clear hDm
      by_cases hm0 : m.length = 0
      · have hz0 : z = -1 := by rw [← HZ.out, HF.out, if_pos hm0]
        subst hz0
        have HM0 := Lib.hid hm0
        clear hm0
        go_wp2_with ((refine (specSameQueue_any D g2 q2 rb rc m g q rb rc _ (Rd.of_Own (HO2.out.ext bxt)) (Rd.of_Own (HO.out.ext bxt)) true (Lib.hid (by simp [HDM.out]))).mono ?_; rintro e w6 ⟨rfl, hb6⟩))
        go_ret
        exact ⟨rfl, bxt⟩
      · have hz0 : z = 0 := by rw [← HZ.out, HF.out, if_neg hm0]
        subst hz0
        go_wp2_with ((refine (specSameQueue_any D g2 q2 rb rc m g q rb rc _ (Rd.of_Own (HO2.out.ext bxt)) (Rd.of_Own (HO.out.ext bxt)) true (Lib.hid (by simp [HDM.out]))).mono ?_; rintro e w6 ⟨rfl, hb6⟩))
        go_ret
        exact ⟨rfl, bxt⟩
    · have e1 : decide ((m.length : Int) ≤ v) = false := decide_eq_false h1
      have hz0 : z = 0 := by rw [← HZ.out, HF.out, if_neg (by omega)]
      have hDL : (D.length : Int) = (m.length : Int) - 1 := by rw [← HD.out, dropN_in (by omega) (by omega)]; omega
      subst hz0
      obtain ⟨d2, hd2⟩ := boolOf (QueueP m rb rc)
      have HD2 := Lib.hid hd2
      clear hd2
      have HDL := Lib.hid hDL
      clear hDL
      have eL : ((D.length : Int) == (m.length : Int) - 1) = true := by rw [HDL.out]; simp
      cases d2
      · go_wp2_with ((refine (specQueueOk_any m g q rb rc _ (Rd.of_Own (HO.out.ext bxt)) HM.out false HD2).mono ?_; rintro e w6 ⟨rfl, hb6⟩))
        go_ret
        exact ⟨rfl, bxt⟩
      · have HNM2 := Lib.hid (show ∀ y ∈ D, y.name.size ≤ 9223372036854775807 from fun y hy => HM.out y (by have hh := HD.out; subst hh; exact dropN_sub hy))
        have HOK : Hid (Tells true (QueueP D rb rc)) := by
          have h := dropN_ok (i := v) (yes_of HD2.out)
          rw [HD.out] at h
          exact ⟨fun _ => h, fun _ => rfl⟩
        go_wp2_with fail
        refine (specQueueOk_any m g q rb rc _ (Rd.of_Own (HO.out.ext bxt)) HM.out true HD2).mono ?_
        rintro e w6 ⟨rfl, hb6⟩
        have hzz6 := hb6.size; (try simp at hzz6)
        obtain ⟨hc6, hf6⟩ := bcell hb6
        have hs6_0 : w1.heap.size < w6.heap.size := by (have hss := hb6.size; first | omega | (simp at hss <;> omega))
        have hs6_1 : w2.heap.size < w6.heap.size := by (have hss := hb6.size; first | omega | (simp at hss <;> omega))
        go_wp2_with fail
        refine (implQueueOk_any D g2 q2 rb rc _ (Rd.of_Own (HO2.out.ext bxt)) (HMX.out.ext bxt) HNM2.out true HOK).mono ?_
        rintro e w7 ⟨rfl, hb7⟩
        go_wp2_with fail
        go_ret
        exact ⟨rfl, bxt⟩
end Go.Proofs.Ytgobkfnmagcgcaa
