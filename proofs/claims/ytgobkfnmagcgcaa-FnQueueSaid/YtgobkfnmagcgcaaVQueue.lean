/-
  The law FnQueue: its walk.
-/
import Derived.Test.YtgobkfnmagcgcaaDraw5
import Derived.Test.YtgobkfnmagcgcaaDrawL
import Derived.Test.YtgobkfnmagcgcaaWSameQueue
import Derived.Test.YtgobkfnmagcgcaaWQueueQ
import Derived.Deep.RegionHeld3
namespace Go.Proofs.Ytgobkfnmagcgcaa
open Go.RowKit
set_option linter.unusedVariables false
set_option linter.unusedSimpArgs false

/-- the loop that looks for the note -/
def MetRel (pn : List DNote) (x : DNote) (W : World) (b i : Value) (wr : World) : Prop :=
  ∃ (k : Nat) (mt : Bool), k ≤ pn.length ∧ i = .int .i64 k ∧ b = .bool mt ∧ Hid (Tells mt (∃ j, ∃ hj : j < pn.length, j < k ∧ pn[j] = x)) ∧ Hid (∃ n, wr = W.drewN n)
theorem met_no {pn : List DNote} {x : DNote} {k : Nat} {d : Bool} (h : Tells false (∃ j, ∃ hj : j < pn.length, j < k ∧ pn[j] = x)) (hk : k < pn.length) (hd : decide (pn[k] = x) = d) : Tells d (∃ j, ∃ hj : j < pn.length, j < k + 1 ∧ pn[j] = x) := by
  cases d with
  | true => exact ⟨fun _ => ⟨k, hk, by omega, of_decide_eq_true hd⟩, fun _ => rfl⟩
  | false =>
    refine ⟨fun h => (Bool.false_ne_true h).elim, fun ⟨j, hj, hjk, e⟩ => ?_⟩
    by_cases hjk2 : j = k
    · subst hjk2; exact (of_decide_eq_false hd e).elim
    · exact (no_of h ⟨j, hj, by omega, e⟩).elim
theorem met_yes {pn : List DNote} {x : DNote} {k : Nat} (h : Tells true (∃ j, ∃ hj : j < pn.length, j < k ∧ pn[j] = x)) : Tells true (∃ j, ∃ hj : j < pn.length, j < k + 1 ∧ pn[j] = x) :=
  ⟨fun _ => by obtain ⟨j, hj, h1, h2⟩ := yes_of h; exact ⟨j, hj, by omega, h2⟩, fun _ => rfl⟩
set_option maxRecDepth 100000 in
set_option maxHeartbeats 8000000 in
theorem fnQueue_walk (l : List Int) (a : Option Addr) (c : Nat) (w : World) : MaxLen w → Rd w a c 1 l.length (l.flatMap byteCells) → (∀ y ∈ l, 0 ≤ y ∧ y ≤ 255) →
    Calls Try.prog 4 #[.slice a l.length c] w fun e w' => e = .returned (.bool true) ∧ Below w.heap.size w w' := by
  intro hmx R hb
  have hln : l.length ≤ 9223372036854775807 := Nat.le_trans R.nc R.cm
  have HMX := Lib.hid hmx
  have HR := Lib.hid R
  have HB := Lib.hid hb
  clear R hb hmx
  obtain ⟨d, hd⟩ := boolOf (1048576 < l.length)
  have HDB := Lib.hid hd
  clear hd
  go_enter Try.func4, Try.ntmps4
  go_wp2_with fail
  refine (big_any l.length a c _ hln d HDB).mono ?_
  rintro e w1 ⟨rfl, rfl⟩
  cases d
  rotate_left
  · go_wp2_with fail
    go_ret
    exact ⟨rfl, bxt⟩
  have hl : l.length ≤ 1048576 := by have := no_of HDB.out; omega
  go_wp2_with fail
  refine (drawPushNote_any l a c _ (HR.out.ext bxt) HB.out hl).mono ?_
  rintro e w1 ⟨g, q, m, rb, rc, x, hm, hnm, hx, rfl, ho, hb1⟩
  have HM := Lib.hid (show ∀ y ∈ m, y.name.size ≤ 9223372036854775807 from fun y hy => by have := hnm y hy; omega)
  have HO := Lib.hid ho
  clear hnm ho
  have hxn : x.name.size ≤ 9223372036854775807 := by omega
  obtain ⟨⟨pn, pr, pl⟩, hP⟩ : ∃ P, pushQ m rb rc x = P := ⟨_, rfl⟩
  have HP := Lib.hid hP
  have hPl : pn.length ≤ 12 := by have := pushQ_len m rb rc x; rw [hP] at this; dsimp only at this; omega
  have HPM := Lib.hid (show ∀ y ∈ pn, y.name.size ≤ 9223372036854775807 from fun y hy => by rcases pushQ_mem m rb rc x y (by rw [hP]; exact hy) with h | h; exact HM.out y h; rw [h]; exact hxn)
  have HOKP := Lib.hid (show QueueP m rb rc → QueueP pn pr pl ∧ (rb = true → pr = true) ∧ (rc = true → pl = true) from fun h => by have := pushQ_ok x h; rw [hP] at this; exact this)
  have HMET := Lib.hid (show QueueP m rb rc → NoteP x → _ from fun h1 h2 => pushQ_met h1 h2)
  skip
  have HBAD := Lib.hid (show ¬ (QueueP m rb rc ∧ NoteP x) → pn = m ∧ pr = rb ∧ pl = rc from fun h => by have := pushQ_bad h; rw [hP] at this; simpa using this)
  clear hP
  have hzz1 := hb1.size; (try simp at hzz1)
  obtain ⟨hc1, hf1⟩ := bcell hb1
  go_wp2_with fail
  refine (implPushNote_any m g q rb rc x _ (Rd.of_Own (HO.out.ext bxt)) (by omega) (HMX.out.ext bxt) HM.out hxn pn (Lib.hid (by rw [HP.out])) pr (Lib.hid (by rw [HP.out])) pl (Lib.hid (by rw [HP.out]))).mono ?_
  rintro e w2 ⟨g2, q2, rfl, ho2, hb2⟩
  have HO2 := Lib.hid ho2
  clear ho2
  have hzz2 := hb2.size; (try simp at hzz2)
  obtain ⟨hc2, hf2⟩ := bcell hb2
  have hs2_0 : w1.heap.size < w2.heap.size := by (have hss := hb2.size; first | omega | (simp at hss <;> omega))
  have hs2_1 : w1.heap.size + 1 < w2.heap.size := by (have hss := hb2.size; first | omega | (simp at hss <;> omega))
  obtain ⟨d2, hd2⟩ := boolOf (QueueP m rb rc)
  have HD2 := Lib.hid hd2
  clear hd2
  have hdd : (d2 != d2) = false := by simp
  go_wp2_with fail
  go_region_held3 (fun w' => Below (w2.alloc (.cells #[.slice g2 pn.length q2, .bool pr, .bool pl] 34)).heap.size (w2.alloc (.cells #[.slice g2 pn.length q2, .bool pr, .bool pl] 34)) w' ∧ (∀ b o, b < (w2.alloc (.cells #[.slice g2 pn.length q2, .bool pr, .bool pl] 34)).heap.size → w'.cell? ⟨b, o, none⟩ = (w2.alloc (.cells #[.slice g2 pn.length q2, .bool pr, .bool pl] 34)).cell? ⟨b, o, none⟩)) (first | exact sBeg _ | exact sExt (by assumption) (by assumption)) ((first | (go_at_call 18; refine (specPushNote_any m g q rb rc x _ (Rd.of_Own (HO.out.ext bxt)) (by omega) HM.out hxn pn (Lib.hid (by rw [HP.out])) pr (Lib.hid (by rw [HP.out])) pl (Lib.hid (by rw [HP.out]))).mono ?_; rintro e w3 ⟨g3, q3, rfl, ho3, hb3⟩; have HO3 := Lib.hid ho3; clear ho3) | (go_at_call 17; refine (specSameQueue_any pn g2 q2 pr pl pn g3 q3 pr pl _ (Rd.of_Own (HO2.out.ext bxt)) (Rd.of_Own (HO3.out.ext bxt)) true (Lib.hid (by simp))).mono ?_; rintro e w4 ⟨rfl, hb4⟩) | (go_at_call 19; refine (implQueueOk_any m g q rb rc _ (Rd.of_Own (HO.out.ext bxt)) (HMX.out.ext bxt) HM.out d2 HD2).mono ?_; rintro e w5 ⟨rfl, hb5⟩) | (go_at_call 20; refine (specQueueOk_any m g q rb rc _ (Rd.of_Own (HO.out.ext bxt)) HM.out d2 HD2).mono ?_; rintro e w6 ⟨rfl, hb6⟩)))
  have hbq : Ext (w2.alloc (.cells #[.slice g2 pn.length q2, .bool pr, .bool pl] 34)) w6 := Below.ext (Below.ext (Below.ext (Below.ext (Below.refl _ _).drew hb3) hb4) hb5) hb6
  have hzz6 := hbq.size; (try simp at hzz6)
  obtain ⟨hc6, hf6⟩ := bcell hbq
  have hs6_0 : w1.heap.size < w6.heap.size := by (have hss := hbq.size; first | omega | (simp at hss <;> omega))
  have hs6_1 : w1.heap.size + 1 < w6.heap.size := by (have hss := hbq.size; first | omega | (simp at hss <;> omega))
  have hs6_2 : w2.heap.size < w6.heap.size := by (have hss := hbq.size; first | omega | (simp at hss <;> omega))
  cases d2
  · have HEQ := Lib.hid (HBAD.out (fun h => no_of HD2.out h.1))
    go_wp2_with (first | (go_at_call 20; refine (specQueueOk_any m g q rb rc _ (Rd.of_Own (HO.out.ext bxt)) HM.out false HD2).mono ?_; rintro e w7 ⟨rfl, hb7⟩; have hzz7 := hb7.size; (try simp at hzz7); obtain ⟨hc7, hf7⟩ := bcell hb7; have hs7_0 : w1.heap.size < w7.heap.size := (by (have hss := hb7.size; first | omega | (simp at hss <;> omega))); have hs7_1 : w1.heap.size + 1 < w7.heap.size := (by (have hss := hb7.size; first | omega | (simp at hss <;> omega))); have hs7_2 : w2.heap.size < w7.heap.size := (by (have hss := hb7.size; first | omega | (simp at hss <;> omega)))) | (go_at_call 17; refine (specSameQueue_any pn g2 q2 pr pl m g q rb rc _ (Rd.of_Own (HO2.out.ext bxt)) (Rd.of_Own (HO.out.ext bxt)) true (Lib.hid (decide_eq_true HEQ.out))).mono ?_; rintro e w9 ⟨rfl, hb9⟩))
    go_ret
    exact ⟨rfl, bxt⟩
  obtain ⟨d3, hd3⟩ := boolOf (NoteP x)
  have HD3 := Lib.hid hd3
  clear hd3
  cases d3
  · have HEQ := Lib.hid (HBAD.out (fun h => no_of HD3.out h.2))
    go_wp2_with (first | (go_at_call 20; refine (specQueueOk_any m g q rb rc _ (Rd.of_Own (HO.out.ext bxt)) HM.out true HD2).mono ?_; rintro e w7 ⟨rfl, hb7⟩; have hzz7 := hb7.size; (try simp at hzz7); obtain ⟨hc7, hf7⟩ := bcell hb7; have hs7_0 : w1.heap.size < w7.heap.size := (by (have hss := hb7.size; first | omega | (simp at hss <;> omega))); have hs7_1 : w1.heap.size + 1 < w7.heap.size := (by (have hss := hb7.size; first | omega | (simp at hss <;> omega))); have hs7_2 : w2.heap.size < w7.heap.size := (by (have hss := hb7.size; first | omega | (simp at hss <;> omega)))) | (go_at_call 21; refine (specNoteOk_any x _ hxn false HD3).mono ?_; rintro e w8 ⟨rfl, hb8⟩; have hzz8 := hb8.size; (try simp at hzz8); obtain ⟨hc8, hf8⟩ := bcell hb8; have hs8_0 : w1.heap.size < w8.heap.size := (by (have hss := hb8.size; first | omega | (simp at hss <;> omega))); have hs8_1 : w1.heap.size + 1 < w8.heap.size := (by (have hss := hb8.size; first | omega | (simp at hss <;> omega))); have hs8_2 : w2.heap.size < w8.heap.size := (by (have hss := hb8.size; first | omega | (simp at hss <;> omega)))) | (go_at_call 17; refine (specSameQueue_any pn g2 q2 pr pl m g q rb rc _ (Rd.of_Own (HO2.out.ext bxt)) (Rd.of_Own (HO.out.ext bxt)) true (Lib.hid (decide_eq_true HEQ.out))).mono ?_; rintro e w9 ⟨rfl, hb9⟩))
    go_ret
    exact ⟨rfl, bxt⟩
  obtain ⟨hq1, hq2, hq3⟩ := HOKP.out (yes_of HD2.out)
  have hq4 := hq1.2
  have HQ1 : Hid (Tells true (QueueP pn pr pl)) := ⟨fun _ => hq1, fun _ => rfl⟩
  have HMT : Hid (¬ x ∈ pn → (x.kind = 1 ∧ (pr = true ∨ (pn = m ∧ pr = rb ∧ pl = rc))) ∨ (x.kind ≠ 1 ∧ (pl = true ∨ (pn = m ∧ pr = rb ∧ pl = rc)))) := fun hx => by
    have h := pushQ_met (yes_of HD2.out) (yes_of HD3.out)
    rw [HP.out] at h
    rcases h with h | h | h
    · exact (hx h).elim
    · exact Or.inl ⟨h.1, h.2.imp id (fun h => by simpa using h)⟩
    · exact Or.inr ⟨h.1, h.2.imp id (fun h => by simpa using h)⟩
  have hl6 : decide ((6 : Int) < (pn.length : Int)) = false := decide_eq_false (by omega)
  have hl7 : decide (6 < pn.length) = false := decide_eq_false (by omega)
  clear hq1
  go_wp2_with (first | (go_at_call 20; refine (specQueueOk_any m g q rb rc _ (Rd.of_Own (HO.out.ext bxt)) HM.out true HD2).mono ?_; rintro e w7 ⟨rfl, hb7⟩; have hzz7 := hb7.size; (try simp at hzz7); obtain ⟨hc7, hf7⟩ := bcell hb7; have hs7_0 : w1.heap.size < w7.heap.size := (by (have hss := hb7.size; first | omega | (simp at hss <;> omega))); have hs7_1 : w1.heap.size + 1 < w7.heap.size := (by (have hss := hb7.size; first | omega | (simp at hss <;> omega))); have hs7_2 : w2.heap.size < w7.heap.size := (by (have hss := hb7.size; first | omega | (simp at hss <;> omega)))) | (go_at_call 21; refine (specNoteOk_any x _ hxn true HD3).mono ?_; rintro e w8 ⟨rfl, hb8⟩; have hzz8 := hb8.size; (try simp at hzz8); obtain ⟨hc8, hf8⟩ := bcell hb8; have hs8_0 : w1.heap.size < w8.heap.size := (by (have hss := hb8.size; first | omega | (simp at hss <;> omega))); have hs8_1 : w1.heap.size + 1 < w8.heap.size := (by (have hss := hb8.size; first | omega | (simp at hss <;> omega))); have hs8_2 : w2.heap.size < w8.heap.size := (by (have hss := hb8.size; first | omega | (simp at hss <;> omega)))))
  refine (implQueueOk_any pn g2 q2 pr pl _ (Rd.of_Own (HO2.out.ext bxt)) (HMX.out.ext bxt) HPM.out true HQ1).mono ?_
  rintro e w10 ⟨rfl, hb10⟩
  have hzz10 := hb10.size; (try simp at hzz10)
  obtain ⟨hc10, hf10⟩ := bcell hb10
  have hs10_0 : w1.heap.size < w10.heap.size := by (have hss := hb10.size; first | omega | (simp at hss <;> omega))
  have hs10_1 : w1.heap.size + 1 < w10.heap.size := by (have hss := hb10.size; first | omega | (simp at hss <;> omega))
  have hs10_2 : w2.heap.size < w10.heap.size := by (have hss := hb10.size; first | omega | (simp at hss <;> omega))
  have hE : Ext w2 w10 := bxt
  have HE := Lib.hid hE
  clear hE
  have h3 := eqNoteG
  have HQ2 := Lib.hid hq2
  have HQ3 := Lib.hid hq3
  clear hq2 hq3 hdd hl
  cases rb <;> cases rc
  all_goals (try (have hpr := HQ2.out rfl; subst hpr))
  all_goals (try (have hpl := HQ3.out rfl; subst hpl))
  all_goals go_wp2_with fail
  all_goals (
    go_loopw [6, 7] (MetRel pn x w10) (fun _ i _ => pn.length - (intOf i).toNat)
    case atStart => exact ⟨0, false, Nat.zero_le _, rfl, rfl, ⟨fun h => (Bool.false_ne_true h).elim, fun ⟨j, _, h, _⟩ => by omega⟩, ⟨0, rfl⟩⟩
    case round =>
      obtain ⟨k, mt, hk, rfl, rfl, HT, HW⟩ := hrel
      obtain ⟨nq0, hw0⟩ := HW.out
      subst hw0
      by_cases hlt : k < pn.length
      · obtain ⟨b, ob, rfl, hbb, hat⟩ := (Rd.of_Own HO2.out).ptr (by omega)
        obtain ⟨hx0, hx1, hx2, hx3⟩ := DNote.at (hat.ext hbb HE.out) k hlt
        have hbb2 : b < w10.heap.size := Nat.lt_of_lt_of_le hbb HE.out.size
        have HAT := Lib.hid hat
        clear hat
        obtain ⟨d, hd⟩ : ∃ d, decide (pn[k] = x) = d := ⟨_, rfl⟩
        have hq := eqNoteB pn[k] x d hd
        have HD := Lib.hid hd
        clear hd
        cases mt
        · go_wp2_with fail
          go_quiet (fail)
          go_wp2_with fail
          go_roundw
          case rel => exact ⟨k + 1, d, by omega, by go_num, rfl, met_no HT.out hlt HD.out, ⟨_, by first | rfl | exact World.drewN_drewN ..⟩⟩
          case measure => simp [intOf]; omega
        · go_wp2_with fail
          go_quiet (fail)
          go_wp2_with fail
          go_roundw
          case rel => exact ⟨k + 1, true, by omega, by go_num, rfl, met_yes HT.out, ⟨_, by first | rfl | exact World.drewN_drewN ..⟩⟩
          case measure => simp [intOf]; omega
      · cases mt
        rotate_left
        · go_wp2_with fail
          go_ret
          exact ⟨rfl, bxt⟩
        · have hnx : ¬ x ∈ pn := fun h => by
            obtain ⟨j, hj, hjx⟩ := List.getElem_of_mem h
            exact no_of HT.out ⟨j, hj, by omega, hjx⟩
          rcases HMT.out hnx with ⟨hk1, hor⟩ | ⟨hk1, hor⟩
          · have ek : (x.kind == 1) = true := by simpa using hk1
            have ek2 : (x.kind != 1) = false := by simpa using hk1
            have HK1 := Lib.hid hk1
            clear hk1
            rcases hor with hor | hor
            · (try subst hor)
              go_wp2_with fail
              go_ret
              exact ⟨rfl, bxt⟩
            · have HEQ := Lib.hid hor
              obtain ⟨-, e2, e3⟩ := hor
              (try subst e2)
              (try subst e3)
              go_wp2_with (go_at_call 17; refine (specSameQueue_any pn g2 q2 _ _ m g q _ _ _ (Rd.of_Own (HO2.out.ext bxt)) (Rd.of_Own (HO.out.ext bxt)) true (Lib.hid (by simp [HEQ.out.1]))).mono ?_; rintro e w9 ⟨rfl, hb9⟩)
              all_goals go_ret
              all_goals exact ⟨rfl, bxt⟩
          · have ek : (x.kind == 1) = false := by simpa using hk1
            have ek2 : (x.kind != 1) = true := by simpa using hk1
            have HK1 := Lib.hid hk1
            clear hk1
            rcases hor with hor | hor
            · (try subst hor)
              go_wp2_with fail
              go_ret
              exact ⟨rfl, bxt⟩
            · have HEQ := Lib.hid hor
              obtain ⟨-, e2, e3⟩ := hor
              (try subst e2)
              (try subst e3)
              go_wp2_with (go_at_call 17; refine (specSameQueue_any pn g2 q2 _ _ m g q _ _ _ (Rd.of_Own (HO2.out.ext bxt)) (Rd.of_Own (HO.out.ext bxt)) true (Lib.hid (by simp [HEQ.out.1]))).mono ?_; rintro e w9 ⟨rfl, hb9⟩)
              all_goals go_ret
              all_goals exact ⟨rfl, bxt⟩)
end Go.Proofs.Ytgobkfnmagcgcaa
