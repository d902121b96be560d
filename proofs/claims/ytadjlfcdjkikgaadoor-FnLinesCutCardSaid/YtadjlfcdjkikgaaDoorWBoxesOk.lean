/-
  Whether mailboxes are valid: the program's function and the reference's say the same.
-/
import Derived.Test.YtadjlfcdjkikgaaDoorWBoxOk
import Derived.Test.YtadjlfcdjkikgaaDoorWBoxIdx
import Derived.Test.YtadjlfcdjkikgaaDoorXOwn
namespace Go.Proofs.YtadjlfcdjkikgaaDoor
open Go.RowKit
set_option linter.unusedVariables false
set_option linter.unusedSimpArgs false

def nameLt (a b : ByteArray) : Bool := Op.bytesLess a.toList b.toList
theorem less_total : ∀ a b : List UInt8, Op.bytesLess a b = !(Op.bytesLess b a || b == a)
  | [], [] => rfl
  | [], _ :: _ => rfl
  | _ :: _, [] => rfl
  | a :: x, b :: y => by
    have ih := less_total x y
    simp only [Op.bytesLess, ih]
    rcases Nat.lt_trichotomy a.toNat b.toNat with h | h | h
    · have h1 : a < b := h
      have h2 : ¬ b < a := fun h3 => by (have h4 : b.toNat < a.toNat := h3; omega)
      have h3 : (b == a) = false := by simp; intro e; subst e; exact h2 h1
      simp [h1, h2, h3]
    · obtain rfl : a = b := UInt8.toNat_inj.1 h
      simp
    · have h1 : b < a := h
      have h2 : ¬ a < b := fun h3 => by (have h4 : a.toNat < b.toNat := h3; omega)
      have h3 : (a == b) = false := by simp; intro e; subst e; exact h2 h1
      simp [h1, h2, h3]
theorem nameLt_geq (a b : ByteArray) : (!Op.bytesLess a.toList b.toList) = !nameLt a b := rfl
theorem nameLt_leq (a b : ByteArray) : (Op.bytesLess b.toList a.toList || (b.toList == a.toList)) = !nameLt a b := by
  unfold nameLt
  rw [less_total a.toList b.toList, Bool.not_not]
theorem first_iff {α : Type} (p : α → Bool) (l : List α) (k : Nat) (hk : k < l.length) (hp : p l[k] = true) : (firstI p l = k ↔ firstI p (l.take k) < 0) := by
  constructor
  · intro h
    have hn : ∀ j (hj : j < (l.take k).length), p (l.take k)[j] = false := fun j hj => by
      cases hv : p (l.take k)[j] with
      | false => rfl
      | true =>
        have hjk : j < k := by simp at hj; omega
        have h1 := (firstI_first p l j (by omega) (by rw [List.getElem_take] at hv; exact hv)).2
        omega
    rw [firstI_miss hn]; omega
  · intro h
    refine firstI_hit hk hp fun j hj hjk => ?_
    cases hv : p l[j] with
    | false => rfl
    | true =>
      have h1 := firstI_first p (l.take k) j (by simp; omega) (by rw [List.getElem_take]; exact hv)
      omega
def BoxesAtP (l : List DBox) (k : Nat) : Prop := ∃ h : k < l.length, BoxP l[k].name l[k].validity l[k].next l[k].msgs ∧ (0 < k → nameLt l[k - 1].name l[k].name = true) ∧ boxWith l[k].validity l = k
def BoxesP (l : List DBox) : Prop := (∀ k, k < l.length → BoxesAtP l k) ∧ l.length ≤ 4
theorem boxesAt_iff {l : List PBox} {k : Nat} (hlt : k < l.length) : BoxesAtP (l.map PBox.box) k ↔ (BoxP l[k].name l[k].validity l[k].next l[k].msgs ∧ (0 < k → nameLt l[k - 1].name l[k].name = true) ∧ boxWith l[k].validity (l.map PBox.box) = k) := by
  unfold BoxesAtP
  constructor
  · rintro ⟨h, h1, h2, h3⟩
    simp only [List.getElem_map, PBox.box] at h1 h2 h3
    exact ⟨h1, h2, h3⟩
  · rintro ⟨h1, h2, h3⟩
    refine ⟨by simpa using hlt, ?_⟩
    simp only [List.getElem_map, PBox.box]
    exact ⟨h1, h2, h3⟩

set_option maxRecDepth 100000 in
set_option maxHeartbeats 8000000 in
theorem specBoxesOk_any (l : List PBox) (a : Option Addr) (c : Nat) (w : World) (R : Rd w a c 4 l.length (l.flatMap PBox.cells)) (M : RdM w l) (gn : ∀ y ∈ l, y.name.size ≤ 9223372036854775807) (gt : ∀ y ∈ l, ∀ m ∈ y.msgs, m.text.size ≤ 9223372036854775807) (r : Bool) (Hr : Hid (Tells r (BoxesP (l.map PBox.box)))) :
    Calls Tryd.prog 117 #[.slice a l.length c] w fun e w' => e = .returned (.bool r) ∧ Ext w w' := by
  have hl : l.length ≤ 9223372036854775807 := Nat.le_trans R.nc R.cm
  have hnc := R.nc
  have hcm := R.cm
  have boxTo : ∀ {k}, (∀ j, j < k → BoxesAtP (l.map PBox.box) j) → BoxesAtP (l.map PBox.box) k → ∀ j, j < k + 1 → BoxesAtP (l.map PBox.box) j := fun {k} h hk j hj => by
    by_cases e : j = k
    · subst e; exact hk
    · exact h j (by omega)
  have HR := Lib.hid R
  have HM := Lib.hid M
  have HGN := Lib.hid gn
  have HGT := Lib.hid gt
  clear R M gn gt
  go_enter Tryd.func117, Tryd.ntmps117
  go_wp2_with fail
  go_loopw [3] (fun i wr => ∃ k : Nat, k ≤ l.length ∧ i = .int .i64 k ∧ Hid (∀ j, j < k → BoxesAtP (l.map PBox.box) j) ∧ Below w.heap.size w wr) (fun i _ => l.length - (intOf i).toNat)
  case atStart => exact ⟨0, Nat.zero_le _, rfl, fun _ h => by omega, Below.refl _ _⟩
  case round =>
    obtain ⟨k, hk, rfl, HP, hbe⟩ := hrel
    by_cases hlt : k < l.length
    rotate_left
    · have hkk : k = l.length := by omega
      have HKK := Lib.hid hkk
      clear hkk
      go_wp2_with fail
      go_ret
      refine ⟨ret_bool ?_, bxt⟩
      have hp : BoxesP (l.map PBox.box) ↔ l.length ≤ 4 := ⟨fun h => by simpa using h.2, fun h => ⟨fun j hj => HP.out j (by have := HKK.out; simp at hj; omega), by simpa using h⟩⟩
      by_cases h4 : l.length ≤ 4
      · rw [Tells.eq_true Hr.out (hp.2 h4)]; simp; omega
      · rw [Tells.eq_false Hr.out (fun h => h4 (hp.1 h))]; simp; omega
    · obtain ⟨b1, o, rfl, hb1, hat1⟩ := HR.out.ptr (by omega)
      obtain ⟨hx0, hx1, hx2, hx3⟩ := PBox.at (hat1.ext hb1 hbe) k hlt
      have HA := Lib.hid hat1
      clear hat1
      obtain ⟨dB, hdB⟩ := boolOf (BoxP l[k].name l[k].validity l[k].next l[k].msgs)
      have HDB := Lib.hid hdB
      clear hdB
      have hb1w : b1 < wr.heap.size := by (have := hbe.size; omega)
      have hww : w.heap.size ≤ wr.heap.size := hbe.size
      have hk63 : (k : Int) ≤ 9223372036854775806 := by omega
      have HNO : Hid (BoxesP (l.map PBox.box) → (BoxP l[k].name l[k].validity l[k].next l[k].msgs ∧ (0 < k → nameLt l[k - 1].name l[k].name = true) ∧ boxWith l[k].validity (l.map PBox.box) = k)) := fun hv => (boxesAt_iff hlt).1 (hv.1 k (by simpa using hlt))
      obtain ⟨z, hz⟩ : ∃ z, boxWith l[k].validity ((l.take k).map PBox.box) = z := ⟨_, rfl⟩
      have HZ := Lib.hid hz
      clear hz
      have HCW : Hid (∀ W, Ext w W → Calls Tryd.prog 98 #[.slice (some ⟨b1, o, none⟩) k c, .int .i64 l[k].validity] W fun e w' => e = .returned (.int .i64 z) ∧ w' = W) := by
        intro W hW
        have hlk : (l.take k).length = k := by (rw [List.length_take]; omega)
        have h := specBoxWith_any (l.take k) (some ⟨b1, o, none⟩) c l[k].validity W (by rw [hlk]; exact (HR.out.takeAt PBox.cells_len k (by omega)).ext hW) z HZ
        rw [hlk] at h
        exact h
      have HWI : Hid (boxWith l[k].validity (l.map PBox.box) = k ↔ z < 0) := by (rw [← HZ.out, List.map_take]; exact first_iff _ _ k (by simpa using hlt) (by simp [PBox.box]))
      by_cases hk0 : 0 < k
      · have hk0' : decide ((0 : Int) < (k : Int)) = true := by simpa using hk0
        have hk0n : decide (0 < k) = true := by simpa using hk0
        obtain ⟨hy0, hy1, hy2, hy3⟩ := PBox.at (HA.out.ext hb1 hbe) (k - 1) (by omega)
        have hi3 : (1 : Int) ≤ (k : Int) := by omega
        have hi4 : (k : Int) - 1 < l.length := by omega
        have hi5 : (0 : Int) ≤ (k : Int) - 1 := by omega
        have hi1 : IntKind.i64.wrap ((k : Int) - 1) = (k : Int) - 1 := IntWalk.i64_in _ (by omega)
        have hi2 : ((k : Int) - 1).toNat = k - 1 := by omega
        obtain ⟨dO, hdO⟩ : ∃ d, nameLt l[k - 1].name l[k].name = d := ⟨_, rfl⟩
        have hO1 : (!Op.bytesLess l[k - 1].name.toList l[k].name.toList) = !dO := by rw [← hdO]; exact rfl
        have HDO : Hid (Tells dO (0 < k → nameLt l[k - 1].name l[k].name = true)) := by (subst hdO; simp [Hid, Tells, hk0])
        clear hdO
        cases dB with
        | false =>
          go_upto_region 4 with fail
          refine wp_world (fun V hV => ?_)
          have hwV : Ext w V := by (rw [hV]; exact bxt)
          have hrV : Ext wr V := by (rw [hV]; exact bxt)
          have hbV : b1 < V.heap.size := Nat.lt_of_lt_of_le hb1w hrV.size
          clear hV
          have q0 := fun y : ExtW V => ((y.h.cell (p := ⟨b1, o + k * 4, none⟩) hbV).trans (hrV.cell (p := ⟨b1, o + k * 4, none⟩) hb1w)).trans hx0
          have q1 := fun y : ExtW V => ((y.h.cell (p := ⟨b1, o + k * 4 + 1, none⟩) hbV).trans (hrV.cell (p := ⟨b1, o + k * 4 + 1, none⟩) hb1w)).trans hx1
          have q2 := fun y : ExtW V => ((y.h.cell (p := ⟨b1, o + k * 4 + 2, none⟩) hbV).trans (hrV.cell (p := ⟨b1, o + k * 4 + 2, none⟩) hb1w)).trans hx2
          have q3 := fun y : ExtW V => ((y.h.cell (p := ⟨b1, o + k * 4 + 3, none⟩) hbV).trans (hrV.cell (p := ⟨b1, o + k * 4 + 3, none⟩) hb1w)).trans hx3
          have q4 := fun y : ExtW V => ((y.h.cell (p := ⟨b1, o + (k - 1) * 4, none⟩) hbV).trans (hrV.cell (p := ⟨b1, o + (k - 1) * 4, none⟩) hb1w)).trans hy0
          refine wp_region_ext (by kernel_rfl) (by kernel_rfl) ?_
          repeat (go_big_quiet_step ((first | (go_at_call 94; refine (specBoxOk_any l[k].name l[k].validity l[k].next l[k].msgs _ _ _ ((HM.out.at k hlt).ext (ExtW.of hwV _)) (HGN.out _ (List.getElem_mem hlt)) (HGT.out _ (List.getElem_mem hlt)) false HDB).mono ?_; rintro e w4 ⟨rfl, hb4⟩; exact ⟨rfl, ExtW.on _ hb4⟩) | (go_at_call 98; refine (HCW.out _ (ExtW.of hwV _)).mono ?_; rintro e w4 ⟨rfl, rfl⟩; exact ⟨rfl, ExtW.on _ (Below.refl _ _)⟩))))
          refine wpQuiet_nil ?_
          rintro w3 ⟨⟨w3x, hw3⟩, hx3⟩
          have hx4 : w3 = w3x := hx3
          subst hx4
          clear hx3 q0 q1 q2 q3 q4
          have hw30 : Ext w w3 := Below.ext hwV hw3
          go_wp2_with fail
          go_ret
          exact ⟨ret_no Hr.out (not_of HNO.out (fun ⟨h1, h2, h3⟩ => no_of HDB.out h1)), hw30⟩
        | true =>
          cases dO with
          | false =>
            go_upto_region 4 with fail
            refine wp_world (fun V hV => ?_)
            have hwV : Ext w V := by (rw [hV]; exact bxt)
            have hrV : Ext wr V := by (rw [hV]; exact bxt)
            have hbV : b1 < V.heap.size := Nat.lt_of_lt_of_le hb1w hrV.size
            clear hV
            have q0 := fun y : ExtW V => ((y.h.cell (p := ⟨b1, o + k * 4, none⟩) hbV).trans (hrV.cell (p := ⟨b1, o + k * 4, none⟩) hb1w)).trans hx0
            have q1 := fun y : ExtW V => ((y.h.cell (p := ⟨b1, o + k * 4 + 1, none⟩) hbV).trans (hrV.cell (p := ⟨b1, o + k * 4 + 1, none⟩) hb1w)).trans hx1
            have q2 := fun y : ExtW V => ((y.h.cell (p := ⟨b1, o + k * 4 + 2, none⟩) hbV).trans (hrV.cell (p := ⟨b1, o + k * 4 + 2, none⟩) hb1w)).trans hx2
            have q3 := fun y : ExtW V => ((y.h.cell (p := ⟨b1, o + k * 4 + 3, none⟩) hbV).trans (hrV.cell (p := ⟨b1, o + k * 4 + 3, none⟩) hb1w)).trans hx3
            have q4 := fun y : ExtW V => ((y.h.cell (p := ⟨b1, o + (k - 1) * 4, none⟩) hbV).trans (hrV.cell (p := ⟨b1, o + (k - 1) * 4, none⟩) hb1w)).trans hy0
            refine wp_region_ext (by kernel_rfl) (by kernel_rfl) ?_
            repeat (go_big_quiet_step ((first | (go_at_call 94; refine (specBoxOk_any l[k].name l[k].validity l[k].next l[k].msgs _ _ _ ((HM.out.at k hlt).ext (ExtW.of hwV _)) (HGN.out _ (List.getElem_mem hlt)) (HGT.out _ (List.getElem_mem hlt)) true HDB).mono ?_; rintro e w4 ⟨rfl, hb4⟩; exact ⟨rfl, ExtW.on _ hb4⟩) | (go_at_call 98; refine (HCW.out _ (ExtW.of hwV _)).mono ?_; rintro e w4 ⟨rfl, rfl⟩; exact ⟨rfl, ExtW.on _ (Below.refl _ _)⟩))))
            refine wpQuiet_nil ?_
            rintro w3 ⟨⟨w3x, hw3⟩, hx3⟩
            have hx4 : w3 = w3x := hx3
            subst hx4
            clear hx3 q0 q1 q2 q3 q4
            have hw30 : Ext w w3 := Below.ext hwV hw3
            go_wp2_with fail
            go_ret
            exact ⟨ret_no Hr.out (not_of HNO.out (fun ⟨h1, h2, h3⟩ => no_of HDO.out h2)), hw30⟩
          | true =>
            by_cases hz : z < 0
            rotate_left
            · have hz1 : decide ((0 : Int) ≤ z) = true := decide_eq_true (by omega)
              have HNZ := Lib.hid hz
              clear hz
              go_upto_region 4 with fail
              refine wp_world (fun V hV => ?_)
              have hwV : Ext w V := by (rw [hV]; exact bxt)
              have hrV : Ext wr V := by (rw [hV]; exact bxt)
              have hbV : b1 < V.heap.size := Nat.lt_of_lt_of_le hb1w hrV.size
              clear hV
              have q0 := fun y : ExtW V => ((y.h.cell (p := ⟨b1, o + k * 4, none⟩) hbV).trans (hrV.cell (p := ⟨b1, o + k * 4, none⟩) hb1w)).trans hx0
              have q1 := fun y : ExtW V => ((y.h.cell (p := ⟨b1, o + k * 4 + 1, none⟩) hbV).trans (hrV.cell (p := ⟨b1, o + k * 4 + 1, none⟩) hb1w)).trans hx1
              have q2 := fun y : ExtW V => ((y.h.cell (p := ⟨b1, o + k * 4 + 2, none⟩) hbV).trans (hrV.cell (p := ⟨b1, o + k * 4 + 2, none⟩) hb1w)).trans hx2
              have q3 := fun y : ExtW V => ((y.h.cell (p := ⟨b1, o + k * 4 + 3, none⟩) hbV).trans (hrV.cell (p := ⟨b1, o + k * 4 + 3, none⟩) hb1w)).trans hx3
              have q4 := fun y : ExtW V => ((y.h.cell (p := ⟨b1, o + (k - 1) * 4, none⟩) hbV).trans (hrV.cell (p := ⟨b1, o + (k - 1) * 4, none⟩) hb1w)).trans hy0
              refine wp_region_ext (by kernel_rfl) (by kernel_rfl) ?_
              repeat (go_big_quiet_step ((first | (go_at_call 94; refine (specBoxOk_any l[k].name l[k].validity l[k].next l[k].msgs _ _ _ ((HM.out.at k hlt).ext (ExtW.of hwV _)) (HGN.out _ (List.getElem_mem hlt)) (HGT.out _ (List.getElem_mem hlt)) true HDB).mono ?_; rintro e w4 ⟨rfl, hb4⟩; exact ⟨rfl, ExtW.on _ hb4⟩) | (go_at_call 98; refine (HCW.out _ (ExtW.of hwV _)).mono ?_; rintro e w4 ⟨rfl, rfl⟩; exact ⟨rfl, ExtW.on _ (Below.refl _ _)⟩))))
              refine wpQuiet_nil ?_
              rintro w3 ⟨⟨w3x, hw3⟩, hx3⟩
              have hx4 : w3 = w3x := hx3
              subst hx4
              clear hx3 q0 q1 q2 q3 q4
              have hw30 : Ext w w3 := Below.ext hwV hw3
              go_wp2_with fail
              go_ret
              exact ⟨ret_no Hr.out (not_of HNO.out (fun ⟨h1, h2, h3⟩ => by (have h5 := HWI.out.1 h3; have h6 := HNZ.out; first | omega | exact absurd h5 h6))), hw30⟩
            have hz1 : decide ((0 : Int) ≤ z) = false := decide_eq_false (by omega)
            have HNZ := Lib.hid hz
            clear hz
            go_upto_region 4 with fail
            refine wp_world (fun V hV => ?_)
            have hwV : Ext w V := by (rw [hV]; exact bxt)
            have hrV : Ext wr V := by (rw [hV]; exact bxt)
            have hbV : b1 < V.heap.size := Nat.lt_of_lt_of_le hb1w hrV.size
            clear hV
            have q0 := fun y : ExtW V => ((y.h.cell (p := ⟨b1, o + k * 4, none⟩) hbV).trans (hrV.cell (p := ⟨b1, o + k * 4, none⟩) hb1w)).trans hx0
            have q1 := fun y : ExtW V => ((y.h.cell (p := ⟨b1, o + k * 4 + 1, none⟩) hbV).trans (hrV.cell (p := ⟨b1, o + k * 4 + 1, none⟩) hb1w)).trans hx1
            have q2 := fun y : ExtW V => ((y.h.cell (p := ⟨b1, o + k * 4 + 2, none⟩) hbV).trans (hrV.cell (p := ⟨b1, o + k * 4 + 2, none⟩) hb1w)).trans hx2
            have q3 := fun y : ExtW V => ((y.h.cell (p := ⟨b1, o + k * 4 + 3, none⟩) hbV).trans (hrV.cell (p := ⟨b1, o + k * 4 + 3, none⟩) hb1w)).trans hx3
            have q4 := fun y : ExtW V => ((y.h.cell (p := ⟨b1, o + (k - 1) * 4, none⟩) hbV).trans (hrV.cell (p := ⟨b1, o + (k - 1) * 4, none⟩) hb1w)).trans hy0
            refine wp_region_ext (by kernel_rfl) (by kernel_rfl) ?_
            repeat (go_big_quiet_step ((first | (go_at_call 94; refine (specBoxOk_any l[k].name l[k].validity l[k].next l[k].msgs _ _ _ ((HM.out.at k hlt).ext (ExtW.of hwV _)) (HGN.out _ (List.getElem_mem hlt)) (HGT.out _ (List.getElem_mem hlt)) true HDB).mono ?_; rintro e w4 ⟨rfl, hb4⟩; exact ⟨rfl, ExtW.on _ hb4⟩) | (go_at_call 98; refine (HCW.out _ (ExtW.of hwV _)).mono ?_; rintro e w4 ⟨rfl, rfl⟩; exact ⟨rfl, ExtW.on _ (Below.refl _ _)⟩))))
            refine wpQuiet_nil ?_
            rintro w3 ⟨⟨w3x, hw3⟩, hx3⟩
            have hx4 : w3 = w3x := hx3
            subst hx4
            clear hx3 q0 q1 q2 q3 q4
            have hw30 : Ext w w3 := Below.ext hwV hw3
            go_wp2_with fail
            go_roundw
            case rel => exact ⟨k + 1, by omega, by go_num, boxTo HP.out ((boxesAt_iff hlt).2 ⟨yes_of HDB.out, yes_of HDO.out, HWI.out.2 HNZ.out⟩), hw30⟩
            case measure => simp [intOf]; omega
      · have hk0' : decide ((0 : Int) < (k : Int)) = false := by simp; omega
        have hk0n : decide (0 < k) = false := by simp; omega
        have HDO : Hid (Tells true (0 < k → nameLt l[k - 1].name l[k].name = true)) := ⟨fun _ h => (hk0 h).elim, fun _ => rfl⟩
        cases dB with
        | false =>
          go_upto_region 4 with fail
          refine wp_world (fun V hV => ?_)
          have hwV : Ext w V := by (rw [hV]; exact bxt)
          have hrV : Ext wr V := by (rw [hV]; exact bxt)
          have hbV : b1 < V.heap.size := Nat.lt_of_lt_of_le hb1w hrV.size
          clear hV
          have q0 := fun y : ExtW V => ((y.h.cell (p := ⟨b1, o + k * 4, none⟩) hbV).trans (hrV.cell (p := ⟨b1, o + k * 4, none⟩) hb1w)).trans hx0
          have q1 := fun y : ExtW V => ((y.h.cell (p := ⟨b1, o + k * 4 + 1, none⟩) hbV).trans (hrV.cell (p := ⟨b1, o + k * 4 + 1, none⟩) hb1w)).trans hx1
          have q2 := fun y : ExtW V => ((y.h.cell (p := ⟨b1, o + k * 4 + 2, none⟩) hbV).trans (hrV.cell (p := ⟨b1, o + k * 4 + 2, none⟩) hb1w)).trans hx2
          have q3 := fun y : ExtW V => ((y.h.cell (p := ⟨b1, o + k * 4 + 3, none⟩) hbV).trans (hrV.cell (p := ⟨b1, o + k * 4 + 3, none⟩) hb1w)).trans hx3
          refine wp_region_ext (by kernel_rfl) (by kernel_rfl) ?_
          repeat (go_big_quiet_step ((first | (go_at_call 94; refine (specBoxOk_any l[k].name l[k].validity l[k].next l[k].msgs _ _ _ ((HM.out.at k hlt).ext (ExtW.of hwV _)) (HGN.out _ (List.getElem_mem hlt)) (HGT.out _ (List.getElem_mem hlt)) false HDB).mono ?_; rintro e w4 ⟨rfl, hb4⟩; exact ⟨rfl, ExtW.on _ hb4⟩) | (go_at_call 98; refine (HCW.out _ (ExtW.of hwV _)).mono ?_; rintro e w4 ⟨rfl, rfl⟩; exact ⟨rfl, ExtW.on _ (Below.refl _ _)⟩))))
          refine wpQuiet_nil ?_
          rintro w3 ⟨⟨w3x, hw3⟩, hx3⟩
          have hx4 : w3 = w3x := hx3
          subst hx4
          clear hx3 q0 q1 q2 q3
          have hw30 : Ext w w3 := Below.ext hwV hw3
          go_wp2_with fail
          go_ret
          exact ⟨ret_no Hr.out (not_of HNO.out (fun ⟨h1, h2, h3⟩ => no_of HDB.out h1)), hw30⟩
        | true =>
          by_cases hz : z < 0
          rotate_left
          · have hz1 : decide ((0 : Int) ≤ z) = true := decide_eq_true (by omega)
            have HNZ := Lib.hid hz
            clear hz
            go_upto_region 4 with fail
            refine wp_world (fun V hV => ?_)
            have hwV : Ext w V := by (rw [hV]; exact bxt)
            have hrV : Ext wr V := by (rw [hV]; exact bxt)
            have hbV : b1 < V.heap.size := Nat.lt_of_lt_of_le hb1w hrV.size
            clear hV
            have q0 := fun y : ExtW V => ((y.h.cell (p := ⟨b1, o + k * 4, none⟩) hbV).trans (hrV.cell (p := ⟨b1, o + k * 4, none⟩) hb1w)).trans hx0
            have q1 := fun y : ExtW V => ((y.h.cell (p := ⟨b1, o + k * 4 + 1, none⟩) hbV).trans (hrV.cell (p := ⟨b1, o + k * 4 + 1, none⟩) hb1w)).trans hx1
            have q2 := fun y : ExtW V => ((y.h.cell (p := ⟨b1, o + k * 4 + 2, none⟩) hbV).trans (hrV.cell (p := ⟨b1, o + k * 4 + 2, none⟩) hb1w)).trans hx2
            have q3 := fun y : ExtW V => ((y.h.cell (p := ⟨b1, o + k * 4 + 3, none⟩) hbV).trans (hrV.cell (p := ⟨b1, o + k * 4 + 3, none⟩) hb1w)).trans hx3
            refine wp_region_ext (by kernel_rfl) (by kernel_rfl) ?_
            repeat (go_big_quiet_step ((first | (go_at_call 94; refine (specBoxOk_any l[k].name l[k].validity l[k].next l[k].msgs _ _ _ ((HM.out.at k hlt).ext (ExtW.of hwV _)) (HGN.out _ (List.getElem_mem hlt)) (HGT.out _ (List.getElem_mem hlt)) true HDB).mono ?_; rintro e w4 ⟨rfl, hb4⟩; exact ⟨rfl, ExtW.on _ hb4⟩) | (go_at_call 98; refine (HCW.out _ (ExtW.of hwV _)).mono ?_; rintro e w4 ⟨rfl, rfl⟩; exact ⟨rfl, ExtW.on _ (Below.refl _ _)⟩))))
            refine wpQuiet_nil ?_
            rintro w3 ⟨⟨w3x, hw3⟩, hx3⟩
            have hx4 : w3 = w3x := hx3
            subst hx4
            clear hx3 q0 q1 q2 q3
            have hw30 : Ext w w3 := Below.ext hwV hw3
            go_wp2_with fail
            go_ret
            exact ⟨ret_no Hr.out (not_of HNO.out (fun ⟨h1, h2, h3⟩ => by (have h5 := HWI.out.1 h3; have h6 := HNZ.out; first | omega | exact absurd h5 h6))), hw30⟩
          have hz1 : decide ((0 : Int) ≤ z) = false := decide_eq_false (by omega)
          have HNZ := Lib.hid hz
          clear hz
          go_upto_region 4 with fail
          refine wp_world (fun V hV => ?_)
          have hwV : Ext w V := by (rw [hV]; exact bxt)
          have hrV : Ext wr V := by (rw [hV]; exact bxt)
          have hbV : b1 < V.heap.size := Nat.lt_of_lt_of_le hb1w hrV.size
          clear hV
          have q0 := fun y : ExtW V => ((y.h.cell (p := ⟨b1, o + k * 4, none⟩) hbV).trans (hrV.cell (p := ⟨b1, o + k * 4, none⟩) hb1w)).trans hx0
          have q1 := fun y : ExtW V => ((y.h.cell (p := ⟨b1, o + k * 4 + 1, none⟩) hbV).trans (hrV.cell (p := ⟨b1, o + k * 4 + 1, none⟩) hb1w)).trans hx1
          have q2 := fun y : ExtW V => ((y.h.cell (p := ⟨b1, o + k * 4 + 2, none⟩) hbV).trans (hrV.cell (p := ⟨b1, o + k * 4 + 2, none⟩) hb1w)).trans hx2
          have q3 := fun y : ExtW V => ((y.h.cell (p := ⟨b1, o + k * 4 + 3, none⟩) hbV).trans (hrV.cell (p := ⟨b1, o + k * 4 + 3, none⟩) hb1w)).trans hx3
          refine wp_region_ext (by kernel_rfl) (by kernel_rfl) ?_
          repeat (go_big_quiet_step ((first | (go_at_call 94; refine (specBoxOk_any l[k].name l[k].validity l[k].next l[k].msgs _ _ _ ((HM.out.at k hlt).ext (ExtW.of hwV _)) (HGN.out _ (List.getElem_mem hlt)) (HGT.out _ (List.getElem_mem hlt)) true HDB).mono ?_; rintro e w4 ⟨rfl, hb4⟩; exact ⟨rfl, ExtW.on _ hb4⟩) | (go_at_call 98; refine (HCW.out _ (ExtW.of hwV _)).mono ?_; rintro e w4 ⟨rfl, rfl⟩; exact ⟨rfl, ExtW.on _ (Below.refl _ _)⟩))))
          refine wpQuiet_nil ?_
          rintro w3 ⟨⟨w3x, hw3⟩, hx3⟩
          have hx4 : w3 = w3x := hx3
          subst hx4
          clear hx3 q0 q1 q2 q3
          have hw30 : Ext w w3 := Below.ext hwV hw3
          go_wp2_with fail
          go_roundw
          case rel => exact ⟨k + 1, by omega, by go_num, boxTo HP.out ((boxesAt_iff hlt).2 ⟨yes_of HDB.out, yes_of HDO.out, HWI.out.2 HNZ.out⟩), hw30⟩
          case measure => simp [intOf]; omega

end Go.Proofs.YtadjlfcdjkikgaaDoor
