/-
  Mailboxes put in the order of their names by the library's SortFunc.
  The library's insertion sort over mailboxes.
  The library's SortFunc over few mailboxes.
-/
import Derived.Test.YtemgabekckhckaaGreatWBoxesOk
import Derived.Test.YtemgabekckhckaaGreatXMarkS
import Derived.Deep.RegionLaw
import Derived.Test.YtemgabekckhckaaGreatXOwn
import Derived.IntWalk
import Derived.Shelf.Strconv.Itoa0
namespace Go.Proofs.YtemgabekckhckaaGreat
open Go.RowKit
set_option linter.unusedVariables false
set_option linter.unusedSimpArgs false

theorem less_trans : ∀ a b c : List UInt8, Op.bytesLess a b = true → Op.bytesLess b c = true → Op.bytesLess a c = true
  | _, [], _, h, _ => by simp [Op.bytesLess] at h
  | [], _ :: _, [], _, h => by simp [Op.bytesLess] at h
  | _ :: _, _ :: _, [], _, h => by simp [Op.bytesLess] at h
  | [], _ :: _, _ :: _, _, _ => by simp [Op.bytesLess]
  | a :: x, b :: y, c :: z, h1, h2 => by
    have ih := less_trans x y z
    simp only [Op.bytesLess, Bool.or_eq_true, Bool.and_eq_true, decide_eq_true_eq, beq_iff_eq] at h1 h2 ⊢
    rcases h1 with h1 | ⟨rfl, h1⟩
    · rcases h2 with h2 | ⟨rfl, h2⟩
      · exact Or.inl (UInt8.lt_trans h1 h2)
      · exact Or.inl h1
    · rcases h2 with h2 | ⟨rfl, h2⟩
      · exact Or.inl h2
      · exact Or.inr ⟨rfl, ih h1 h2⟩
theorem nameLt_trans {a b c : ByteArray} (h1 : nameLt a b = true) (h2 : nameLt b c = true) : nameLt a c = true := less_trans _ _ _ h1 h2
theorem nameLt_total (a b : ByteArray) : nameLt a b = !(nameLt b a || b.toList == a.toList) := less_total a.toList b.toList
theorem nameLt_asymm {a b : ByteArray} (h : nameLt a b = true) : nameLt b a = false := by
  rw [nameLt_total a b] at h
  cases hb : nameLt b a with
  | false => rfl
  | true => rw [hb] at h; simp at h
/-- what is not less and not less again -/
theorem nameLe_trans {a b c : ByteArray} (h1 : nameLt b a = false) (h2 : nameLt c b = false) : nameLt c a = false := by
  cases h : nameLt c a with
  | false => rfl
  | true =>
    rw [nameLt_total b a] at h1
    simp only [Bool.not_eq_false', Bool.or_eq_true] at h1
    rcases h1 with h1 | h1
    · rw [nameLt_trans h h1] at h2; cases h2
    · have e : a.toList = b.toList := by simpa using h1
      have : nameLt c b = nameLt c a := by unfold nameLt; rw [e]
      rw [this, h] at h2; cases h2
def cmpZ (a b : ByteArray) : Int := if nameLt a b = true then -1 else if nameLt b a = true then 1 else 0
theorem cmpZ_lt (a b : ByteArray) : decide (cmpZ a b < 0) = nameLt a b := by
  unfold cmpZ
  cases nameLt a b with
  | true => simp
  | false => cases nameLt b a <;> simp
/-- in order ahead of k -/
def SortTo (l : List PBox) (k : Nat) : Prop := ∀ p q, p < q → q < k → ∀ (h : q < l.length) (h' : p < l.length), nameLt l[q].name l[p].name = false
/-- in order up to k, but for what stands ahead of place j and the one at j -/
def InsTo (l : List PBox) (j k : Nat) : Prop := ∀ p q, p < q → q ≤ k → q ≠ j → ∀ (h : q < l.length) (h' : p < l.length), nameLt l[q].name l[p].name = false
theorem InsTo.start {l : List PBox} {k : Nat} (h : SortTo l k) : InsTo l k k := fun p q hpq hq hne hl hl' => h p q hpq (by omega) hl hl'
theorem InsTo.zero {l : List PBox} {k : Nat} (h : InsTo l 0 k) : SortTo l (k + 1) := fun p q hpq hq hl hl' => h p q hpq (by omega) (by omega) hl hl'
theorem InsTo.stop {l : List PBox} {j k : Nat} (hj : 0 < j) (hl1 : j < l.length) (h : InsTo l j k) (hs : nameLt l[j].name l[j - 1].name = false) : SortTo l (k + 1) := fun p q hpq hq hl hl' => by
  by_cases e : q = j
  · subst e
    by_cases e2 : p = q - 1
    · subst e2; exact hs
    · exact nameLe_trans (h p (q - 1) (by omega) (by omega) (by omega) (by omega) hl') hs
  · exact h p q hpq (by omega) e hl hl'
def swapB (l : List PBox) (j : Nat) : List PBox := if h : 0 < j ∧ j < l.length then (l.set j (l[j - 1]'(by omega))).set (j - 1) (l[j]'h.2) else l
theorem swapB_len (l : List PBox) (j : Nat) : (swapB l j).length = l.length := by unfold swapB; split <;> simp
theorem swapB_get {l : List PBox} {j i : Nat} (hj : 0 < j) (hl : j < l.length) (hi : i < l.length) (hi' : i < (swapB l j).length) : (swapB l j)[i] = if i = j - 1 then l[j] else if i = j then l[j - 1] else l[i] := by
  have e : swapB l j = (l.set j l[j - 1]).set (j - 1) l[j] := by unfold swapB; rw [dif_pos ⟨hj, hl⟩]
  simp only [e, List.getElem_set]
  by_cases h1 : i = j - 1
  · rw [if_pos h1.symm, if_pos h1]
  · rw [if_neg (fun h => h1 h.symm), if_neg h1]
    by_cases h2 : i = j
    · rw [if_pos h2.symm, if_pos h2]
    · rw [if_neg (fun h => h2 h.symm), if_neg h2]
theorem InsTo.swap {l : List PBox} {j k : Nat} (hj : 0 < j) (hl1 : j < l.length) (h : InsTo l j k) (hjk : j ≤ k) (hs : nameLt l[j].name l[j - 1].name = true) : InsTo (swapB l j) (j - 1) k := fun p q hpq hq hne hl hl' => by
  have hq' : q < l.length := by rw [← swapB_len l j]; exact hl
  have hp' : p < l.length := by omega
  rw [swapB_get hj hl1 hq' hl, swapB_get hj hl1 hp' hl', if_neg hne]
  by_cases e : q = j
  · rw [if_pos e]
    by_cases e2 : p = j - 1
    · rw [if_pos e2]; exact nameLt_asymm hs
    · rw [if_neg e2, if_neg (by omega)]; exact h p (j - 1) (by omega) (by omega) (by omega) (by omega) hp'
  · rw [if_neg e]
    by_cases e2 : p = j - 1
    · rw [if_pos e2]; exact h j q (by omega) hq e hq' hl1
    · rw [if_neg e2]
      by_cases e3 : p = j
      · rw [if_pos e3]; exact h (j - 1) q (by omega) hq e hq' (by omega)
      · rw [if_neg e3]; exact h p q hpq hq e hq' hp'
theorem swapB_perm (l : List PBox) (j : Nat) : (swapB l j).Perm l := by
  unfold swapB
  split
  · rename_i h
    exact List.set_set_perm h.2 (by omega)
  · exact List.Perm.refl _

set_option maxHeartbeats 1000000 in
theorem isNaN_any (s : ByteArray) (w : World) : Calls Tryz.prog 96 #[.string s] w fun e w' => e = .returned (.bool false) ∧ w' = w := by
  have h1 : (!(s.toList == s.toList)) = false := by simp
  go_enter Tryz.func96, Tryz.ntmps96
  go_wp2
  go_ret
  exact ⟨rfl, rfl⟩
set_option maxHeartbeats 1000000 in
theorem cmpStr_any (a b : ByteArray) (w : World) : Calls Tryz.prog 79 #[.string a, .string b] w fun e w' => e = .returned (.int .i64 (cmpZ a b)) ∧ w' = w := by
  have hg : (!(Op.bytesLess a.toList b.toList || (a.toList == b.toList))) = nameLt b a := by rw [nameLt_total b a]; rfl
  cases h1 : nameLt a b with
  | true =>
    have h2 : Op.bytesLess a.toList b.toList = true := h1
    go_enter Tryz.func79, Tryz.ntmps79
    go_wp2_with ((go_at_call 96; refine (isNaN_any _ _).mono ?_; rintro e wx ⟨rfl, hwx⟩; subst wx))
    go_ret
    exact ⟨ret_int (by simp [cmpZ, h1]), rfl⟩
  | false =>
    have h2 : Op.bytesLess a.toList b.toList = false := h1
    rw [h2] at hg
    cases h3 : nameLt b a with
    | true =>
      rw [h3] at hg
      have h4 : (a.toList == b.toList) = false := by simpa using hg
      go_enter Tryz.func79, Tryz.ntmps79
      go_wp2_with ((go_at_call 96; refine (isNaN_any _ _).mono ?_; rintro e wx ⟨rfl, hwx⟩; subst wx))
      go_ret
      exact ⟨ret_int (by simp [cmpZ, h1, h3]), rfl⟩
    | false =>
      rw [h3] at hg
      have h4 : (a.toList == b.toList) = true := by simpa using hg
      go_enter Tryz.func79, Tryz.ntmps79
      go_wp2_with ((go_at_call 96; refine (isNaN_any _ _).mono ?_; rintro e wx ⟨rfl, hwx⟩; subst wx))
      go_ret
      exact ⟨ret_int (by simp [cmpZ, h1, h3]), rfl⟩
set_option maxHeartbeats 1000000 in
theorem cmpBox_any (x y : PBox) (w : World) : Calls Tryz.prog 78 #[.agg #[.string x.name, .int .i64 x.validity, .int .i64 x.next, .slice x.ma x.msgs.length x.mc], .agg #[.string y.name, .int .i64 y.validity, .int .i64 y.next, .slice y.ma y.msgs.length y.mc]] w fun e w' => e = .returned (.int .i64 (cmpZ x.name y.name)) ∧ Ext w w' := by
  go_enter Tryz.func78, Tryz.ntmps78
  go_wp2_with ((go_at_call 79; refine (cmpStr_any _ _ _).mono ?_; rintro e wx ⟨rfl, hwx⟩; subst wx))
  go_ret
  exact ⟨rfl, bxt⟩

theorem OwnBs.perm {w w2 : World} {B E EM g c : Nat} {l m : List PBox} (h : OwnBs w B E EM (some ⟨g, 0, none⟩) c l) (hp : m.Perm l) (hrow : Own w2 B E 4 (.slice (some ⟨g, 0, none⟩) m.length c) m.length (m.flatMap PBox.cells)) (hg : w.grownBy w2 (some g)) (hc : c ≠ 0) : OwnBs w2 B E EM (some ⟨g, 0, none⟩) c m := by
  have hk : (m.map PBox.key).Perm (l.map PBox.key) := hp.map _
  have hft : foot (.slice (some ⟨g, 0, none⟩) l.length c) = some g := by simp [foot, hc]
  refine ⟨hrow, fun z hz => ?_, fun v hv => ?_, ?_⟩
  · have hz2 := hp.mem_iff.1 hz
    rw [← hft] at hg
    exact (h.msg z hz2).off hg (h.off _ (List.mem_map_of_mem hz2))
  · rw [hp.length_eq]; exact h.off v (hk.mem_iff.1 hv)
  · exact (hk.pairwise_iff (fun h => h.symm)).2 h.apart
theorem OwnBs.swapped {w : World} {B E EM g c j : Nat} {l : List PBox} (h : OwnBs w B E EM (some ⟨g, 0, none⟩) c l) (hc : c ≠ 0) (hj : 0 < j) (hl : j < l.length) :
    OwnBs (putW (putW w g (j * 4) l[j - 1].cells) g ((j - 1) * 4) l[j].cells) B E EM (some ⟨g, 0, none⟩) c (swapB l j) ∧ w.grownBy (putW (putW w g (j * 4) l[j - 1].cells) g ((j - 1) * 4) l[j].cells) (some g) := by
  obtain ⟨g', hg', hrow⟩ := h.row.row hc
  cases hg'
  obtain ⟨h1, g1⟩ := own_put l[j - 1].cells w (j * 4) _ hrow
  rw [putAt_flat PBox.cells_len l j hl] at h1
  obtain ⟨h2, g2⟩ := own_put l[j].cells _ ((j - 1) * 4) _ h1
  rw [putAt_flat PBox.cells_len _ (j - 1) (by simp; omega)] at h2
  have e : swapB l j = (l.set j l[j - 1]).set (j - 1) l[j] := by unfold swapB; rw [dif_pos ⟨hj, hl⟩]
  rw [← e] at h2
  exact ⟨h.perm (swapB_perm l j) (by rw [swapB_len]; exact Own.of_row h2) (grown_trans g1 g2) hc, grown_trans g1 g2⟩
end Go.Proofs.YtemgabekckhckaaGreat

namespace Go.Proofs.YtemgabekckhckaaGreat
open Go.RowKit
set_option linter.unusedVariables false
set_option linter.unusedSimpArgs false

theorem OwnBs.swapped2 {w : World} {B E EM g c j : Nat} {l : List PBox} (h : OwnBs w B E EM (some ⟨g, 0, none⟩) c l) (hc : c ≠ 0) (hj : 0 < j) (hl : j < l.length) :
    OwnBs (putW (putW w g ((j - 1) * 4) l[j].cells) g (j * 4) l[j - 1].cells) B E EM (some ⟨g, 0, none⟩) c (swapB l j) ∧ w.grownBy (putW (putW w g ((j - 1) * 4) l[j].cells) g (j * 4) l[j - 1].cells) (some g) := by
  obtain ⟨g', hg', hrow⟩ := h.row.row hc
  cases hg'
  obtain ⟨h1, g1⟩ := own_put l[j].cells w ((j - 1) * 4) _ hrow
  rw [putAt_flat PBox.cells_len l (j - 1) (by omega)] at h1
  obtain ⟨h2, g2⟩ := own_put l[j - 1].cells _ (j * 4) _ h1
  rw [putAt_flat PBox.cells_len _ j (by simp; omega)] at h2
  have e : swapB l j = (l.set (j - 1) l[j]).set j l[j - 1] := by
    unfold swapB; rw [dif_pos ⟨hj, hl⟩]
    exact List.set_comm _ _ (by omega)
  rw [← e] at h2
  exact ⟨h.perm (swapB_perm l j) (by rw [swapB_len]; exact Own.of_row h2) (grown_trans g1 g2) hc, grown_trans g1 g2⟩
theorem SortTo.mono {l : List PBox} {k n : Nat} (h : SortTo l k) (hn : n ≤ k) : SortTo l n := fun p q hpq hq hl hl' => h p q hpq (by omega) hl hl'
theorem SortTo.one (l : List PBox) : SortTo l 1 := fun p q hpq hq hl hl' => by omega

set_option maxRecDepth 100000 in
set_option maxHeartbeats 8000000 in
theorem insSort_any (l : List PBox) (g c B : Nat) (w : World) (h : OwnBs w B 32 60 (some ⟨g, 0, none⟩) c l) (hc : c ≠ 0) (hl : l.length ≤ 12) :
    Calls Tryz.prog 103 #[.slice (some ⟨g, 0, none⟩) l.length c, .int .i64 0, .int .i64 l.length, .func (.func 78) #[] #[]] w fun e w' => e = .returned (.tuple #[]) ∧ ∃ l', OwnBs w' B 32 60 (some ⟨g, 0, none⟩) c l' ∧ l'.Perm l ∧ SortTo l' l.length ∧ Chg (rowsB (some ⟨g, 0, none⟩) c l) w w' := by
  have HS : Hid (rowsB (some ⟨g, 0, none⟩) c l g) := Or.inl (by simp [foot, hc])
  have hgw : g < w.heap.size := (h.rows_lt g HS.out).2
  have HC := Lib.hid hc
  have H := Lib.hid h
  clear h hc
  go_enter Tryz.func103, Tryz.ntmps103
  go_wp2_with fail
  go_loopw [8] (fun i wr => ∃ (k : Nat) (l' : List PBox), 1 ≤ k ∧ i = .int .i64 k ∧ Hid (l'.Perm l) ∧ Hid (SortTo l' k) ∧ Hid (OwnBs wr B 32 60 (some ⟨g, 0, none⟩) c l') ∧ Hid (Chg (rowsB (some ⟨g, 0, none⟩) c l) w wr)) (fun i _ => l.length - (intOf i).toNat)
  case atStart => exact ⟨1, l, Nat.le_refl _, rfl, List.Perm.refl _, SortTo.one _, H.out, Chg.refl _ _⟩
  case round =>
    obtain ⟨k, l', hk, rfl, HP, HSo, HO, HCh⟩ := hrel
    by_cases hlt : k < l.length
    rotate_left
    · go_wp2_with fail
      first
        | exact bodyPost_end (results_none rfl _ _ _) rfl ⟨rfl, l', HO.out, HP.out, HSo.out.mono (by omega), HCh.out⟩
        | exact bodyPost_ret (results_none rfl _ _ _) rfl ⟨rfl, l', HO.out, HP.out, HSo.out.mono (by omega), HCh.out⟩
    · go_wp2_with fail
      go_loopw [9] (fun jv wq => ∃ (j : Nat) (m : List PBox), j ≤ k ∧ jv = .int .i64 j ∧ Hid (m.Perm l) ∧ Hid (InsTo m j k) ∧ Hid (OwnBs wq B 32 60 (some ⟨g, 0, none⟩) c m) ∧ Hid (Chg (rowsB (some ⟨g, 0, none⟩) c l) w wq)) (fun jv _ => (intOf jv).toNat)
      case atStart => exact ⟨k, l', Nat.le_refl _, rfl, HP.out, InsTo.start HSo.out, HO.out, HCh.out⟩
      case round =>
        rename_i wq
        obtain ⟨j, m, hj, rfl, HPm, HIn, HOm, HCm⟩ := hrel
        have hgq : g < wr.heap.size := by (have := HCm.out.size; omega)
        by_cases hj0 : 0 < j
        rotate_left
        · have hd0 : decide ((0 : Int) < (j : Int)) = false := decide_eq_false (by omega)
          have hd0n : decide (0 < j) = false := decide_eq_false hj0
          go_wp2_with fail
          refine wp_region_ext (by kernel_rfl) (by kernel_rfl) ?_
          repeat (go_big_quiet_step (fail))
          refine wpQuiet_nil ?_
          rintro w3 ⟨⟨w3x, hw3⟩, hx3⟩
          have hx4 : w3 = w3x := hx3
          subst hx4
          clear hx3
          go_wp2_with fail
          go_roundw
          case rel => exact ⟨k + 1, m, by omega, by go_num, HPm.out, by (have h9 := HIn.out; rw [show j = 0 from by omega] at h9; exact h9.zero), HOm.out.ext hw3, HCm.out.trans (Chg.ext hw3)⟩
          case measure => simp [intOf]; omega
        · have hd0 : decide ((0 : Int) < (j : Int)) = true := decide_eq_true (by omega)
          have hd0n : decide (0 < j) = true := decide_eq_true hj0
          have hml : m.length = l.length := HPm.out.length_eq
          have hjm : j < m.length := by omega
          have hjm1 : j - 1 < m.length := by omega
          have HML := Lib.hid hml
          have hji : (j : Int) < (l.length : Int) := by omega
          have hji0 : (0 : Int) ≤ (j : Int) := by omega
          have hw1 : IntKind.i64.wrap ((j : Int) - 1) = (j : Int) - 1 := IntWalk.i64_in _ (by omega)
          have hi3 : (1 : Int) ≤ (j : Int) := by omega
          have hi4 : (j : Int) - 1 < (l.length : Int) := by omega
          have hi5 : (0 : Int) ≤ (j : Int) - 1 := by omega
          have hi2 : ((j : Int) - 1).toNat = j - 1 := by omega
          clear hml
          obtain ⟨g', hg', hrow⟩ := HOm.out.row.row HC.out
          cases hg'
          obtain ⟨b, ofs, hbo, hbb, hat⟩ := (Rd.of_own hrow).ptr (by omega)
          cases hbo
          obtain ⟨x0, x1, x2, x3⟩ := PBox.at hat j hjm
          obtain ⟨y0, y1, y2, y3⟩ := PBox.at hat (j - 1) hjm1
          simp only [Nat.zero_add] at x0 x1 x2 x3 y0 y1 y2 y3
          have HAT := Lib.hid hat
          clear hat hrow hbb
          have qx0 := fun y : ExtW wr => (y.h.cell (p := ⟨g, j * 4, none⟩) hgq).trans x0
          have qx1 := fun y : ExtW wr => (y.h.cell (p := ⟨g, j * 4 + 1, none⟩) hgq).trans x1
          have qx2 := fun y : ExtW wr => (y.h.cell (p := ⟨g, j * 4 + 2, none⟩) hgq).trans x2
          have qx3 := fun y : ExtW wr => (y.h.cell (p := ⟨g, j * 4 + 3, none⟩) hgq).trans x3
          have qy0 := fun y : ExtW wr => (y.h.cell (p := ⟨g, (j - 1) * 4, none⟩) hgq).trans y0
          have qy1 := fun y : ExtW wr => (y.h.cell (p := ⟨g, (j - 1) * 4 + 1, none⟩) hgq).trans y1
          have qy2 := fun y : ExtW wr => (y.h.cell (p := ⟨g, (j - 1) * 4 + 2, none⟩) hgq).trans y2
          have qy3 := fun y : ExtW wr => (y.h.cell (p := ⟨g, (j - 1) * 4 + 3, none⟩) hgq).trans y3
          cases hd : nameLt m[j].name m[j - 1].name with
          | false =>
            have hz : decide (cmpZ m[j].name m[j - 1].name < 0) = false := by rw [cmpZ_lt]; exact hd
            have HD := Lib.hid hd
            clear hd
            go_wp2_with fail
            refine wp_region_ext (by kernel_rfl) (by kernel_rfl) ?_
            repeat (go_big_quiet_step ((go_at_call 78; refine (cmpBox_any m[j] m[j - 1] _).mono ?_; rintro e w4 ⟨rfl, hb4⟩; exact ⟨rfl, ExtW.on _ hb4⟩)))
            refine wpQuiet_nil ?_
            rintro w3 ⟨⟨w3x, hw3⟩, hx3⟩
            have hx4 : w3 = w3x := hx3
            subst hx4
            clear hx3 qx0 qx1 qx2 qx3 qy0 qy1 qy2 qy3
            go_wp2_with fail
            go_roundw
            case rel => exact ⟨k + 1, m, by omega, by go_num, HPm.out, HIn.out.stop hj0 hjm HD.out, HOm.out.ext hw3, HCm.out.trans (Chg.ext hw3)⟩
            case measure => simp [intOf]; omega
          | true =>
            have hz : decide (cmpZ m[j].name m[j - 1].name < 0) = true := by rw [cmpZ_lt]; exact hd
            have HD := Lib.hid hd
            clear hd
            go_wp2_with fail
            refine wp_region_ext (by kernel_rfl) (by kernel_rfl) ?_
            repeat (go_big_quiet_step ((go_at_call 78; refine (cmpBox_any m[j] m[j - 1] _).mono ?_; rintro e w4 ⟨rfl, hb4⟩; exact ⟨rfl, ExtW.on _ hb4⟩)))
            refine wpQuiet_nil ?_
            rintro w3 ⟨⟨w3x, hw3⟩, hx3⟩
            have hx4 : w3 = w3x := hx3
            subst hx4
            clear hx3 qx0 qx1 qx2 qx3 qy0 qy1 qy2 qy3
            have hg3 : g < w3.heap.size := Nat.lt_of_lt_of_le hgq hw3.size
            have HO3 := Lib.hid (HOm.out.ext hw3)
            obtain ⟨g', hg', hrow⟩ := HO3.out.row.row HC.out
            cases hg'
            obtain ⟨b, ofs, hbo, hbb, hat⟩ := (Rd.of_own hrow).ptr (by omega)
            cases hbo
            obtain ⟨x0, x1, x2, x3⟩ := PBox.at hat j hjm
            obtain ⟨y0, y1, y2, y3⟩ := PBox.at hat (j - 1) hjm1
            simp only [Nat.zero_add] at x0 x1 x2 x3 y0 y1 y2 y3
            obtain ⟨-, fx0⟩ := own_slot hrow (j * 4) (by omega)
            obtain ⟨-, fx1⟩ := own_slot hrow (j * 4 + 1) (by omega)
            obtain ⟨-, fx2⟩ := own_slot hrow (j * 4 + 2) (by omega)
            obtain ⟨-, fx3⟩ := own_slot hrow (j * 4 + 3) (by omega)
            obtain ⟨-, fy0⟩ := own_slot hrow ((j - 1) * 4) (by omega)
            obtain ⟨-, fy1⟩ := own_slot hrow ((j - 1) * 4 + 1) (by omega)
            obtain ⟨-, fy2⟩ := own_slot hrow ((j - 1) * 4 + 2) (by omega)
            obtain ⟨-, fy3⟩ := own_slot hrow ((j - 1) * 4 + 3) (by omega)
            have hne : j ≠ j - 1 := by omega
            have HAT3 := Lib.hid hat
            clear hat hrow hbb
            go_wp2_with fail
            first
              | go_region_law (fail)
              | fail
            all_goals
              go_wp2_with fail
              go_roundw
              case rel =>
                have hsw := HO3.out.swapped HC.out hj0 hjm
                simp only [putW, PBox.cells, Nat.add_assoc, Nat.reduceAdd] at hsw
                obtain ⟨hs1, hs2⟩ := hsw
                refine ⟨j - 1, swapB m j, by omega, by rw [show ((j - 1 : Nat) : Int) = (j : Int) - 1 from by omega], (swapB_perm m j).trans HPm.out, HIn.out.swap hj0 hjm hj HD.out, ?_, ?_⟩
                · exact hs1.ext ((Below.refl _ _).drew)
                · exact HCm.out.trans ((Chg.ext hw3).trans ((Chg.grown hs2 (fun x hx => by cases hx; exact HS.out)).trans (Chg.ext ((Below.refl _ _).drew))))
              case measure => simp [intOf]; omega
end Go.Proofs.YtemgabekckhckaaGreat

namespace Go.Proofs.YtemgabekckhckaaGreat
open Go.RowKit Go.Shelf
set_option linter.unusedVariables false
set_option linter.unusedSimpArgs false
set_option maxRecDepth 100000
def renF2 : Nat → Nat
  | 129 => 112
  | n => n
def renT2 : Nat → Nat
  | 3 => 3
  | 4 => 4
  | 5 => 5
  | 9 => 9
  | 46 => 110
  | 53 => 129
  | n => n
def ren2 : Ren := ⟨renF2, renT2, fun _ => 0⟩
theorem lays129 : Lays.n129 Tryz.prog ren2 where
  mixed := by kernel_rfl
  f129 := Tryz.func112
  t3 := by kernel_rfl
  a3 := fun w => by kernel_rfl
  z3 := fun w => by kernel_rfl
  v3 := fun w => by kernel_rfl
  t4 := by kernel_rfl
  a4 := fun w => by kernel_rfl
  z4 := fun w => by kernel_rfl
  v4 := fun w => by kernel_rfl
  t5 := by kernel_rfl
  a5 := fun w => by kernel_rfl
  z5 := fun w => by kernel_rfl
  v5 := fun w => by kernel_rfl
  t9 := by kernel_rfl
  a9 := fun w => by kernel_rfl
  z9 := fun w => by kernel_rfl
  v9 := fun w => by kernel_rfl
  t46 := by kernel_rfl
  a46 := fun w => by kernel_rfl
  z46 := fun w => by kernel_rfl
  v46 := fun w => by kernel_rfl
  t53 := by kernel_rfl
  a53 := fun w => by kernel_rfl
  z53 := fun w => by kernel_rfl
  v53 := fun w => by kernel_rfl

set_option maxHeartbeats 1000000 in
theorem bitsLen_any (x : Int) (w : World) (h0 : 0 ≤ x) (h1 : x ≤ 1000) : Calls Tryz.prog 95 #[.int .u64 x] w fun e w' => e = .returned (.int .i64 (Lib.bitLen x.toNat)) ∧ w' = w := by
  have hu : IntKind.u64.wrap x = x := IntWalk.u64_in _ (by omega)
  go_enter Tryz.func95, Tryz.ntmps95
  go_wp2_with ((go_at_call 112; refine (Any.bits_Len64 lays129 x _ h0 (by omega)).mono ?_; rintro e wx ⟨rfl, hwx⟩; subst wx))
  go_ret
  exact ⟨rfl, rfl⟩

set_option maxHeartbeats 4000000 in
theorem pdq_any (l : List PBox) (g c B : Nat) (lim : Int) (w : World) (h : OwnBs w B 32 60 (some ⟨g, 0, none⟩) c l) (hc : c ≠ 0) (hl : l.length ≤ 12) :
    Calls Tryz.prog 94 #[.slice (some ⟨g, 0, none⟩) l.length c, .int .i64 0, .int .i64 l.length, .int .i64 lim, .func (.func 78) #[] #[]] w fun e w' => e = .returned (.tuple #[]) ∧ ∃ l', OwnBs w' B 32 60 (some ⟨g, 0, none⟩) c l' ∧ l'.Perm l ∧ SortTo l' l.length ∧ Chg (rowsB (some ⟨g, 0, none⟩) c l) w w' := by
  have H := Lib.hid h
  have HC := Lib.hid hc
  clear h hc
  have h9 : IntKind.i64.wrap (l.length : Int) = (l.length : Int) := IntWalk.i64_in _ (by omega)
  have h9b : IntKind.i64.wrap ((l.length : Int) - 0) = (l.length : Int) := by rw [Int.sub_zero]; exact h9
  have h12 : decide ((l.length : Int) ≤ 12) = true := decide_eq_true (by omega)
  have h12n : decide (l.length ≤ 12) = true := decide_eq_true hl
  go_enter Tryz.func94, Tryz.ntmps94
  go_wp2_with fail
  go_loopw [1, 2] (fun av bv wr => av = .int .i64 0 ∧ bv = .int .i64 l.length ∧ wr = w) (fun _ _ _ => 0)
  case atStart => exact ⟨rfl, rfl, rfl⟩
  case round =>
    obtain ⟨rfl, rfl, hwr⟩ := hrel
    subst hwr
    go_wp2_with fail
    refine (insSort_any l g c B _ H.out HC.out hl).mono ?_
    rintro e w1 ⟨rfl, hpost⟩
    have HP := Lib.hid hpost
    clear hpost
    go_wp2_with fail
    first
      | exact bodyPost_ret (results_none rfl _ _ _) rfl ⟨rfl, HP.out⟩
      | exact bodyPost_end (results_none rfl _ _ _) rfl ⟨rfl, HP.out⟩

set_option maxHeartbeats 4000000 in
theorem sortBoxes_any (l : List PBox) (g c B : Nat) (w : World) (h : OwnBs w B 32 60 (some ⟨g, 0, none⟩) c l) (hc : c ≠ 0) (hl : l.length ≤ 12) :
    Calls Tryz.prog 77 #[.slice (some ⟨g, 0, none⟩) l.length c, .func (.func 78) #[] #[]] w fun e w' => e = .returned (.tuple #[]) ∧ ∃ l', OwnBs w' B 32 60 (some ⟨g, 0, none⟩) c l' ∧ l'.Perm l ∧ SortTo l' l.length ∧ Chg (rowsB (some ⟨g, 0, none⟩) c l) w w' := by
  have H := Lib.hid h
  have HC := Lib.hid hc
  clear h hc
  have hu : IntKind.u64.wrap (l.length : Int) = (l.length : Int) := IntWalk.u64_in _ (by omega)
  go_enter Tryz.func77, Tryz.ntmps77
  go_wp2_with ((go_at_call 95; refine (bitsLen_any (l.length : Int) _ (by omega) (by omega)).mono ?_; rintro e wx ⟨rfl, hwx⟩; subst wx))
  refine (pdq_any l g c B _ _ H.out HC.out hl).mono ?_
  rintro e w1 ⟨rfl, hpost⟩
  have HP := Lib.hid hpost
  clear hpost
  go_wp2_with fail
  first
    | exact bodyPost_ret (results_none rfl _ _ _) rfl ⟨rfl, HP.out⟩
    | exact bodyPost_end (results_none rfl _ _ _) rfl ⟨rfl, HP.out⟩
end Go.Proofs.YtemgabekckhckaaGreat
