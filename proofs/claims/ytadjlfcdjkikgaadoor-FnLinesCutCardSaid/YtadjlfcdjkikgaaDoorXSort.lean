/-
  Mailboxes put in the order of their names by the library's SortFunc.
  The library's insertion sort over mailboxes.
  The library's SortFunc over few mailboxes.
-/
import Derived.Test.YtadjlfcdjkikgaaDoorWBoxesOk
import Derived.Test.YtadjlfcdjkikgaaDoorXMarkS
import Derived.Deep.RegionLaw
import Derived.Test.YtadjlfcdjkikgaaDoorXOwn
import Derived.IntWalk
import Derived.Shelf.Strconv.Itoa0
namespace Go.Proofs.YtadjlfcdjkikgaaDoor
open Go.RowKit
set_option linter.unusedVariables false
set_option linter.unusedSimpArgs false

theorem less_trans : ∀ a b c : List UInt8, Op.bytesLess a b = true → Op.bytesLess b c = true → Op.bytesLess a c = true
  | _, [], _, h, _ => by simp [Op.bytesLess] at h
  | [], _ :: _, [], _, h => by simp [Op.bytesLess] at h
  | _ :: _, _ :: _, [], _, h => by simp [Op.bytesLess] at h
  | [], _ :: _, _ :: _, _, _ => by simp [Op.bytesLess]
  | a :: x, b :: y, c :: z, h1, h2 => by
    have ih := less_trans x y z
    simp only [Op.bytesLess, Bool.or_eq_true, Bool.and_eq_true, decide_eq_true_eq, beq_iff_eq] at h1 h2 ⊢
    rcases h1 with h1 | ⟨rfl, h1⟩
    · rcases h2 with h2 | ⟨rfl, h2⟩
      · exact Or.inl (UInt8.lt_trans h1 h2)
      · exact Or.inl h1
    · rcases h2 with h2 | ⟨rfl, h2⟩
      · exact Or.inl h2
      · exact Or.inr ⟨rfl, ih h1 h2⟩
theorem nameLt_trans {a b c : ByteArray} (h1 : nameLt a b = true) (h2 : nameLt b c = true) : nameLt a c = true := less_trans _ _ _ h1 h2
theorem nameLt_total (a b : ByteArray) : nameLt a b = !(nameLt b a || b.toList == a.toList) := less_total a.toList b.toList
theorem nameLt_asymm {a b : ByteArray} (h : nameLt a b = true) : nameLt b a = false := by
  rw [nameLt_total a b] at h
  cases hb : nameLt b a with
  | false => rfl
  | true => rw [hb] at h; simp at h
/-- what is not less and not less again -/
theorem nameLe_trans {a b c : ByteArray} (h1 : nameLt b a = false) (h2 : nameLt c b = false) : nameLt c a = false := by
  cases h : nameLt c a with
  | false => rfl
  | true =>
    rw [nameLt_total b a] at h1
    simp only [Bool.not_eq_false', Bool.or_eq_true] at h1
    rcases h1 with h1 | h1
    · rw [nameLt_trans h h1] at h2; cases h2
    · have e : a.toList = b.toList := by simpa using h1
      have : nameLt c b = nameLt c a := by unfold nameLt; rw [e]
      rw [this, h] at h2; cases h2
def cmpZ (a b : ByteArray) : Int := if nameLt a b = true then -1 else if nameLt b a = true then 1 else 0
theorem cmpZ_lt (a b : ByteArray) : decide (cmpZ a b < 0) = nameLt a b := by
  unfold cmpZ
  cases nameLt a b with
  | true => simp
  | false => cases nameLt b a <;> simp
/-- in order ahead of k -/
def SortTo (l : List PBox) (k : Nat) : Prop := ∀ p q, p < q → q < k → ∀ (h : q < l.length) (h' : p < l.length), nameLt l[q].name l[p].name = false
/-- in order up to k, but for what stands ahead of place j and the one at j -/
def InsTo (l : List PBox) (j k : Nat) : Prop := ∀ p q, p < q → q ≤ k → q ≠ j → ∀ (h : q < l.length) (h' : p < l.length), nameLt l[q].name l[p].name = false
theorem InsTo.start {l : List PBox} {k : Nat} (h : SortTo l k) : InsTo l k k := fun p q hpq hq hne hl hl' => h p q hpq (by omega) hl hl'
theorem InsTo.zero {l : List PBox} {k : Nat} (h : InsTo l 0 k) : SortTo l (k + 1) := fun p q hpq hq hl hl' => h p q hpq (by omega) (by omega) hl hl'
theorem InsTo.stop {l : List PBox} {j k : Nat} (hj : 0 < j) (hl1 : j < l.length) (h : InsTo l j k) (hs : nameLt l[j].name l[j - 1].name = false) : SortTo l (k + 1) := fun p q hpq hq hl hl' => by
  by_cases e : q = j
  · subst e
    by_cases e2 : p = q - 1
    · subst e2; exact hs
    · exact nameLe_trans (h p (q - 1) (by omega) (by omega) (by omega) (by omega) hl') hs
  · exact h p q hpq (by omega) e hl hl'
def swapB (l : List PBox) (j : Nat) : List PBox := if h : 0 < j ∧ j < l.length then (l.set j (l[j - 1]'(by omega))).set (j - 1) (l[j]'h.2) else l
theorem swapB_len (l : List PBox) (j : Nat) : (swapB l j).length = l.length := by unfold swapB; split <;> simp
theorem swapB_get {l : List PBox} {j i : Nat} (hj : 0 < j) (hl : j < l.length) (hi : i < l.length) (hi' : i < (swapB l j).length) : (swapB l j)[i] = if i = j - 1 then l[j] else if i = j then l[j - 1] else l[i] := by
  have e : swapB l j = (l.set j l[j - 1]).set (j - 1) l[j] := by unfold swapB; rw [dif_pos ⟨hj, hl⟩]
  simp only [e, List.getElem_set]
  by_cases h1 : i = j - 1
  · rw [if_pos h1.symm, if_pos h1]
  · rw [if_neg (fun h => h1 h.symm), if_neg h1]
    by_cases h2 : i = j
    · rw [if_pos h2.symm, if_pos h2]
    · rw [if_neg (fun h => h2 h.symm), if_neg h2]
theorem InsTo.swap {l : List PBox} {j k : Nat} (hj : 0 < j) (hl1 : j < l.length) (h : InsTo l j k) (hjk : j ≤ k) (hs : nameLt l[j].name l[j - 1].name = true) : InsTo (swapB l j) (j - 1) k := fun p q hpq hq hne hl hl' => by
  have hq' : q < l.length := by rw [← swapB_len l j]; exact hl
  have hp' : p < l.length := by omega
  rw [swapB_get hj hl1 hq' hl, swapB_get hj hl1 hp' hl', if_neg hne]
  by_cases e : q = j
  · rw [if_pos e]
    by_cases e2 : p = j - 1
    · rw [if_pos e2]; exact nameLt_asymm hs
    · rw [if_neg e2, if_neg (by omega)]; exact h p (j - 1) (by omega) (by omega) (by omega) (by omega) hp'
  · rw [if_neg e]
    by_cases e2 : p = j - 1
    · rw [if_pos e2]; exact h j q (by omega) hq e hq' hl1
    · rw [if_neg e2]
      by_cases e3 : p = j
      · rw [if_pos e3]; exact h (j - 1) q (by omega) hq e hq' (by omega)
      · rw [if_neg e3]; exact h p q hpq hq e hq' hp'
theorem swapB_perm (l : List PBox) (j : Nat) : (swapB l j).Perm l := by
  unfold swapB
  split
  · rename_i h
    exact List.set_set_perm h.2 (by omega)
  · exact List.Perm.refl _

theorem OwnBs.perm {w w2 : World} {B E EM g c : Nat} {l m : List PBox} (h : OwnBs w B E EM (some ⟨g, 0, none⟩) c l) (hp : m.Perm l) (hrow : Own w2 B E 4 (.slice (some ⟨g, 0, none⟩) m.length c) m.length (m.flatMap PBox.cells)) (hg : w.grownBy w2 (some g)) (hc : c ≠ 0) : OwnBs w2 B E EM (some ⟨g, 0, none⟩) c m := by
  have hk : (m.map PBox.key).Perm (l.map PBox.key) := hp.map _
  have hft : foot (.slice (some ⟨g, 0, none⟩) l.length c) = some g := by simp [foot, hc]
  refine ⟨hrow, fun z hz => ?_, fun v hv => ?_, ?_⟩
  · have hz2 := hp.mem_iff.1 hz
    rw [← hft] at hg
    exact (h.msg z hz2).off hg (h.off _ (List.mem_map_of_mem hz2))
  · rw [hp.length_eq]; exact h.off v (hk.mem_iff.1 hv)
  · exact (hk.pairwise_iff (fun h => h.symm)).2 h.apart
theorem OwnBs.swapped {w : World} {B E EM g c j : Nat} {l : List PBox} (h : OwnBs w B E EM (some ⟨g, 0, none⟩) c l) (hc : c ≠ 0) (hj : 0 < j) (hl : j < l.length) :
    OwnBs (putW (putW w g (j * 4) l[j - 1].cells) g ((j - 1) * 4) l[j].cells) B E EM (some ⟨g, 0, none⟩) c (swapB l j) ∧ w.grownBy (putW (putW w g (j * 4) l[j - 1].cells) g ((j - 1) * 4) l[j].cells) (some g) := by
  obtain ⟨g', hg', hrow⟩ := h.row.row hc
  cases hg'
  obtain ⟨h1, g1⟩ := own_put l[j - 1].cells w (j * 4) _ hrow
  rw [putAt_flat PBox.cells_len l j hl] at h1
  obtain ⟨h2, g2⟩ := own_put l[j].cells _ ((j - 1) * 4) _ h1
  rw [putAt_flat PBox.cells_len _ (j - 1) (by simp; omega)] at h2
  have e : swapB l j = (l.set j l[j - 1]).set (j - 1) l[j] := by unfold swapB; rw [dif_pos ⟨hj, hl⟩]
  rw [← e] at h2
  exact ⟨h.perm (swapB_perm l j) (by rw [swapB_len]; exact Own.of_row h2) (grown_trans g1 g2) hc, grown_trans g1 g2⟩
end Go.Proofs.YtadjlfcdjkikgaaDoor

namespace Go.Proofs.YtadjlfcdjkikgaaDoor
open Go.RowKit
set_option linter.unusedVariables false
set_option linter.unusedSimpArgs false

theorem OwnBs.swapped2 {w : World} {B E EM g c j : Nat} {l : List PBox} (h : OwnBs w B E EM (some ⟨g, 0, none⟩) c l) (hc : c ≠ 0) (hj : 0 < j) (hl : j < l.length) :
    OwnBs (putW (putW w g ((j - 1) * 4) l[j].cells) g (j * 4) l[j - 1].cells) B E EM (some ⟨g, 0, none⟩) c (swapB l j) ∧ w.grownBy (putW (putW w g ((j - 1) * 4) l[j].cells) g (j * 4) l[j - 1].cells) (some g) := by
  obtain ⟨g', hg', hrow⟩ := h.row.row hc
  cases hg'
  obtain ⟨h1, g1⟩ := own_put l[j].cells w ((j - 1) * 4) _ hrow
  rw [putAt_flat PBox.cells_len l (j - 1) (by omega)] at h1
  obtain ⟨h2, g2⟩ := own_put l[j - 1].cells _ (j * 4) _ h1
  rw [putAt_flat PBox.cells_len _ j (by simp; omega)] at h2
  have e : swapB l j = (l.set (j - 1) l[j]).set j l[j - 1] := by
    unfold swapB; rw [dif_pos ⟨hj, hl⟩]
    exact List.set_comm _ _ (by omega)
  rw [← e] at h2
  exact ⟨h.perm (swapB_perm l j) (by rw [swapB_len]; exact Own.of_row h2) (grown_trans g1 g2) hc, grown_trans g1 g2⟩
theorem SortTo.mono {l : List PBox} {k n : Nat} (h : SortTo l k) (hn : n ≤ k) : SortTo l n := fun p q hpq hq hl hl' => h p q hpq (by omega) hl hl'
theorem SortTo.one (l : List PBox) : SortTo l 1 := fun p q hpq hq hl hl' => by omega

end Go.Proofs.YtadjlfcdjkikgaaDoor

namespace Go.Proofs.YtadjlfcdjkikgaaDoor
open Go.RowKit Go.Shelf
set_option linter.unusedVariables false
set_option linter.unusedSimpArgs false
set_option maxRecDepth 100000
def renF2 : Nat → Nat
  | 129 => 122
  | n => n
def renT2 : Nat → Nat
  | 3 => 3
  | 4 => 4
  | 5 => 5
  | 9 => 9
  | 46 => 66
  | 53 => 126
  | n => n
def ren2 : Ren := ⟨renF2, renT2, fun _ => 0⟩
theorem lays129 : Lays.n129 Tryd.prog ren2 where
  mixed := by kernel_rfl
  f129 := Tryd.func122
  t3 := by kernel_rfl
  a3 := fun w => by kernel_rfl
  z3 := fun w => by kernel_rfl
  v3 := fun w => by kernel_rfl
  t4 := by kernel_rfl
  a4 := fun w => by kernel_rfl
  z4 := fun w => by kernel_rfl
  v4 := fun w => by kernel_rfl
  t5 := by kernel_rfl
  a5 := fun w => by kernel_rfl
  z5 := fun w => by kernel_rfl
  v5 := fun w => by kernel_rfl
  t9 := by kernel_rfl
  a9 := fun w => by kernel_rfl
  z9 := fun w => by kernel_rfl
  v9 := fun w => by kernel_rfl
  t46 := by kernel_rfl
  a46 := fun w => by kernel_rfl
  z46 := fun w => by kernel_rfl
  v46 := fun w => by kernel_rfl
  t53 := by kernel_rfl
  a53 := fun w => by kernel_rfl
  z53 := fun w => by kernel_rfl
  v53 := fun w => by kernel_rfl

end Go.Proofs.YtadjlfcdjkikgaaDoor
