/-
  Mailboxes put in the order of their names by the library's SortFunc.
-/
import Derived.Test.YtdigkaddmpdeoaaWBoxesOk
import Derived.Test.YtdigkaddmpdeoaaMarkBoxS
import Derived.Deep.RegionLaw
namespace Go.Proofs.Ytdigkaddmpdeoaa
open Go.RowKit
set_option linter.unusedVariables false
set_option linter.unusedSimpArgs false

theorem less_trans : ∀ a b c : List UInt8, Op.bytesLess a b = true → Op.bytesLess b c = true → Op.bytesLess a c = true
  | _, [], _, h, _ => by simp [Op.bytesLess] at h
  | [], _ :: _, [], _, h => by simp [Op.bytesLess] at h
  | _ :: _, _ :: _, [], _, h => by simp [Op.bytesLess] at h
  | [], _ :: _, _ :: _, _, _ => by simp [Op.bytesLess]
  | a :: x, b :: y, c :: z, h1, h2 => by
    have ih := less_trans x y z
    simp only [Op.bytesLess, Bool.or_eq_true, Bool.and_eq_true, decide_eq_true_eq, beq_iff_eq] at h1 h2 ⊢
    rcases h1 with h1 | ⟨rfl, h1⟩
    · rcases h2 with h2 | ⟨rfl, h2⟩
      · exact Or.inl (UInt8.lt_trans h1 h2)
      · exact Or.inl h1
    · rcases h2 with h2 | ⟨rfl, h2⟩
      · exact Or.inl h2
      · exact Or.inr ⟨rfl, ih h1 h2⟩
theorem nameLt_trans {a b c : ByteArray} (h1 : nameLt a b = true) (h2 : nameLt b c = true) : nameLt a c = true := less_trans _ _ _ h1 h2
theorem nameLt_total (a b : ByteArray) : nameLt a b = !(nameLt b a || b.toList == a.toList) := less_total a.toList b.toList
theorem nameLt_asymm {a b : ByteArray} (h : nameLt a b = true) : nameLt b a = false := by
  rw [nameLt_total a b] at h
  cases hb : nameLt b a with
  | false => rfl
  | true => rw [hb] at h; simp at h
/-- what is not less and not less again -/
theorem nameLe_trans {a b c : ByteArray} (h1 : nameLt b a = false) (h2 : nameLt c b = false) : nameLt c a = false := by
  cases h : nameLt c a with
  | false => rfl
  | true =>
    rw [nameLt_total b a] at h1
    simp only [Bool.not_eq_false', Bool.or_eq_true] at h1
    rcases h1 with h1 | h1
    · rw [nameLt_trans h h1] at h2; cases h2
    · have e : a.toList = b.toList := by simpa using h1
      have : nameLt c b = nameLt c a := by unfold nameLt; rw [e]
      rw [this, h] at h2; cases h2
def cmpZ (a b : ByteArray) : Int := if nameLt a b = true then -1 else if nameLt b a = true then 1 else 0
theorem cmpZ_lt (a b : ByteArray) : decide (cmpZ a b < 0) = nameLt a b := by
  unfold cmpZ
  cases nameLt a b with
  | true => simp
  | false => cases nameLt b a <;> simp
/-- in order ahead of k -/
def SortTo (l : List PBox) (k : Nat) : Prop := ∀ p q, p < q → q < k → ∀ (h : q < l.length) (h' : p < l.length), nameLt l[q].name l[p].name = false
/-- in order up to k, but for what stands ahead of place j and the one at j -/
def InsTo (l : List PBox) (j k : Nat) : Prop := ∀ p q, p < q → q ≤ k → q ≠ j → ∀ (h : q < l.length) (h' : p < l.length), nameLt l[q].name l[p].name = false
theorem InsTo.start {l : List PBox} {k : Nat} (h : SortTo l k) : InsTo l k k := fun p q hpq hq hne hl hl' => h p q hpq (by omega) hl hl'
theorem InsTo.zero {l : List PBox} {k : Nat} (h : InsTo l 0 k) : SortTo l (k + 1) := fun p q hpq hq hl hl' => h p q hpq (by omega) (by omega) hl hl'
theorem InsTo.stop {l : List PBox} {j k : Nat} (hj : 0 < j) (hl1 : j < l.length) (h : InsTo l j k) (hs : nameLt l[j].name l[j - 1].name = false) : SortTo l (k + 1) := fun p q hpq hq hl hl' => by
  by_cases e : q = j
  · subst e
    by_cases e2 : p = q - 1
    · subst e2; exact hs
    · exact nameLe_trans (h p (q - 1) (by omega) (by omega) (by omega) (by omega) hl') hs
  · exact h p q hpq (by omega) e hl hl'
def swapB (l : List PBox) (j : Nat) : List PBox := if h : 0 < j ∧ j < l.length then (l.set j (l[j - 1]'(by omega))).set (j - 1) (l[j]'h.2) else l
theorem swapB_len (l : List PBox) (j : Nat) : (swapB l j).length = l.length := by unfold swapB; split <;> simp
theorem swapB_get {l : List PBox} {j i : Nat} (hj : 0 < j) (hl : j < l.length) (hi : i < l.length) (hi' : i < (swapB l j).length) : (swapB l j)[i] = if i = j - 1 then l[j] else if i = j then l[j - 1] else l[i] := by
  have e : swapB l j = (l.set j l[j - 1]).set (j - 1) l[j] := by unfold swapB; rw [dif_pos ⟨hj, hl⟩]
  simp only [e, List.getElem_set]
  by_cases h1 : i = j - 1
  · rw [if_pos h1.symm, if_pos h1]
  · rw [if_neg (fun h => h1 h.symm), if_neg h1]
    by_cases h2 : i = j
    · rw [if_pos h2.symm, if_pos h2]
    · rw [if_neg (fun h => h2 h.symm), if_neg h2]
theorem InsTo.swap {l : List PBox} {j k : Nat} (hj : 0 < j) (hl1 : j < l.length) (h : InsTo l j k) (hjk : j ≤ k) (hs : nameLt l[j].name l[j - 1].name = true) : InsTo (swapB l j) (j - 1) k := fun p q hpq hq hne hl hl' => by
  have hq' : q < l.length := by rw [← swapB_len l j]; exact hl
  have hp' : p < l.length := by omega
  rw [swapB_get hj hl1 hq' hl, swapB_get hj hl1 hp' hl', if_neg hne]
  by_cases e : q = j
  · rw [if_pos e]
    by_cases e2 : p = j - 1
    · rw [if_pos e2]; exact nameLt_asymm hs
    · rw [if_neg e2, if_neg (by omega)]; exact h p (j - 1) (by omega) (by omega) (by omega) (by omega) hp'
  · rw [if_neg e]
    by_cases e2 : p = j - 1
    · rw [if_pos e2]; exact h j q (by omega) hq e hq' hl1
    · rw [if_neg e2]
      by_cases e3 : p = j
      · rw [if_pos e3]; exact h (j - 1) q (by omega) hq e hq' (by omega)
      · rw [if_neg e3]; exact h p q hpq hq e hq' hp'
theorem swapB_perm (l : List PBox) (j : Nat) : (swapB l j).Perm l := by
  unfold swapB
  split
  · rename_i h
    exact List.set_set_perm h.2 (by omega)
  · exact List.Perm.refl _

set_option maxHeartbeats 1000000 in
theorem isNaN_any (s : ByteArray) (w : World) : Calls Try.prog 121 #[.string s] w fun e w' => e = .returned (.bool false) ∧ w' = w := by
  have h1 : (!(s.toList == s.toList)) = false := by simp
  go_enter Try.func121, Try.ntmps121
  go_wp2
  go_ret
  exact ⟨rfl, rfl⟩
set_option maxHeartbeats 1000000 in
theorem cmpStr_any (a b : ByteArray) (w : World) : Calls Try.prog 105 #[.string a, .string b] w fun e w' => e = .returned (.int .i64 (cmpZ a b)) ∧ w' = w := by
  have hg : (!(Op.bytesLess a.toList b.toList || (a.toList == b.toList))) = nameLt b a := by rw [nameLt_total b a]; rfl
  cases h1 : nameLt a b with
  | true =>
    have h2 : Op.bytesLess a.toList b.toList = true := h1
    go_enter Try.func105, Try.ntmps105
    go_wp2_with ((go_at_call 121; refine (isNaN_any _ _).mono ?_; rintro e wx ⟨rfl, hwx⟩; subst wx))
    go_ret
    exact ⟨ret_int (by simp [cmpZ, h1]), rfl⟩
  | false =>
    have h2 : Op.bytesLess a.toList b.toList = false := h1
    rw [h2] at hg
    cases h3 : nameLt b a with
    | true =>
      rw [h3] at hg
      have h4 : (a.toList == b.toList) = false := by simpa using hg
      go_enter Try.func105, Try.ntmps105
      go_wp2_with ((go_at_call 121; refine (isNaN_any _ _).mono ?_; rintro e wx ⟨rfl, hwx⟩; subst wx))
      go_ret
      exact ⟨ret_int (by simp [cmpZ, h1, h3]), rfl⟩
    | false =>
      rw [h3] at hg
      have h4 : (a.toList == b.toList) = true := by simpa using hg
      go_enter Try.func105, Try.ntmps105
      go_wp2_with ((go_at_call 121; refine (isNaN_any _ _).mono ?_; rintro e wx ⟨rfl, hwx⟩; subst wx))
      go_ret
      exact ⟨ret_int (by simp [cmpZ, h1, h3]), rfl⟩
set_option maxHeartbeats 1000000 in
theorem cmpBox_any (x y : PBox) (w : World) : Calls Try.prog 104 #[.agg #[.string x.name, .int .i64 x.validity, .int .i64 x.next, .slice x.ma x.msgs.length x.mc], .agg #[.string y.name, .int .i64 y.validity, .int .i64 y.next, .slice y.ma y.msgs.length y.mc]] w fun e w' => e = .returned (.int .i64 (cmpZ x.name y.name)) ∧ Ext w w' := by
  go_enter Try.func104, Try.ntmps104
  go_wp2_with ((go_at_call 105; refine (cmpStr_any _ _ _).mono ?_; rintro e wx ⟨rfl, hwx⟩; subst wx))
  go_ret
  exact ⟨rfl, by repeat' (first | with_reducible exact Below.refl _ _ | with_reducible assumption | with_reducible refine Below.alloc ?_ ?_ _ | with_reducible refine Below.setCell ?_ ?_ _ | with_reducible refine Below.drew ?_ | with_reducible refine Below.drewN ?_ _ | with_reducible refine Below.ext ?_ (by assumption) | (simp <;> omega) | omega)⟩

theorem OwnBs.perm {w w2 : World} {B E EM g c : Nat} {l m : List PBox} (h : OwnBs w B E EM (some ⟨g, 0, none⟩) c l) (hp : m.Perm l) (hrow : Own w2 B E 4 (.slice (some ⟨g, 0, none⟩) m.length c) m.length (m.flatMap PBox.cells)) (hg : w.grownBy w2 (some g)) (hc : c ≠ 0) : OwnBs w2 B E EM (some ⟨g, 0, none⟩) c m := by
  have hk : (m.map PBox.key).Perm (l.map PBox.key) := hp.map _
  have hft : foot (.slice (some ⟨g, 0, none⟩) l.length c) = some g := by simp [foot, hc]
  refine ⟨hrow, fun z hz => ?_, fun v hv => ?_, ?_⟩
  · have hz2 := hp.mem_iff.1 hz
    rw [← hft] at hg
    exact (h.msg z hz2).off hg (h.off _ (List.mem_map_of_mem hz2))
  · rw [hp.length_eq]; exact h.off v (hk.mem_iff.1 hv)
  · exact (hk.pairwise_iff (fun h => h.symm)).2 h.apart
theorem OwnBs.swapped {w : World} {B E EM g c j : Nat} {l : List PBox} (h : OwnBs w B E EM (some ⟨g, 0, none⟩) c l) (hc : c ≠ 0) (hj : 0 < j) (hl : j < l.length) :
    OwnBs (putW (putW w g (j * 4) l[j - 1].cells) g ((j - 1) * 4) l[j].cells) B E EM (some ⟨g, 0, none⟩) c (swapB l j) ∧ w.grownBy (putW (putW w g (j * 4) l[j - 1].cells) g ((j - 1) * 4) l[j].cells) (some g) := by
  obtain ⟨g', hg', hrow⟩ := h.row.row hc
  cases hg'
  obtain ⟨h1, g1⟩ := own_put l[j - 1].cells w (j * 4) _ hrow
  rw [putAt_flat PBox.cells_len l j hl] at h1
  obtain ⟨h2, g2⟩ := own_put l[j].cells _ ((j - 1) * 4) _ h1
  rw [putAt_flat PBox.cells_len _ (j - 1) (by simp; omega)] at h2
  have e : swapB l j = (l.set j l[j - 1]).set (j - 1) l[j] := by unfold swapB; rw [dif_pos ⟨hj, hl⟩]
  rw [← e] at h2
  exact ⟨h.perm (swapB_perm l j) (by rw [swapB_len]; exact Own.of_row h2) (grown_trans g1 g2) hc, grown_trans g1 g2⟩
end Go.Proofs.Ytdigkaddmpdeoaa
