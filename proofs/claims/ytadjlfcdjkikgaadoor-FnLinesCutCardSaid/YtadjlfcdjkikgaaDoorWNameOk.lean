/-
  Whether a mailbox's name is valid: the program's function and the reference's.
-/
import Derived.Test.YtadjlfcdjkikgaaDoorCSmall
import Derived.Test.YtadjlfcdjkikgaaDoorStrs
import Derived.Lib.Index
namespace Go.Proofs.YtadjlfcdjkikgaaDoor
open Go.RowKit
set_option linter.unusedVariables false
set_option linter.unusedSimpArgs false

theorem str_empty (s : ByteArray) : s.toList.isEmpty = decide (s = ⟨#[]⟩) := by
  rw [ByteArray.toList_eq]
  obtain ⟨⟨l⟩⟩ := s
  cases l <;> simp
/-- the letter number i -/
def cat (s : ByteArray) (i : Nat) : Nat := if h : i < s.size then s[i].toNat else 0
theorem cat_eq (s : ByteArray) (i : Nat) (h : i < s.size) : cat s i = s[i].toNat := by unfold cat; rw [dif_pos h]
/-- one letter of a name at its place -/
def LetterP (s : ByteArray) (i : Nat) : Prop := (cat s i = 47 → i ≠ 0 ∧ i ≠ s.size - 1 ∧ cat s (i - 1) ≠ 47) ∧ (cat s i ≠ 47 → 97 ≤ cat s i ∧ cat s i ≤ 122)
def NameP (s : ByteArray) : Prop := (∀ i, i < s.size → LetterP s i) ∧ 1 ≤ s.size ∧ s.size ≤ 12

theorem cat_47 (s : ByteArray) (i : Nat) : cat s i = 47 ↔ s.data.toList[i]? = some 47 := by
  unfold cat
  have hz : s.data.toList.length = s.size := by simp
  split
  · rename_i h
    have h2 : s.data.toList[i]? = some s[i] := by
      rw [List.getElem?_eq_getElem (by rw [hz]; exact h)]; rfl
    rw [h2]
    constructor
    · intro e; congr 1; exact UInt8.toNat_inj.1 e
    · intro e; have := Option.some.inj e; rw [this]; rfl
  · rename_i h
    rw [List.getElem?_eq_none (by rw [hz]; omega)]
    simp
theorem contains_two (l : List UInt8) : Lib.contains l [47, 47] = true ↔ ∃ i : Nat, l[i]? = some 47 ∧ l[i + 1]? = some 47 := by
  unfold Lib.contains
  induction l with
  | nil => simp [Lib.index]
  | cons b l ih =>
    have hge := Lib.index_ge l [47, 47]
    unfold Lib.index
    by_cases hp : [47, 47].isPrefixOf (b :: l) = true
    · rw [if_pos hp]
      simp only [decide_eq_true_eq]
      refine ⟨fun _ => ⟨0, ?_⟩, fun _ => by omega⟩
      cases l with
      | nil => simp [List.isPrefixOf] at hp
      | cons c l => simp [List.isPrefixOf] at hp; simp [← hp.1, ← hp.2]
    · rw [if_neg hp]
      have h2 : (decide (0 ≤ (if Lib.index l [47, 47] == -1 then (-1 : Int) else Lib.index l [47, 47] + 1))) = decide (0 ≤ Lib.index l [47, 47]) := by
        by_cases h : Lib.index l [47, 47] = -1
        · simp [h]
        · rw [if_neg (by simpa using h)]
          simp; omega
      rw [h2, ih]
      constructor
      · rintro ⟨i, h1, h2⟩; exact ⟨i + 1, by simpa using h1, by simpa using h2⟩
      · rintro ⟨i, h1, h2⟩
        cases i with
        | zero =>
          exfalso; apply hp
          cases l with
          | nil => simp at h2
          | cons c l => simp at h1 h2; simp [List.isPrefixOf, h1, h2]
        | succ i => exact ⟨i, by simpa using h1, by simpa using h2⟩

set_option maxHeartbeats 1000000 in
theorem specNameOk_any (s : ByteArray) (w : World) (hs : s.size ≤ 9223372036854775807) (r : Bool) (Hr : Hid (Tells r (NameP s))) :
    Calls Tryd.prog 48 #[.string s] w fun e w' => e = .returned (.bool r) ∧ w' = w := by
  go_enter Tryd.func48, Tryd.ntmps48
  go_wp2_with fail
  go_loop [3] (fun i => ∃ k : Nat, k ≤ s.size ∧ i = .int .i64 k ∧ Hid (∀ j, j < k → LetterP s j)) (fun i => s.size - (intOf i).toNat)
  case atStart => exact ⟨0, Nat.zero_le _, rfl, by simp [Hid]⟩
  case round =>
    obtain ⟨k, hk, rfl, HP⟩ := hrel
    by_cases hlt : k < s.size
    · have hk1 : (k : Int) < (s.size : Int) := by omega
      have HC : Hid (cat s k = s[k].toNat ∧ (1 ≤ k → cat s (k - 1) = s[k - 1].toNat)) := ⟨cat_eq s k hlt, fun _ => cat_eq s (k - 1) (by omega)⟩
      go_wp2_with fail
      all_goals first
        | go_ret
        | go_round
      all_goals have hC := HC.out
      all_goals try simp only [beq_iff_eq, beq_eq_false_iff_ne, ne_eq] at *
      all_goals first
        | (refine ⟨ret_no Hr.out (fun hn => ?_), (by first | rfl | trivial)⟩; have hL := hn.1 _ hlt; unfold LetterP at hL; omega)
        | (refine ⟨k + 1, ?_, ?_, fun j hj => ?_⟩; omega; go_num; rcases Nat.lt_or_ge j k with h | h; exact HP.out j h; obtain rfl : j = k := (by omega); unfold LetterP; omega)
        | (simp [intOf]; omega)
    · obtain ⟨d, hd⟩ := boolOf ((1 : Int) ≤ (s.size : Int) ∧ (s.size : Int) ≤ 12)
      have HD := Lib.hid hd
      clear hd
      go_wp2_with ((go_at_call 43; refine (l1In_any _ _ _ _ d HD).mono ?_; rintro e w1 ⟨rfl, rfl⟩))
      go_ret
      refine ⟨ret_bool ?_, rfl⟩
      have hp : ∀ j, j < s.size → LetterP s j := fun j hj => HP.out j (by omega)
      cases d
      · exact (Hr.out.eq_false (fun hn => no_of HD.out ⟨by have := hn.2.1; omega, by have := hn.2.2; omega⟩)).symm
      · have h := yes_of HD.out
        exact (Hr.out.eq_true ⟨hp, by omega, by omega⟩).symm
/-- what the program's own loop asks of a letter -/
def LetP (s : ByteArray) (i : Nat) : Prop := cat s i ≠ 47 → 97 ≤ cat s i ∧ cat s i ≤ 122
theorem nameP_iff (s : ByteArray) (hp : ∀ i, i < s.size → LetP s i) (h1 : 1 ≤ s.size) (h2 : s.size ≤ 12) (q : Bool) (hq : Lib.contains s.data.toList [47, 47] = q) : NameP s ↔ cat s 0 ≠ 47 ∧ cat s (s.size - 1) ≠ 47 ∧ q = false := by
  have hcon := contains_two s.data.toList
  simp only [← cat_47] at hcon
  rw [hq] at hcon
  constructor
  · intro hn
    refine ⟨fun e => ((hn.1 0 (by omega)).1 e).1 rfl, fun e => ((hn.1 _ (by omega)).1 e).2.1 rfl, ?_⟩
    cases q with
    | false => rfl
    | true =>
      obtain ⟨i, hi, hj⟩ := hcon.1 rfl
      have hlt : i + 1 < s.size := by
        apply Nat.lt_of_not_le; intro h
        unfold cat at hj; rw [dif_neg (by omega)] at hj; cases hj
      exact ((((hn.1 (i + 1) hlt).1 hj).2.2) hi).elim
  · rintro ⟨ha, hb, hc⟩
    refine ⟨fun i hi => ⟨fun e => ⟨fun h0 => ha (h0 ▸ e), fun h0 => hb (h0 ▸ e), fun hm => ?_⟩, hp i hi⟩, h1, h2⟩
    have : q = true := hcon.2 ⟨i - 1, hm, by
      have : i - 1 + 1 = i := by
        have : i ≠ 0 := fun h0 => ha (h0 ▸ e)
        omega
      rw [this]; exact e⟩
    rw [hc] at this; cases this
theorem nameP_imp (s : ByteArray) (h : NameP s) : (∀ i, i < s.size → LetP s i) ∧ 1 ≤ s.size ∧ s.size ≤ 12 := ⟨fun i hi => (h.1 i hi).2, h.2⟩

set_option maxHeartbeats 1000000 in
theorem implNameOk_any (s : ByteArray) (w : World) (hm : MaxLen w) (hs : s.size ≤ 9223372036854775807) (r : Bool) (Hr : Hid (Tells r (NameP s))) :
    Calls Tryd.prog 56 #[.string s] w fun e w' => e = .returned (.bool r) ∧ w' = w := by
  go_enter Tryd.func56, Tryd.ntmps56
  go_wp2_with fail
  go_loop [6] (fun i => ∃ k : Nat, k ≤ s.size ∧ i = .int .i64 k ∧ Hid (∀ j, j < k → LetP s j)) (fun i => s.size - (intOf i).toNat)
  case atStart => exact ⟨0, Nat.zero_le _, rfl, by simp [Hid]⟩
  case round =>
    obtain ⟨k, hk, rfl, HP⟩ := hrel
    by_cases hlt : k < s.size
    · have hk1 : (k : Int) < (s.size : Int) := by omega
      have HC : Hid (cat s k = s[k].toNat) := cat_eq s k hlt
      go_wp2_with fail
      all_goals first
        | go_ret
        | go_round
      all_goals have hC := HC.out
      all_goals try simp only [beq_iff_eq, beq_eq_false_iff_ne, bne_iff_ne, bne_eq_false_iff_eq, ne_eq] at *
      all_goals first
        | (refine ⟨ret_no Hr.out (fun hn => ?_), (by first | rfl | trivial)⟩; have hL := (nameP_imp s hn).1 _ hlt; unfold LetP at hL; omega)
        | (refine ⟨k + 1, ?_, ?_, fun j hj => ?_⟩; omega; go_num; rcases Nat.lt_or_ge j k with h | h; exact HP.out j h; obtain rfl : j = k := (by omega); unfold LetP; omega)
        | (simp [intOf]; omega)
    · obtain ⟨d, hd⟩ := boolOf ((1 : Int) ≤ (s.size : Int) ∧ (s.size : Int) ≤ 12)
      have HD := Lib.hid hd
      clear hd
      have hp : Hid (∀ j, j < s.size → LetP s j) := fun j hj => HP.out j (by omega)
      have HM := Lib.hid hm
      clear hm
      cases d
      · go_wp2_with ((go_at_call 53; refine (within_any _ _ _ _ false HD).mono ?_; rintro e w1 ⟨rfl, rfl⟩))
        go_ret
        exact ⟨ret_no Hr.out (fun hn => no_of HD.out ⟨by have := hn.2.1; omega, by have := hn.2.2; omega⟩), rfl⟩
      · have hy := yes_of HD.out
        have hy1 : 1 ≤ s.size := by omega
        have hy2 : s.size ≤ 12 := by omega
        clear hy
        have HC : Hid (cat s 0 = s[0].toNat ∧ cat s (s.size - 1) = s[s.size - 1].toNat) := ⟨cat_eq s 0 (by omega), cat_eq s _ (by omega)⟩
        obtain ⟨q, hq⟩ : ∃ q, Lib.contains s.data.toList [47, 47] = q := ⟨_, rfl⟩
        have HQ := Lib.hid hq
        clear hq
        go_wp2_with (first | (go_at_call 53; refine (within_any _ _ _ _ true HD).mono ?_; rintro e w1 ⟨rfl, rfl⟩) | (go_at_call 70; refine (contains_any s _ _ HM.out (by omega)).mono ?_; rintro e w1 ⟨rfl, rfl⟩; rw [HQ.out]))
        all_goals go_ret
        all_goals refine ⟨ret_bool ?_, rfl⟩
        all_goals (have hI := nameP_iff s hp.out hy1 hy2 q HQ.out; have hC := HC.out)
        all_goals try simp only [beq_iff_eq, beq_eq_false_iff_ne, bne_iff_ne, bne_eq_false_iff_eq, ne_eq] at *
        all_goals cases q
        all_goals simp at hI ⊢
        all_goals first
          | exact (Hr.out.eq_true (hI.2 (by omega))).symm
          | exact Hr.out.eq_true (hI.2 (by omega))
          | exact (Hr.out.eq_false (fun hn => by have := hI.1 hn; omega)).symm
          | exact Hr.out.eq_false (fun hn => by have := hI.1 hn; omega)
          | exact (Hr.out.eq_false hI).symm
          | exact Hr.out.eq_false hI
          | (rw [Hr.out.eq_true (hI.2 (by omega))]; simp; omega)
end Go.Proofs.YtadjlfcdjkikgaaDoor
