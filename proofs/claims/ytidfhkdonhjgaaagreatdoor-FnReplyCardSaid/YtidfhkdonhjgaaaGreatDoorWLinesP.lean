/-
  The lines of a text: cut at CR LF, what is whole: the plain law.
-/
import Derived.Lib.Split
namespace Go.Proofs.YtidfhkdonhjgaaaGreatDoor
open Go Go.Lib
set_option linter.unusedVariables false
set_option linter.unusedSimpArgs false

def crlfL : List UInt8 := [13, 10]
/-- the lines that are whole; acc: what of the line is read -/
def lnsL (acc : List UInt8) : List UInt8 → List (List UInt8)
  | [] => []
  | [_] => []
  | x :: y :: t => if x = 13 ∧ y = 10 then acc :: lnsL [] t else lnsL (acc ++ [x]) (y :: t)
theorem splitK_ne (sep : List UInt8) (save k : Nat) (s : List UInt8) : splitK sep save k s ≠ [] := by
  cases k with
  | zero => simp [splitK]
  | succ k => unfold splitK; split <;> simp
theorem split_miss {s : List UInt8} (h : index s crlfL = -1) : (split s crlfL).dropLast = [] := by
  unfold split; rw [count_miss h]; rfl
theorem split_hit {s : List UInt8} {i : Nat} (h : index s crlfL = i) : (split s crlfL).dropLast = s.take i :: (split (s.drop (i + 2)) crlfL).dropLast := by
  unfold split
  rw [count_hit (by decide) h, Nat.add_comm, splitK, h, if_neg (by simp)]
  rw [List.dropLast_cons_of_ne_nil (splitK_ne _ _ _ _)]
  simp [crlfL]
theorem split_lns : ∀ (n : Nat) (acc s : List UInt8), s.length ≤ n → NoOcc (acc ++ s) crlfL acc.length → (split (acc ++ s) crlfL).dropLast = lnsL acc s
  | _, acc, [], _, h => by
    rw [split_miss (index_past (by decide) h (by simp [crlfL]))]; rfl
  | _, acc, [x], _, h => by
    rw [split_miss (index_past (by decide) h (by simp [crlfL]))]; rfl
  | 0, acc, x :: y :: t, hn, h => by simp at hn
  | n + 1, acc, x :: y :: t, hn, h => by
    have hn' : t.length + 1 ≤ n := by simpa using hn
    unfold lnsL
    by_cases hxy : x = 13 ∧ y = 10
    · rw [if_pos hxy]
      obtain ⟨rfl, rfl⟩ := hxy
      rw [split_hit (i := acc.length) (index_hit h (by simp) (by simp [occAt, crlfL])), ← split_lns n [] t (by omega) (NoOcc.zero _ _)]
      have e : (acc ++ 13 :: 10 :: t).drop (acc.length + 2) = t := by rw [List.drop_append]; simp
      rw [e]; simp
    · rw [if_neg hxy]
      have e : acc ++ x :: y :: t = (acc ++ [x]) ++ (y :: t) := by simp
      rw [e]
      refine split_lns n (acc ++ [x]) (y :: t) (by simpa using hn') ?_
      have ho : occAt (acc ++ x :: y :: t) crlfL acc.length = false := by
        simp only [occAt, crlfL, List.drop_left, List.isPrefixOf, Bool.and_true]
        simp only [Bool.and_eq_false_iff, beq_eq_false_iff_ne]
        by_cases hx : x = 13
        · right; exact fun e => hxy ⟨hx, e.symm⟩
        · left; exact fun e => hx e.symm
      have := NoOcc.succ h ho
      rw [← e]; simpa using this
/-- the whole lines of a text -/
def lnB (s : ByteArray) : List ByteArray := (lnsL [] s.data.toList).map (fun l => ⟨l.toArray⟩)
def crlfB : ByteArray := ⟨#[13, 10]⟩
theorem splitB_lnB (s : ByteArray) : (splitB crlfB 0 (countB s crlfB) s).dropLast = lnB s := by
  have h1 := splitB_data crlfB 0 (countB s crlfB) s
  have h2 := split_lns _ [] s.data.toList (Nat.le_refl _) (NoOcc.zero _ _)
  rw [List.nil_append] at h2
  unfold lnB
  rw [← h2]
  have h3 : split s.data.toList crlfL = splitK crlfB.data.toList 0 (countB s crlfB) s.data.toList := rfl
  rw [h3, ← h1, ← List.map_dropLast, List.map_map]
  symm
  rw [show ((fun l => (⟨l.toArray⟩ : ByteArray)) ∘ fun x : ByteArray => x.data.toList) = id from by funext x; simp]
  simp
/-- lines of what is cut off are the first ones -/
theorem lnsL_append : ∀ (n : Nat) (acc a b : List UInt8), a.length ≤ n → lnsL acc a <+: lnsL acc (a ++ b)
  | _, acc, [], b, _ => by simp [lnsL]
  | _, acc, [x], b, _ => by simp [lnsL]
  | 0, acc, x :: y :: t, b, hn => by simp at hn
  | n + 1, acc, x :: y :: t, b, hn => by
    have hn' : t.length + 1 ≤ n := by simpa using hn
    simp only [List.cons_append]
    unfold lnsL
    by_cases hxy : x = 13 ∧ y = 10
    · rw [if_pos hxy, if_pos hxy]
      exact (List.prefix_cons_inj acc).2 (lnsL_append n [] t b (by omega))
    · rw [if_neg hxy, if_neg hxy]
      exact lnsL_append n (acc ++ [x]) (y :: t) b (by simpa using hn')
theorem lnB_take (s : ByteArray) (k : Nat) : lnB (s.extract 0 k) <+: lnB s := by
  have h := lnsL_append _ [] (s.data.toList.take k) (s.data.toList.drop k) (Nat.le_refl _)
  rw [List.take_append_drop] at h
  unfold lnB
  rw [extract_from_zero]
  exact h.map _
theorem lnsL_len : ∀ (n : Nat) (acc s : List UInt8), s.length ≤ n → (lnsL acc s).length ≤ s.length
  | _, acc, [], _ => by simp [lnsL]
  | _, acc, [x], _ => by simp [lnsL]
  | 0, acc, x :: y :: t, hn => by simp at hn
  | n + 1, acc, x :: y :: t, hn => by
    have hn' : t.length + 1 ≤ n := by simpa using hn
    unfold lnsL
    by_cases hxy : x = 13 ∧ y = 10
    · rw [if_pos hxy]; have := lnsL_len n [] t (by omega); simp; omega
    · rw [if_neg hxy]; have := lnsL_len n (acc ++ [x]) (y :: t) (by simpa using hn'); simp at this ⊢; omega
theorem lnB_len (s : ByteArray) : (lnB s).length ≤ s.size := by
  unfold lnB
  have h := lnsL_len _ [] s.data.toList (Nat.le_refl _)
  rw [List.length_map, size_eq]
  exact h
/-- the loop of the reference's LinesIn: out is done, the line that is being read began at f -/
def LnSt (s : ByteArray) (f k : Nat) (out : List ByteArray) : Prop := lnB s = out ++ (lnsL ((s.data.toList.take k).drop f) (s.data.toList.drop k)).map (fun l => (⟨l.toArray⟩ : ByteArray))
theorem lnSt_start (s : ByteArray) : LnSt s 0 0 [] := by simp [LnSt, lnB]
theorem drop_two {S : List UInt8} {k : Nat} (hk : k + 1 < S.length) : S.drop k = S[k] :: S[k + 1] :: S.drop (k + 2) := by
  rw [List.drop_eq_getElem_cons (by omega), List.drop_eq_getElem_cons hk]
theorem LnSt.hit {s : ByteArray} {f k : Nat} {out : List ByteArray} (h : LnSt s f k out) (hk : k + 1 < s.data.toList.length) (h1 : s.data.toList[k] = 13) (h2 : s.data.toList[k + 1] = 10) : LnSt s (k + 2) (k + 2) (out ++ [s.extract f k]) := by
  unfold LnSt at h ⊢
  rw [drop_two hk, lnsL, if_pos ⟨h1, h2⟩, List.map_cons] at h
  rw [h, List.append_assoc, List.singleton_append]
  have e : (⟨((s.data.toList.take k).drop f).toArray⟩ : ByteArray) = s.extract f k := by
    apply ByteArray.ext; apply Array.ext'; rw [extract_data]
    first | rfl | simp [List.drop_take]
  rw [e]
  have e2 : (s.data.toList.take (k + 2)).drop (k + 2) = [] := by simp
  rw [e2]
theorem LnSt.miss {s : ByteArray} {f k : Nat} {out : List ByteArray} (h : LnSt s f k out) (hf : f ≤ k) (hk : k + 1 < s.data.toList.length) (h1 : ¬ (s.data.toList[k] = 13 ∧ s.data.toList[k + 1] = 10)) : LnSt s f (k + 1) out := by
  unfold LnSt at h ⊢
  rw [drop_two hk, lnsL, if_neg h1] at h
  have e : (s.data.toList.take (k + 1)).drop f = (s.data.toList.take k).drop f ++ [s.data.toList[k]] := by
    rw [List.take_succ_eq_append_getElem (by omega), List.drop_append_of_le_length (by rw [List.length_take]; omega)]
  rw [e, List.drop_eq_getElem_cons hk]
  exact h
theorem LnSt.stop {s : ByteArray} {f k : Nat} {out : List ByteArray} (h : LnSt s f k out) (hk : s.data.toList.length ≤ k + 1) : lnB s = out := by
  unfold LnSt at h
  have : lnsL ((s.data.toList.take k).drop f) (s.data.toList.drop k) = [] := by
    match hd : s.data.toList.drop k with
    | [] => rfl
    | [_] => rfl
    | x :: y :: t => exact absurd (congrArg List.length hd) (by simp only [List.length_drop, List.length_cons]; omega)
  rw [this] at h; simpa using h
end Go.Proofs.YtidfhkdonhjgaaaGreatDoor
