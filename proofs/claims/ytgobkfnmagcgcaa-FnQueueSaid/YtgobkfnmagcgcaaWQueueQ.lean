/-
  A queue stays valid behind a note and behind a dropped one: the plain law.
-/
import Derived.Test.YtgobkfnmagcgcaaWPushNote
import Derived.Test.YtgobkfnmagcgcaaWDropNote
import Derived.Test.YtgobkfnmagcgcaaWFirstNote
namespace Go.Proofs.Ytgobkfnmagcgcaa
open Go.RowKit
set_option linter.unusedVariables false
set_option linter.unusedSimpArgs false

def NR (x y : DNote) : Prop := (y.kind = 1 → boxIn y.n x = false) ∧ (y.kind = 2 → statusIn y.name x = false)
def QueueQ (l : List DNote) (rb rc : Bool) : Prop := (∀ x ∈ l, NoteP x ∧ (x.kind = 1 → rb = false) ∧ (x.kind ≠ 1 → rc = false)) ∧ l.Pairwise NR ∧ l.length ≤ 6
theorem queue_iff (l : List DNote) (rb rc : Bool) : QueueP l rb rc ↔ QueueQ l rb rc := by
  constructor
  · rintro ⟨h, hl⟩
    refine ⟨fun x hx => ?_, List.pairwise_iff_getElem.2 fun i j hi hj hij => ?_, hl⟩
    · obtain ⟨i, hi, rfl⟩ := List.getElem_of_mem hx
      obtain ⟨_, h1, h2, h3, _⟩ := h i hi
      exact ⟨h1, fun k => (h2 k).1, h3⟩
    · obtain ⟨_, h1, h2, h3, h4⟩ := h j hj
      have hm : l[i] ∈ l.take j := by
        have h5 : i < (l.take j).length := by simp; omega
        have := List.getElem_mem h5
        simpa using this
      refine ⟨fun k => ?_, fun k => ?_⟩
      · have := (h2 k).2
        rw [List.any_eq_false] at this
        simpa using this _ hm
      · have := h4 k
        rw [List.any_eq_false] at this
        simpa using this _ hm
  · rintro ⟨h, hp, hl⟩
    have hp' := List.pairwise_iff_getElem.1 hp
    have ha : ∀ (f : DNote → Bool) (i : Nat) (hi : i < l.length), (∀ j (hj : j < i), f l[j] = false) → (l.take i).any f = false := fun f i hi hf => by
      rw [List.any_eq_false]
      intro x hx
      obtain ⟨j, hj, rfl⟩ := List.getElem_of_mem hx
      have hj' : j < i := by simp at hj; omega
      simp [hf j hj']
    refine ⟨fun i hi => ⟨hi, (h _ (List.getElem_mem hi)).1, fun k => ⟨(h _ (List.getElem_mem hi)).2.1 k, ha _ i hi fun j hj => (hp' j i (by omega) hi hj).1 k⟩, (h _ (List.getElem_mem hi)).2.2, fun k => ha _ i hi fun j hj => (hp' j i (by omega) hi hj).2 k⟩, hl⟩

theorem queue_sub {l k : List DNote} {rb rc : Bool} (h : QueueP l rb rc) (hs : k.Sublist l) : QueueP k rb rc := by
  rw [queue_iff] at h ⊢
  exact ⟨fun x hx => h.1 x (hs.subset hx), h.2.1.sublist hs, Nat.le_trans hs.length_le h.2.2⟩
theorem queue_add {l : List DNote} {rb rc : Bool} {n : DNote} (h : QueueP l rb rc) (hn : NoteP n) (h1 : n.kind = 1 → rb = false ∧ l.any (boxIn n.n) = false) (h2 : n.kind ≠ 1 → rc = false) (h3 : n.kind = 2 → l.any (statusIn n.name) = false) (hl : l.length ≠ 6) : QueueP (l ++ [n]) rb rc := by
  rw [queue_iff] at h ⊢
  refine ⟨fun x hx => ?_, ?_, by have := h.2.2; simp; omega⟩
  · rcases List.mem_append.1 hx with hx | hx
    · exact h.1 x hx
    · obtain rfl : x = n := by simpa using hx
      exact ⟨hn, fun k => (h1 k).1, h2⟩
  · rw [List.pairwise_append]
    refine ⟨h.2.1, by simp, fun x hx y hy => ?_⟩
    obtain rfl : y = n := by simpa using hy
    refine ⟨fun k => ?_, fun k => ?_⟩
    · have := (h1 k).2
      rw [List.any_eq_false] at this
      simpa using this x hx
    · have := h3 k
      rw [List.any_eq_false] at this
      simpa using this x hx
theorem set_last {α : Type} (l : List α) (n : α) (h : 0 < l.length) : l.set (l.length - 1) n = l.take (l.length - 1) ++ [n] := by
  rw [List.set_eq_take_append_cons_drop, if_pos (by omega), show l.length - 1 + 1 = l.length from by omega, List.drop_length]
theorem queue_set {l : List DNote} {rb rc : Bool} {n : DNote} (h : QueueP l rb rc) (hn : NoteP n) (hk : n.kind = 1) (hr : rb = false) (ha : l.any (boxIn n.n) = false) (hl : 0 < l.length) : QueueP (l.set (l.length - 1) n) rb rc := by
  rw [set_last l n hl]
  have hs : (l.take (l.length - 1)).Sublist l := List.take_sublist _ _
  refine queue_add (queue_sub h hs) hn (fun _ => ⟨hr, ?_⟩) (fun k => (k hk).elim) (fun k => by omega) (by have := h.2; simp; omega)
  rw [List.any_eq_false] at ha ⊢
  exact fun x hx => ha x (hs.subset hx)
theorem queue_only {l : List DNote} {rb rc b : Bool} (h : QueueP l rb rc) : QueueP (l.filter (onlyIs b)) (if b then rb else true) (if b then true else rc) := by
  have h0 := queue_sub h (List.filter_sublist (p := onlyIs b) (l := l))
  rw [queue_iff] at h0 ⊢
  refine ⟨fun x hx => ?_, h0.2.1, h0.2.2⟩
  have hb : (x.kind == 1) = b := by
    have := (List.mem_filter.1 hx).2
    unfold onlyIs at this
    simpa using this
  obtain ⟨h1, h2, h3⟩ := h0.1 x hx
  refine ⟨h1, fun k => ?_, fun k => ?_⟩
  · have : b = true := by rw [← hb]; simp [k]
    rw [if_pos this]; exact h2 k
  · have : b = false := by rw [← hb]; simp [k]
    subst this
    exact h3 k
/-- a queue behind a note is valid, and remembers what it lost -/
theorem pushQ_ok {l : List DNote} {rb rc : Bool} (n : DNote) (h : QueueP l rb rc) : QueueP (pushQ l rb rc n).notes (pushQ l rb rc n).resync (pushQ l rb rc n).lost ∧ (rb = true → (pushQ l rb rc n).resync = true) ∧ (rc = true → (pushQ l rb rc n).lost = true) := by
  unfold pushQ
  rw [if_neg (by simpa using h)]
  by_cases hn : NoteP n
  · rw [if_neg (by simpa using hn)]
    by_cases hk : n.kind = 1
    · rw [if_pos hk]
      by_cases h1 : l.any (boxIn n.n) = true
      · rw [if_pos h1]; exact ⟨h, id, id⟩
      · rw [if_neg h1]
        have h1' : l.any (boxIn n.n) = false := by simpa using h1
        by_cases h2 : rb = true
        · rw [if_pos h2]; exact ⟨h, id, id⟩
        · rw [if_neg h2]
          have h2' : rb = false := by simpa using h2
          by_cases h3 : lastIs l n
          · rw [if_pos h3]; exact ⟨queue_set h hn hk h2' h1' h3.1, id, id⟩
          · rw [if_neg h3]
            by_cases h4 : l.length = 6
            · rw [if_pos h4]
              exact ⟨queue_only (b := false) h, fun _ => rfl, id⟩
            · rw [if_neg h4]
              exact ⟨queue_add h hn (fun _ => ⟨h2', h1'⟩) (fun k => (k hk).elim) (fun k => by omega) h4, id, id⟩
    · rw [if_neg hk]
      by_cases h2 : rc = true
      · rw [if_pos h2]; exact ⟨h, id, id⟩
      · rw [if_neg h2]
        have h2' : rc = false := by simpa using h2
        by_cases h3 : n.kind = 2 ∧ l.any (statusIn n.name) = true
        · rw [if_pos h3]; exact ⟨h, id, id⟩
        · rw [if_neg h3]
          by_cases h4 : l.length = 6
          · rw [if_pos h4]
            exact ⟨queue_only (b := true) h, id, fun _ => rfl⟩
          · rw [if_neg h4]
            exact ⟨queue_add h hn (fun k => (hk k).elim) (fun _ => h2') (fun k => by
              cases ha : l.any (statusIn n.name) with
              | false => rfl
              | true => exact (h3 ⟨k, ha⟩).elim) h4, id, id⟩
  · rw [if_pos (by simpa using hn)]; exact ⟨h, id, id⟩
/-- the note is there, or its loss is said -/
theorem pushQ_met {l : List DNote} {rb rc : Bool} {n : DNote} (h : QueueP l rb rc) (hn : NoteP n) :
    n ∈ (pushQ l rb rc n).notes ∨ (n.kind = 1 ∧ ((pushQ l rb rc n).resync = true ∨ pushQ l rb rc n = ⟨l, rb, rc⟩)) ∨ (n.kind ≠ 1 ∧ ((pushQ l rb rc n).lost = true ∨ pushQ l rb rc n = ⟨l, rb, rc⟩)) := by
  unfold pushQ
  rw [if_neg (by simpa using h), if_neg (by simpa using hn)]
  by_cases hk : n.kind = 1
  · rw [if_pos hk]
    repeat' split
    · exact Or.inr (Or.inl ⟨hk, Or.inr rfl⟩)
    · exact Or.inr (Or.inl ⟨hk, Or.inr rfl⟩)
    · rename_i h3
      left
      rw [set_last l n h3.1]; simp
    · exact Or.inr (Or.inl ⟨hk, Or.inl rfl⟩)
    · left; simp
  · rw [if_neg hk]
    repeat' split
    · exact Or.inr (Or.inr ⟨hk, Or.inr rfl⟩)
    · exact Or.inr (Or.inr ⟨hk, Or.inr rfl⟩)
    · exact Or.inr (Or.inr ⟨hk, Or.inl rfl⟩)
    · left; simp
theorem pushQ_bad {l : List DNote} {rb rc : Bool} {n : DNote} (h : ¬ (QueueP l rb rc ∧ NoteP n)) : pushQ l rb rc n = ⟨l, rb, rc⟩ := by
  unfold pushQ
  by_cases h1 : QueueP l rb rc
  · rw [if_neg (by simpa using h1), if_pos (fun h2 => h ⟨h1, h2⟩)]
  · rw [if_pos h1]
theorem dropN_ok {l : List DNote} {rb rc : Bool} {i : Int} (h : QueueP l rb rc) : QueueP (dropN l i) rb rc := by
  unfold dropN
  split
  · exact queue_sub h (List.eraseIdx_sublist _ _)
  · exact h
theorem dropN_sub {l : List DNote} {i : Int} {y : DNote} (h : y ∈ dropN l i) : y ∈ l := by
  unfold dropN at h
  split at h
  · exact (List.eraseIdx_sublist _ _).subset h
  · exact h
theorem dropN_in {l : List DNote} {i : Int} (h0 : 0 ≤ i) (h1 : i < l.length) : (dropN l i).length = l.length - 1 := by
  unfold dropN
  rw [if_pos ⟨h0, by omega⟩, List.length_eraseIdx, if_pos (by omega)]
theorem dropN_out {l : List DNote} {i : Int} (h : ¬ (0 ≤ i ∧ i < l.length)) : dropN l i = l := by
  unfold dropN
  rw [if_neg (fun h2 => h ⟨h2.1, by omega⟩)]
theorem firstNote_all (l : List DNote) : firstNote true true l = if l.length = 0 then -1 else 0 := by
  have hi : ∀ x, noteIs true true x = true := fun x => by unfold noteIs; cases (x.kind == 1) <;> rfl
  unfold firstNote
  cases l with
  | nil => rfl
  | cons x l => exact firstI_hit (k := 0) (by simp) (hi _) (fun j _ hj => by omega)
end Go.Proofs.Ytgobkfnmagcgcaa
