/-
  A view that follows a commit: it stays valid, and is the view of the changed mailbox. The plain law.
-/
import Derived.Test.YtpameapajhbdnaaWFollowed
import Derived.Test.YtpameapajhbdnaaWViewOf
import Derived.Test.YtpameapajhbdnaaXKeep
namespace Go.Proofs.Ytpameapajhbdnaa
open Go.RowKit
set_option linter.unusedVariables false
set_option linter.unusedSimpArgs false

def ViewQ (l : List DSeen) : Prop := (∀ x ∈ l, (1 ≤ x.uid ∧ x.uid ≤ 999999998) ∧ (0 ≤ x.flags ∧ x.flags ≤ 31)) ∧ (l.Pairwise fun a b => a.uid < b.uid) ∧ l.length ≤ 6
theorem view_iff (l : List DSeen) : ViewOkP l ↔ ViewQ l := by
  constructor
  · rintro ⟨h, hl⟩
    refine ⟨fun x hx => ?_, pair_step (R := fun a b : DSeen => a.uid < b.uid) (fun a b c => Int.lt_trans) l fun k hk hk0 => ?_, hl⟩
    · obtain ⟨k, hk, rfl⟩ := List.getElem_of_mem hx
      obtain ⟨_, h1, h2, _⟩ := h k hk
      exact ⟨h1, h2⟩
    · obtain ⟨_, _, _, h3⟩ := h k hk
      exact h3 hk0
  · rintro ⟨h, hp, hl⟩
    refine ⟨fun k hk => ⟨hk, (h _ (List.getElem_mem hk)).1, (h _ (List.getElem_mem hk)).2, fun h0 => ?_⟩, hl⟩
    exact List.pairwise_iff_getElem.1 hp (k - 1) k (by omega) hk (by omega)
theorem commit_cases {m : DCommit} (h : CommitP m) : m.kind = 1 ∨ m.kind = 2 ∨ m.kind = 3 ∨ (m.kind = 4 ∧ (1 ≤ m.uid ∧ m.uid ≤ 999999998) ∧ (0 ≤ m.flags ∧ m.flags ≤ 31) ∧ m.text.size ≤ 40) ∨ (m.kind = 5 ∧ (1 ≤ m.uid ∧ m.uid ≤ 999999998) ∧ (0 ≤ m.flags ∧ m.flags ≤ 31)) ∨ (m.kind = 6 ∧ 1 ≤ m.uid ∧ m.uid ≤ 999999998) := by
  obtain ⟨hv, hk⟩ := h
  rcases hk with hk | hk | ⟨e, hn, -⟩ | ⟨e, ⟨hu, hf, ht⟩, -⟩ | ⟨e, ⟨hu, hf⟩, -⟩ | ⟨e, hu, -⟩
  · exact Or.inl hk.1
  · exact Or.inr (Or.inl hk.1)
  · exact Or.inr (Or.inr (Or.inl e))
  · exact Or.inr (Or.inr (Or.inr (Or.inl ⟨e, hu, hf, ht⟩)))
  · exact Or.inr (Or.inr (Or.inr (Or.inr (Or.inl ⟨e, hu, hf⟩))))
  · exact Or.inr (Or.inr (Or.inr (Or.inr (Or.inr ⟨e, hu⟩))))
theorem viewQ_add {l : List DSeen} {u f : Int} (h : ViewQ l) (hl : l.length < 6) (hb : lastBelow l u) (hu : 1 ≤ u ∧ u ≤ 999999998) (hf : 0 ≤ f ∧ f ≤ 31) : ViewQ (l ++ [⟨u, f⟩]) := by
  obtain ⟨h1, h2, h3⟩ := h
  refine ⟨fun x hx => ?_, ?_, by simp; omega⟩
  · rcases List.mem_append.1 hx with hx | hx
    · exact h1 x hx
    · obtain rfl : x = ⟨u, f⟩ := by simpa using hx
      exact ⟨hu, hf⟩
  · rw [List.pairwise_append]
    refine ⟨h2, by simp, fun x hx y hy => ?_⟩
    obtain rfl : y = ⟨u, f⟩ := by simpa using hy
    obtain ⟨i, hi, rfl⟩ := List.getElem_of_mem hx
    have h4 := hb (by omega)
    show l[i].uid < u
    by_cases e : i = l.length - 1
    · subst e; exact h4
    · exact Int.lt_trans (List.pairwise_iff_getElem.1 h2 i (l.length - 1) hi (by omega) (by omega)) h4
theorem viewQ_set {l : List DSeen} {i : Nat} {u f : Int} (h : ViewQ l) (hi : i < l.length) (hu : l[i].uid = u) (hf : 0 ≤ f ∧ f ≤ 31) : ViewQ (l.set i ⟨u, f⟩) := by
  obtain ⟨h1, h2, h3⟩ := h
  subst hu
  refine ⟨fun x hx => ?_, ?_, by simpa using h3⟩
  · rcases List.mem_or_eq_of_mem_set hx with hx | rfl
    · exact h1 x hx
    · exact ⟨(h1 _ (List.getElem_mem hi)).1, hf⟩
  · have h4 : (l.map DSeen.uid).Pairwise (· < ·) := List.pairwise_map.2 h2
    have h5 : (l.set i ⟨l[i].uid, f⟩).map DSeen.uid = l.map DSeen.uid := by
      rw [List.map_set]
      apply List.ext_getElem?
      intro j
      rw [List.getElem?_set]
      split
      · rename_i e; subst e; simp [hi]
      · rfl
    rw [← h5] at h4
    exact List.pairwise_map.1 h4
theorem viewQ_sub {l k : List DSeen} (h : ViewQ l) (hs : k.Sublist l) : ViewQ k := ⟨fun x hx => h.1 x (hs.subset hx), h.2.1.sublist hs, Nat.le_trans hs.length_le h.2.2⟩
/-- a view that has followed is valid -/
theorem followed_ok {l : List DSeen} {m : DCommit} (h : (followed l m).ok = true) : ViewOkP (followed l m).known := by
  unfold followed at h ⊢
  by_cases hv : ViewOkP l
  · rw [if_neg (by simpa using hv)] at h ⊢
    by_cases hm : CommitP m
    · rw [if_neg (by simpa using hm)] at h ⊢
      have hq := (view_iff l).1 hv
      rcases commit_cases hm with e | e | e | ⟨e, hu, hf, -⟩ | ⟨e, hu, hf⟩ | ⟨e, hu⟩
      · simp [e] at h
      · simp [e] at h
      · simp [e] at h
      · rw [if_pos e] at h ⊢
        by_cases h4 : l.length < 6 ∧ lastBelow l m.uid
        · rw [if_pos h4]
          exact (view_iff _).2 (viewQ_add hq h4.1 h4.2 hu hf)
        · rw [if_neg h4] at h; cases h
      · rw [if_neg (by omega), if_pos e] at h ⊢
        by_cases h4 : 0 < seqOf m.uid l
        · rw [if_pos h4]
          rcases seqOf_cases m.uid l with h5 | ⟨i, hi, h5, h6⟩
          · omega
          · have h7 : (seqOf m.uid l).toNat - 1 = i := by omega
            rw [h7]
            exact (view_iff _).2 (viewQ_set hq hi h6 hf)
        · rw [if_neg h4] at h; cases h
      · rw [if_neg (by omega), if_neg (by omega), if_pos e] at h ⊢
        by_cases h4 : 0 < seqOf m.uid l
        · rw [if_pos h4]
          exact (view_iff _).2 (viewQ_sub hq (List.eraseIdx_sublist _ _))
        · rw [if_neg h4] at h; cases h
    · rw [if_pos (by simpa using hm)] at h; cases h
  · rw [if_pos (by simpa using hv)] at h; cases h
theorem followed_bad {l : List DSeen} {m : DCommit} (h : (followed l m).ok = false) : (followed l m).known = l := by
  unfold followed at h ⊢
  repeat' split
  all_goals first | rfl | simp_all
theorem firstI_mapQ {α β : Type} (p : β → Bool) (f : α → β) (l : List α) : firstI p (l.map f) = firstI (fun x => p (f x)) l := by
  unfold firstI
  rw [List.findIdx?_map]
  rfl
theorem seqOf_map (u : Int) (l : List DMsg) : seqOf u (l.map DMsg.seen) = placeOf u l + 1 := by
  unfold seqOf placeOf
  rw [firstI_mapQ]
  rfl
theorem box_view {b : DBox} (h : BoxQ b) : ViewOkP (b.msgs.map DMsg.seen) := by
  obtain ⟨-, -, h1, h2, h3, h4⟩ := h
  refine (view_iff _).2 ⟨fun x hx => ?_, List.pairwise_map.2 h4, by simpa using h2⟩
  obtain ⟨m, hm, rfl⟩ := List.mem_map.1 hx
  obtain ⟨h5, h6, -⟩ := h3 m hm
  exact ⟨⟨h5.1, by show m.uid ≤ 999999998; omega⟩, h6⟩
theorem pl_uid {u : Int} {l : List DMsg} (h : 0 ≤ placeOf u l) : (theM l (pl u l)).uid = u := by
  have hp := pl_lt h
  rw [theM_of hp]
  rcases firstI_cases (fun m : DMsg => decide (m.uid = u)) l with h1 | ⟨i, hi, h1, h2⟩
  · have : placeOf u l = -1 := h1
    omega
  · have h3 : pl u l = i := by
      have : placeOf u l = i := h1
      unfold pl; omega
    have : l[pl u l] = l[i] := by simp only [h3]
    rw [this]
    simpa using h2
theorem eraseIdx_mapQ {α β : Type} (f : α → β) (l : List α) (i : Nat) : (l.map f).eraseIdx i = (l.eraseIdx i).map f := by
  rw [List.eraseIdx_eq_take_drop_succ, List.eraseIdx_eq_take_drop_succ, List.map_append, List.map_take, List.map_drop]
/-- who follows a commit knows the changed mailbox -/
theorem followed_box {b : DBox} {m : DCommit} (hb : BoxQ b) (hm : CommitP m) (h4 : 4 ≤ m.kind) (h4' : m.kind = 4 → m.uid = b.next ∧ b.msgs.length < 6) (h56 : m.kind = 5 ∨ m.kind = 6 → 0 ≤ placeOf m.uid b.msgs) :
    followed (b.msgs.map DMsg.seen) m = ⟨(newD b m).msgs.map DMsg.seen, true⟩ := by
  unfold followed
  rw [if_neg (by simpa using box_view hb), if_neg (by simpa using hm)]
  rcases commit_cases hm with e | e | e | ⟨e, hu, hf, -⟩ | ⟨e, hu, hf⟩ | ⟨e, hu⟩
  · omega
  · omega
  · omega
  · obtain ⟨g1, g2⟩ := h4' e
    have hl : lastBelow (b.msgs.map DMsg.seen) m.uid := fun h0 => by
      rw [List.getElem_map]
      have h8 : (b.msgs.map DMsg.seen).length - 1 < b.msgs.length := by simp at h0 ⊢; omega
      have := (hb.2.2.2.2.1 _ (List.getElem_mem h8)).1.2
      show (b.msgs[(b.msgs.map DMsg.seen).length - 1]'h8).uid < m.uid
      omega
    rw [if_pos e, if_pos ⟨by simpa using g2, hl⟩]
    simp [newD, e, DMsg.seen]
  · have h5 := h56 (Or.inl e)
    have h6 := seqOf_map m.uid b.msgs
    have h7 : (placeOf m.uid b.msgs + 1).toNat - 1 = pl m.uid b.msgs := by unfold pl; omega
    rw [if_neg (by omega), if_pos e, h6, if_pos (by omega), h7]
    simp [newD, e, List.map_set, DMsg.seen, pl_uid h5]
  · have h5 := h56 (Or.inr e)
    have h6 := seqOf_map m.uid b.msgs
    have h7 : (placeOf m.uid b.msgs + 1).toNat - 1 = pl m.uid b.msgs := by unfold pl; omega
    rw [if_neg (by omega), if_neg (by omega), if_pos e, h6, if_pos (by omega), h7]
    simp [newD, e, eraseIdx_mapQ]
end Go.Proofs.Ytpameapajhbdnaa
