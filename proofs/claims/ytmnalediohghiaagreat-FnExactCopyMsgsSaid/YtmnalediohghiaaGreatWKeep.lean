/-
  A commit that applies leaves valid mailboxes; the mailboxes of a valid store are valid: the plain law.
-/
import Derived.Test.YtmnalediohghiaaGreatXLaw
import Derived.Test.YtmnalediohghiaaGreatWStoreP
namespace Go.Proofs.YtmnalediohghiaaGreat
open Go.RowKit
set_option linter.unusedVariables false
set_option linter.unusedSimpArgs false

/-- messages that are right below nx, in the words of lists -/
def MsgsQ (nx : Int) (l : List DMsg) : Prop := (∀ m ∈ l, (1 ≤ m.uid ∧ m.uid ≤ nx - 1) ∧ (0 ≤ m.flags ∧ m.flags ≤ 31) ∧ m.text.size ≤ 40) ∧ l.Pairwise fun a b => a.uid < b.uid
theorem wrap_pred {nx : Int} (h1 : 1 ≤ nx) (h2 : nx ≤ 999999999) : wrap64 (nx - 1) = nx - 1 := by
  unfold wrap64
  omega
theorem pair_step {α : Type} {R : α → α → Prop} (ht : ∀ a b c, R a b → R b c → R a c) : ∀ (l : List α), (∀ k (h : k < l.length), 0 < k → R l[k - 1] l[k]) → l.Pairwise R := fun l h => by
  rw [List.pairwise_iff_getElem]
  intro i j hi hj hij
  obtain ⟨d, rfl⟩ : ∃ d, j = i + 1 + d := ⟨j - (i + 1), by omega⟩
  clear hij
  induction d with
  | zero => have := h (i + 1) hj (by omega); simpa using this
  | succ d ih => exact ht _ _ _ (ih (by omega)) (by have := h (i + 1 + (d + 1)) hj (by omega); simpa using this)
theorem msgs_iff {nx : Int} (h1 : 1 ≤ nx) (h2 : nx ≤ 999999999) (l : List DMsg) : (∀ k, k < l.length → MsgAt nx l k) ↔ MsgsQ nx l := by
  have hw := wrap_pred h1 h2
  constructor
  · intro h
    refine ⟨fun m hm => ?_, pair_step (R := fun a b : DMsg => a.uid < b.uid) (fun a b c => Int.lt_trans) l fun k hk hk0 => ?_⟩
    · obtain ⟨k, hk, rfl⟩ := List.mem_iff_getElem.1 hm
      obtain ⟨h0, h3, h4, h5, -⟩ := h k hk
      rw [hw] at h3
      exact ⟨h3, h4, h5⟩
    · obtain ⟨h0, -, -, -, h6⟩ := h k hk
      exact h6 hk0
  · rintro ⟨ha, hp⟩ k hk
    obtain ⟨h3, h4, h5⟩ := ha _ (List.getElem_mem hk)
    refine ⟨hk, by rw [hw]; exact h3, h4, h5, fun h0 => ?_⟩
    exact List.pairwise_iff_getElem.1 hp (k - 1) k (by omega) hk (by omega)
/-- a mailbox that is right, in the words of lists -/
def BoxQ (b : DBox) : Prop := NameP b.name ∧ (1 ≤ b.validity ∧ b.validity ≤ 999999999) ∧ (1 ≤ b.next ∧ b.next ≤ 999999999) ∧ b.msgs.length ≤ 6 ∧ MsgsQ b.next b.msgs
theorem box_iff (b : DBox) : BoxP b.name b.validity b.next b.msgs ↔ BoxQ b := by
  unfold BoxP BoxQ
  constructor
  · rintro ⟨h1, h2, h3, h4, h5⟩
    exact ⟨h1, h2, h3, h4, (msgs_iff h3.1 h3.2 _).1 h5⟩
  · rintro ⟨h1, h2, h3, h4, h5⟩
    exact ⟨h1, h2, h3, h4, (msgs_iff h3.1 h3.2 _).2 h5⟩
/-- mailboxes that are right, in the words of lists -/
def BoxesQ (l : List DBox) : Prop := (∀ b ∈ l, BoxQ b) ∧ Rise l ∧ (l.map DBox.validity).Nodup ∧ l.length ≤ 4
theorem boxes_iff (l : List DBox) : BoxesP l ↔ BoxesQ l := by
  constructor
  · intro h
    refine ⟨fun b hb => ?_, boxesP_rise h, ?_, h.2⟩
    · obtain ⟨k, hk, rfl⟩ := List.mem_iff_getElem.1 hb
      obtain ⟨h0, h1, -, -⟩ := h.1 k hk
      exact (box_iff _).1 h1
    · rw [List.nodup_iff_pairwise_ne, List.pairwise_map, List.pairwise_iff_getElem]
      intro i j hi hj hij e
      obtain ⟨h0, -, -, h3⟩ := h.1 j hj
      have h4 := (firstI_first (fun b : DBox => decide (b.validity = l[j].validity)) l i hi (by simpa using e)).2
      have h5 : boxWith l[j].validity l ≤ i := h4
      omega
  · rintro ⟨h1, h2, h3, h4⟩
    refine ⟨fun k hk => ⟨hk, (box_iff _).2 (h1 _ (List.getElem_mem hk)), fun h0 => ?_, ?_⟩, h4⟩
    · exact List.pairwise_iff_getElem.1 h2 (k - 1) k (by omega) hk (by omega)
    · refine firstI_hit hk (by simp) fun j hj hjk => ?_
      rw [List.nodup_iff_pairwise_ne, List.pairwise_map, List.pairwise_iff_getElem] at h3
      exact decide_eq_false (h3 j k hj hk hjk)
theorem msgsQ_le {nx n2 : Int} {l : List DMsg} (h : MsgsQ nx l) (hn : nx ≤ n2) : MsgsQ n2 l :=
  ⟨fun m hm => by obtain ⟨h1, h2⟩ := h.1 m hm; exact ⟨⟨h1.1, by omega⟩, h2⟩, h.2⟩
theorem msgsQ_sub {nx : Int} {l k : List DMsg} (h : MsgsQ nx l) (hs : k.Sublist l) : MsgsQ nx k :=
  ⟨fun m hm => h.1 m (hs.subset hm), h.2.sublist hs⟩
theorem msgsQ_add {nx : Int} {l : List DMsg} {f : Int} {t : ByteArray} (h : MsgsQ nx l) (h1 : 1 ≤ nx) (hf : 0 ≤ f ∧ f ≤ 31) (ht : t.size ≤ 40) : MsgsQ (nx + 1) (l ++ [⟨nx, f, t⟩]) := by
  refine ⟨fun m hm => ?_, ?_⟩
  · rcases List.mem_append.1 hm with h2 | h2
    · obtain ⟨h3, h4⟩ := h.1 m h2
      exact ⟨⟨h3.1, by omega⟩, h4⟩
    · rw [List.mem_singleton.1 h2]
      exact ⟨⟨h1, by show nx ≤ nx + 1 - 1; omega⟩, hf, ht⟩
  · rw [List.pairwise_append]
    refine ⟨h.2, by simp, fun a ha b hb => ?_⟩
    rw [List.mem_singleton.1 hb]
    have := (h.1 a ha).1.2
    show a.uid < nx
    omega
theorem msgsQ_set {nx : Int} {l : List DMsg} {i : Nat} (h : MsgsQ nx l) (hi : i < l.length) {f : Int} (hf : 0 ≤ f ∧ f ≤ 31) : MsgsQ nx (l.set i ⟨l[i].uid, f, l[i].text⟩) := by
  refine ⟨fun m hm => ?_, ?_⟩
  · rcases List.mem_or_eq_of_mem_set hm with h2 | h2
    · exact h.1 m h2
    · obtain ⟨h3, -, h5⟩ := h.1 _ (List.getElem_mem hi)
      rw [h2]
      exact ⟨h3, hf, h5⟩
  · have e : (l.set i ⟨l[i].uid, f, l[i].text⟩).map DMsg.uid = l.map DMsg.uid := by
      refine List.ext_getElem (by simp) fun k h1 h2 => ?_
      rw [List.getElem_map, List.getElem_set, List.getElem_map]
      by_cases hk : i = k
      · subst hk; simp
      · rw [if_neg hk]
    have h3 : ((l.set i ⟨l[i].uid, f, l[i].text⟩).map DMsg.uid).Pairwise fun a b => a < b := by
      rw [e]; exact List.pairwise_map.2 h.2
    exact List.pairwise_map.1 h3
theorem pl_lt {u : Int} {l : List DMsg} (h : 0 ≤ placeOf u l) : pl u l < l.length := by
  have h2 := (firstI_range (fun m : DMsg => decide (m.uid = u)) l).2
  have h3 : placeOf u l < l.length := h2
  unfold pl
  omega
/-- what a commit makes of its mailbox is right -/
theorem newD_ok {b : DBox} {m : DCommit} (h : BoxQ b) (hm : CommitP m) (h1 : m.kind ≠ 1) (h2 : m.kind ≠ 2) (h4 : m.kind = 4 → m.uid = b.next ∧ b.msgs.length < 6) (h56 : m.kind = 5 ∨ m.kind = 6 → 0 ≤ placeOf m.uid b.msgs) : BoxQ (newD b m) := by
  obtain ⟨q1, q2, q3, q4, q5⟩ := h
  obtain ⟨hv, hk⟩ := hm
  rcases hk with hk | hk | ⟨e, hn, -⟩ | ⟨e, ⟨hu, hf, ht⟩, -⟩ | ⟨e, ⟨hu, hf⟩, -⟩ | ⟨e, hu, -⟩
  · exact absurd hk.1 h1
  · exact absurd hk.1 h2
  · have : newD b m = ⟨m.name, b.validity, b.next, b.msgs⟩ := by simp [newD, e]
    rw [this]
    exact ⟨hn, q2, q3, q4, q5⟩
  · obtain ⟨g1, g2⟩ := h4 e
    have : newD b m = ⟨b.name, b.validity, b.next + 1, b.msgs ++ [⟨m.uid, m.flags, m.text⟩]⟩ := by simp [newD, e]
    rw [this]
    refine ⟨q1, q2, ⟨by show 1 ≤ b.next + 1; omega, by show b.next + 1 ≤ 999999999; omega⟩, by simp; omega, ?_⟩
    show MsgsQ (b.next + 1) (b.msgs ++ [⟨m.uid, m.flags, m.text⟩])
    rw [g1]
    exact msgsQ_add q5 q3.1 hf ht
  · have hp := pl_lt (h56 (Or.inl e))
    have : newD b m = ⟨b.name, b.validity, b.next, b.msgs.set (pl m.uid b.msgs) ⟨b.msgs[pl m.uid b.msgs].uid, m.flags, b.msgs[pl m.uid b.msgs].text⟩⟩ := by
      simp [newD, e, theM_of hp]
    rw [this]
    exact ⟨q1, q2, q3, by simpa using q4, msgsQ_set q5 hp hf⟩
  · have : newD b m = ⟨b.name, b.validity, b.next, b.msgs.eraseIdx (pl m.uid b.msgs)⟩ := by simp [newD, e]
    rw [this]
    refine ⟨q1, q2, q3, ?_, msgsQ_sub q5 (List.eraseIdx_sublist ..)⟩
    have := List.length_eraseIdx_le b.msgs (pl m.uid b.msgs)
    show (b.msgs.eraseIdx _).length ≤ 6
    omega
theorem map_set_same {l : List DBox} {i : Nat} (hi : i < l.length) {x : DBox} (hx : x.validity = l[i].validity) : (l.set i x).map DBox.validity = l.map DBox.validity := by
  rw [List.map_set, hx]
  refine List.ext_getElem (by simp) fun k h1 h2 => ?_
  rw [List.getElem_set]
  by_cases hk : i = k
  · subst hk; simp
  · rw [if_neg hk]
theorem newD_valid (b : DBox) (m : DCommit) : (newD b m).validity = b.validity := by
  unfold newD
  (repeat' split) <;> rfl
theorem with_none {v : Int} {l : List DBox} (h : boxWith v l < 0) : ∀ y ∈ l, y.validity ≠ v := fun y hy => of_decide_eq_false (firstI_none h y hy)
/-- the changed mailboxes are right -/
theorem appD_ok {l : List DBox} {m : DCommit} (h : AppliesP l m) : BoxesP (appD l m) := by
  obtain ⟨hb, hm, hf⟩ := h
  obtain ⟨hp, hr⟩ := appD_perm hb hf
  rw [boxes_iff]
  obtain ⟨b1, b2, b3, b4⟩ := (boxes_iff l).1 hb
  suffices hq : (∀ b ∈ perfD l m, BoxQ b) ∧ ((perfD l m).map DBox.validity).Nodup ∧ (perfD l m).length ≤ 4 from
    ⟨fun b hbm => hq.1 b (hp.symm.subset hbm), hr, (hp.map DBox.validity).nodup_iff.1 hq.2.1, by rw [← hp.length_eq]; exact hq.2.2⟩
  unfold perfD
  by_cases h1 : m.kind = 1
  · rw [if_pos h1]
    obtain ⟨g1, g2, g3⟩ := hf.1 h1
    have hn : NameP m.name := by
      obtain ⟨-, hk⟩ := hm
      rcases hk with ⟨-, hn, -⟩ | hk | hk | hk | hk | hk
      · exact hn
      all_goals exact absurd hk.1 (by omega)
    refine ⟨fun b hbm => ?_, ?_, by simp; omega⟩
    · rcases List.mem_append.1 hbm with h2 | h2
      · exact b1 b h2
      · rw [List.mem_singleton.1 h2]
        exact ⟨hn, hm.1, ⟨Int.le_refl 1, by show (1 : Int) ≤ 999999999; decide⟩, Nat.zero_le _, ⟨fun x hx => absurd hx (by simp), List.Pairwise.nil⟩⟩
    · rw [List.map_append, List.nodup_append]
      refine ⟨b3, by simp, fun a ha c hc => ?_⟩
      obtain ⟨y, hy, rfl⟩ := List.mem_map.1 ha
      have : c = m.validity := by simpa using hc
      rw [this]
      exact with_none g2 y hy
  rw [if_neg h1]
  obtain ⟨i, hi, hz, h3, h4, h5⟩ := hf.2 h1
  have ha : atD l m = i := by unfold atD; omega
  rw [ha]
  by_cases h2 : m.kind = 2
  · rw [if_pos h2]
    have hs := List.eraseIdx_sublist l i
    exact ⟨fun b hbm => b1 b (hs.subset hbm), b3.sublist (hs.map _), Nat.le_trans hs.length_le b4⟩
  · rw [if_neg h2, theD_of hi]
    refine ⟨fun b hbm => ?_, by rw [map_set_same hi (newD_valid _ _)]; exact b3, by simpa using b4⟩
    rcases List.mem_or_eq_of_mem_set hbm with h6 | h6
    · exact b1 b h6
    · rw [h6]
      exact newD_ok (b1 _ (List.getElem_mem hi)) hm h1 h2 h4 h5
theorem boxesP_nil : BoxesP [] := (boxes_iff []).2 ⟨by simp, List.Pairwise.nil, by simp, by simp⟩
theorem allD_keep : ∀ (log : List DCommit) (l : List DBox), BoxesP l → BoxesP (allD l log).1
  | [], l, h => h
  | m :: ms, l, h => by
    rw [allD]
    split
    · rename_i hc
      exact allD_keep ms _ (appD_ok hc)
    · exact h
theorem storeP_boxes {s : DStore} (h : StoreP s) : BoxesP s.boxes := by
  have := allD_keep s.log [] boxesP_nil
  rwa [h.1] at this
end Go.Proofs.YtmnalediohghiaaGreat
