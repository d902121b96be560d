/-
  A commit that applies leaves valid mailboxes; the mailboxes of a valid store are valid: the plain law.
  What commits keep of mailboxes and of a store: the plain law.
  A commit keeps a store valid and its earlier states: the plain law.
-/
import Derived.Test.YtemgabekckhckaaGreatXLaw
import Derived.Test.YtemgabekckhckaaGreatWStoreP
import Derived.Test.YtemgabekckhckaaGreatWComAllP
namespace Go.Proofs.YtemgabekckhckaaGreat
open Go.RowKit
set_option linter.unusedVariables false
set_option linter.unusedSimpArgs false

/-- messages that are right below nx, in the words of lists -/
def MsgsQ (nx : Int) (l : List DMsg) : Prop := (∀ m ∈ l, (1 ≤ m.uid ∧ m.uid ≤ nx - 1) ∧ (0 ≤ m.flags ∧ m.flags ≤ 31) ∧ m.text.size ≤ 40) ∧ l.Pairwise fun a b => a.uid < b.uid
theorem wrap_pred {nx : Int} (h1 : 1 ≤ nx) (h2 : nx ≤ 999999999) : wrap64 (nx - 1) = nx - 1 := by
  unfold wrap64
  omega
theorem pair_step {α : Type} {R : α → α → Prop} (ht : ∀ a b c, R a b → R b c → R a c) : ∀ (l : List α), (∀ k (h : k < l.length), 0 < k → R l[k - 1] l[k]) → l.Pairwise R := fun l h => by
  rw [List.pairwise_iff_getElem]
  intro i j hi hj hij
  obtain ⟨d, rfl⟩ : ∃ d, j = i + 1 + d := ⟨j - (i + 1), by omega⟩
  clear hij
  induction d with
  | zero => have := h (i + 1) hj (by omega); simpa using this
  | succ d ih => exact ht _ _ _ (ih (by omega)) (by have := h (i + 1 + (d + 1)) hj (by omega); simpa using this)
theorem msgs_iff {nx : Int} (h1 : 1 ≤ nx) (h2 : nx ≤ 999999999) (l : List DMsg) : (∀ k, k < l.length → MsgAt nx l k) ↔ MsgsQ nx l := by
  have hw := wrap_pred h1 h2
  constructor
  · intro h
    refine ⟨fun m hm => ?_, pair_step (R := fun a b : DMsg => a.uid < b.uid) (fun a b c => Int.lt_trans) l fun k hk hk0 => ?_⟩
    · obtain ⟨k, hk, rfl⟩ := List.mem_iff_getElem.1 hm
      obtain ⟨h0, h3, h4, h5, -⟩ := h k hk
      rw [hw] at h3
      exact ⟨h3, h4, h5⟩
    · obtain ⟨h0, -, -, -, h6⟩ := h k hk
      exact h6 hk0
  · rintro ⟨ha, hp⟩ k hk
    obtain ⟨h3, h4, h5⟩ := ha _ (List.getElem_mem hk)
    refine ⟨hk, by rw [hw]; exact h3, h4, h5, fun h0 => ?_⟩
    exact List.pairwise_iff_getElem.1 hp (k - 1) k (by omega) hk (by omega)
/-- a mailbox that is right, in the words of lists -/
def BoxQ (b : DBox) : Prop := NameP b.name ∧ (1 ≤ b.validity ∧ b.validity ≤ 999999999) ∧ (1 ≤ b.next ∧ b.next ≤ 999999999) ∧ b.msgs.length ≤ 6 ∧ MsgsQ b.next b.msgs
theorem box_iff (b : DBox) : BoxP b.name b.validity b.next b.msgs ↔ BoxQ b := by
  unfold BoxP BoxQ
  constructor
  · rintro ⟨h1, h2, h3, h4, h5⟩
    exact ⟨h1, h2, h3, h4, (msgs_iff h3.1 h3.2 _).1 h5⟩
  · rintro ⟨h1, h2, h3, h4, h5⟩
    exact ⟨h1, h2, h3, h4, (msgs_iff h3.1 h3.2 _).2 h5⟩
/-- mailboxes that are right, in the words of lists -/
def BoxesQ (l : List DBox) : Prop := (∀ b ∈ l, BoxQ b) ∧ Rise l ∧ (l.map DBox.validity).Nodup ∧ l.length ≤ 4
theorem boxes_iff (l : List DBox) : BoxesP l ↔ BoxesQ l := by
  constructor
  · intro h
    refine ⟨fun b hb => ?_, boxesP_rise h, ?_, h.2⟩
    · obtain ⟨k, hk, rfl⟩ := List.mem_iff_getElem.1 hb
      obtain ⟨h0, h1, -, -⟩ := h.1 k hk
      exact (box_iff _).1 h1
    · rw [List.nodup_iff_pairwise_ne, List.pairwise_map, List.pairwise_iff_getElem]
      intro i j hi hj hij e
      obtain ⟨h0, -, -, h3⟩ := h.1 j hj
      have h4 := (firstI_first (fun b : DBox => decide (b.validity = l[j].validity)) l i hi (by simpa using e)).2
      have h5 : boxWith l[j].validity l ≤ i := h4
      omega
  · rintro ⟨h1, h2, h3, h4⟩
    refine ⟨fun k hk => ⟨hk, (box_iff _).2 (h1 _ (List.getElem_mem hk)), fun h0 => ?_, ?_⟩, h4⟩
    · exact List.pairwise_iff_getElem.1 h2 (k - 1) k (by omega) hk (by omega)
    · refine firstI_hit hk (by simp) fun j hj hjk => ?_
      rw [List.nodup_iff_pairwise_ne, List.pairwise_map, List.pairwise_iff_getElem] at h3
      exact decide_eq_false (h3 j k hj hk hjk)
theorem msgsQ_le {nx n2 : Int} {l : List DMsg} (h : MsgsQ nx l) (hn : nx ≤ n2) : MsgsQ n2 l :=
  ⟨fun m hm => by obtain ⟨h1, h2⟩ := h.1 m hm; exact ⟨⟨h1.1, by omega⟩, h2⟩, h.2⟩
theorem msgsQ_sub {nx : Int} {l k : List DMsg} (h : MsgsQ nx l) (hs : k.Sublist l) : MsgsQ nx k :=
  ⟨fun m hm => h.1 m (hs.subset hm), h.2.sublist hs⟩
theorem msgsQ_add {nx : Int} {l : List DMsg} {f : Int} {t : ByteArray} (h : MsgsQ nx l) (h1 : 1 ≤ nx) (hf : 0 ≤ f ∧ f ≤ 31) (ht : t.size ≤ 40) : MsgsQ (nx + 1) (l ++ [⟨nx, f, t⟩]) := by
  refine ⟨fun m hm => ?_, ?_⟩
  · rcases List.mem_append.1 hm with h2 | h2
    · obtain ⟨h3, h4⟩ := h.1 m h2
      exact ⟨⟨h3.1, by omega⟩, h4⟩
    · rw [List.mem_singleton.1 h2]
      exact ⟨⟨h1, by show nx ≤ nx + 1 - 1; omega⟩, hf, ht⟩
  · rw [List.pairwise_append]
    refine ⟨h.2, by simp, fun a ha b hb => ?_⟩
    rw [List.mem_singleton.1 hb]
    have := (h.1 a ha).1.2
    show a.uid < nx
    omega
theorem msgsQ_set {nx : Int} {l : List DMsg} {i : Nat} (h : MsgsQ nx l) (hi : i < l.length) {f : Int} (hf : 0 ≤ f ∧ f ≤ 31) : MsgsQ nx (l.set i ⟨l[i].uid, f, l[i].text⟩) := by
  refine ⟨fun m hm => ?_, ?_⟩
  · rcases List.mem_or_eq_of_mem_set hm with h2 | h2
    · exact h.1 m h2
    · obtain ⟨h3, -, h5⟩ := h.1 _ (List.getElem_mem hi)
      rw [h2]
      exact ⟨h3, hf, h5⟩
  · have e : (l.set i ⟨l[i].uid, f, l[i].text⟩).map DMsg.uid = l.map DMsg.uid := by
      refine List.ext_getElem (by simp) fun k h1 h2 => ?_
      rw [List.getElem_map, List.getElem_set, List.getElem_map]
      by_cases hk : i = k
      · subst hk; simp
      · rw [if_neg hk]
    have h3 : ((l.set i ⟨l[i].uid, f, l[i].text⟩).map DMsg.uid).Pairwise fun a b => a < b := by
      rw [e]; exact List.pairwise_map.2 h.2
    exact List.pairwise_map.1 h3
theorem pl_lt {u : Int} {l : List DMsg} (h : 0 ≤ placeOf u l) : pl u l < l.length := by
  have h2 := (firstI_range (fun m : DMsg => decide (m.uid = u)) l).2
  have h3 : placeOf u l < l.length := h2
  unfold pl
  omega
/-- what a commit makes of its mailbox is right -/
theorem newD_ok {b : DBox} {m : DCommit} (h : BoxQ b) (hm : CommitP m) (h1 : m.kind ≠ 1) (h2 : m.kind ≠ 2) (h4 : m.kind = 4 → m.uid = b.next ∧ b.msgs.length < 6) (h56 : m.kind = 5 ∨ m.kind = 6 → 0 ≤ placeOf m.uid b.msgs) : BoxQ (newD b m) := by
  obtain ⟨q1, q2, q3, q4, q5⟩ := h
  obtain ⟨hv, hk⟩ := hm
  rcases hk with hk | hk | ⟨e, hn, -⟩ | ⟨e, ⟨hu, hf, ht⟩, -⟩ | ⟨e, ⟨hu, hf⟩, -⟩ | ⟨e, hu, -⟩
  · exact absurd hk.1 h1
  · exact absurd hk.1 h2
  · have : newD b m = ⟨m.name, b.validity, b.next, b.msgs⟩ := by simp [newD, e]
    rw [this]
    exact ⟨hn, q2, q3, q4, q5⟩
  · obtain ⟨g1, g2⟩ := h4 e
    have : newD b m = ⟨b.name, b.validity, b.next + 1, b.msgs ++ [⟨m.uid, m.flags, m.text⟩]⟩ := by simp [newD, e]
    rw [this]
    refine ⟨q1, q2, ⟨by show 1 ≤ b.next + 1; omega, by show b.next + 1 ≤ 999999999; omega⟩, by simp; omega, ?_⟩
    show MsgsQ (b.next + 1) (b.msgs ++ [⟨m.uid, m.flags, m.text⟩])
    rw [g1]
    exact msgsQ_add q5 q3.1 hf ht
  · have hp := pl_lt (h56 (Or.inl e))
    have : newD b m = ⟨b.name, b.validity, b.next, b.msgs.set (pl m.uid b.msgs) ⟨b.msgs[pl m.uid b.msgs].uid, m.flags, b.msgs[pl m.uid b.msgs].text⟩⟩ := by
      simp [newD, e, theM_of hp]
    rw [this]
    exact ⟨q1, q2, q3, by simpa using q4, msgsQ_set q5 hp hf⟩
  · have : newD b m = ⟨b.name, b.validity, b.next, b.msgs.eraseIdx (pl m.uid b.msgs)⟩ := by simp [newD, e]
    rw [this]
    refine ⟨q1, q2, q3, ?_, msgsQ_sub q5 (List.eraseIdx_sublist ..)⟩
    have := List.length_eraseIdx_le b.msgs (pl m.uid b.msgs)
    show (b.msgs.eraseIdx _).length ≤ 6
    omega
theorem map_set_same {l : List DBox} {i : Nat} (hi : i < l.length) {x : DBox} (hx : x.validity = l[i].validity) : (l.set i x).map DBox.validity = l.map DBox.validity := by
  rw [List.map_set, hx]
  refine List.ext_getElem (by simp) fun k h1 h2 => ?_
  rw [List.getElem_set]
  by_cases hk : i = k
  · subst hk; simp
  · rw [if_neg hk]
theorem newD_valid (b : DBox) (m : DCommit) : (newD b m).validity = b.validity := by
  unfold newD
  (repeat' split) <;> rfl
theorem with_none {v : Int} {l : List DBox} (h : boxWith v l < 0) : ∀ y ∈ l, y.validity ≠ v := fun y hy => of_decide_eq_false (firstI_none h y hy)
/-- the changed mailboxes are right -/
theorem appD_ok {l : List DBox} {m : DCommit} (h : AppliesP l m) : BoxesP (appD l m) := by
  obtain ⟨hb, hm, hf⟩ := h
  obtain ⟨hp, hr⟩ := appD_perm hb hf
  rw [boxes_iff]
  obtain ⟨b1, b2, b3, b4⟩ := (boxes_iff l).1 hb
  suffices hq : (∀ b ∈ perfD l m, BoxQ b) ∧ ((perfD l m).map DBox.validity).Nodup ∧ (perfD l m).length ≤ 4 from
    ⟨fun b hbm => hq.1 b (hp.symm.subset hbm), hr, (hp.map DBox.validity).nodup_iff.1 hq.2.1, by rw [← hp.length_eq]; exact hq.2.2⟩
  unfold perfD
  by_cases h1 : m.kind = 1
  · rw [if_pos h1]
    obtain ⟨g1, g2, g3⟩ := hf.1 h1
    have hn : NameP m.name := by
      obtain ⟨-, hk⟩ := hm
      rcases hk with ⟨-, hn, -⟩ | hk | hk | hk | hk | hk
      · exact hn
      all_goals exact absurd hk.1 (by omega)
    refine ⟨fun b hbm => ?_, ?_, by simp; omega⟩
    · rcases List.mem_append.1 hbm with h2 | h2
      · exact b1 b h2
      · rw [List.mem_singleton.1 h2]
        exact ⟨hn, hm.1, ⟨Int.le_refl 1, by show (1 : Int) ≤ 999999999; decide⟩, Nat.zero_le _, ⟨fun x hx => absurd hx (by simp), List.Pairwise.nil⟩⟩
    · rw [List.map_append, List.nodup_append]
      refine ⟨b3, by simp, fun a ha c hc => ?_⟩
      obtain ⟨y, hy, rfl⟩ := List.mem_map.1 ha
      have : c = m.validity := by simpa using hc
      rw [this]
      exact with_none g2 y hy
  rw [if_neg h1]
  obtain ⟨i, hi, hz, h3, h4, h5⟩ := hf.2 h1
  have ha : atD l m = i := by unfold atD; omega
  rw [ha]
  by_cases h2 : m.kind = 2
  · rw [if_pos h2]
    have hs := List.eraseIdx_sublist l i
    exact ⟨fun b hbm => b1 b (hs.subset hbm), b3.sublist (hs.map _), Nat.le_trans hs.length_le b4⟩
  · rw [if_neg h2, theD_of hi]
    refine ⟨fun b hbm => ?_, by rw [map_set_same hi (newD_valid _ _)]; exact b3, by simpa using b4⟩
    rcases List.mem_or_eq_of_mem_set hbm with h6 | h6
    · exact b1 b h6
    · rw [h6]
      exact newD_ok (b1 _ (List.getElem_mem hi)) hm h1 h2 h4 h5
theorem boxesP_nil : BoxesP [] := (boxes_iff []).2 ⟨by simp, List.Pairwise.nil, by simp, by simp⟩
theorem allD_keep : ∀ (log : List DCommit) (l : List DBox), BoxesP l → BoxesP (allD l log).1
  | [], l, h => h
  | m :: ms, l, h => by
    rw [allD]
    split
    · rename_i hc
      exact allD_keep ms _ (appD_ok hc)
    · exact h
theorem storeP_boxes {s : DStore} (h : StoreP s) : BoxesP s.boxes := by
  have := allD_keep s.log [] boxesP_nil
  rwa [h.1] at this
end Go.Proofs.YtemgabekckhckaaGreat

namespace Go.Proofs.YtemgabekckhckaaGreat
open Go.RowKit
set_option linter.unusedVariables false
set_option linter.unusedSimpArgs false

theorem allD_append : ∀ (a b : List DCommit) (l : List DBox), allD l (a ++ b) = if (allD l a).2 = true then allD (allD l a).1 b else allD l a
  | [], b, l => by simp [allD]
  | m :: a, b, l => by
    obtain ⟨r, hr⟩ := boolOf (AppliesP l m)
    rw [List.cons_append, allD_cons l m (a ++ b) hr, allD_cons l m a hr]
    cases r with
    | false => rfl
    | true => exact allD_append a b _
theorem allD_one (l : List DBox) (m : DCommit) {r : Bool} (h : Tells r (AppliesP l m)) : allD l [m] = if r then (appD l m, true) else (l, false) := by
  rw [allD_cons l m [] h]
  cases r <;> rfl
/-- what a commit does to the other mailboxes, and to its own -/
theorem appD_perf {l : List DBox} {m : DCommit} (h : AppliesP l m) : ∀ y, y ∈ appD l m ↔ y ∈ perfD l m := fun y => (appD_perm h.1 h.2.2).1.symm.mem_iff
theorem with_mem {l : List DBox} (h : BoxesP l) {y : DBox} (hy : y ∈ l) : ∃ k, ∃ hk : k < l.length, boxWith y.validity l = k ∧ l[k] = y := by
  obtain ⟨k, hk, rfl⟩ := List.mem_iff_getElem.1 hy
  obtain ⟨h0, -, -, h3⟩ := h.1 k hk
  exact ⟨k, hk, h3, rfl⟩
theorem with_at {l : List DBox} {v : Int} {k : Nat} (hk : k < l.length) (h : boxWith v l = k) : l[k].validity = v := by
  rcases firstI_spec (fun b : DBox => decide (b.validity = v)) l with ⟨-, h2⟩ | ⟨i, hi, h1, h2, -⟩
  · exact absurd (h.symm.trans h2) (by omega)
  · have e : i = k := by have := h1.symm.trans h; omega
    subst e
    exact of_decide_eq_true h2
theorem with_lt {l : List DBox} {v : Int} (h : 0 ≤ boxWith v l) : ∃ k, ∃ hk : k < l.length, boxWith v l = k := by
  have h2 := (firstI_range (fun b : DBox => decide (b.validity = v)) l).2
  have h3 : boxWith v l < l.length := h2
  exact ⟨(boxWith v l).toNat, by omega, by omega⟩
/-- another mailbox is there as it was -/
theorem apart_other {l : List DBox} {m : DCommit} (h : AppliesP l m) {y : DBox} (hy : y ∈ l) (hv : y.validity ≠ m.validity) : ∃ k, ∃ hk : k < (appD l m).length, boxWith y.validity (appD l m) = k ∧ (appD l m)[k] = y := by
  refine with_mem (appD_ok h) ((appD_perf h y).2 ?_)
  obtain ⟨hb, hm, hf⟩ := h
  unfold perfD
  by_cases h1 : m.kind = 1
  · rw [if_pos h1]; exact List.mem_append_left _ hy
  rw [if_neg h1]
  obtain ⟨i, hi, hz, -⟩ := hf.2 h1
  have ha : atD l m = i := by unfold atD; omega
  obtain ⟨j, hj, rfl⟩ := List.mem_iff_getElem.1 hy
  have hij : i ≠ j := fun e => by subst e; exact hv (with_at hi hz)
  rw [ha]
  by_cases h2 : m.kind = 2
  · rw [if_pos h2, List.eraseIdx_eq_take_drop_succ]
    rcases Nat.lt_or_gt_of_ne hij with h3 | h3
    · refine List.mem_append_right _ (List.mem_iff_getElem.2 ⟨j - (i + 1), by simp; omega, ?_⟩)
      rw [List.getElem_drop]; congr 1; omega
    · exact List.mem_append_left _ (List.mem_iff_getElem.2 ⟨j, by simp; omega, by simp⟩)
  · rw [if_neg h2]
    exact List.mem_iff_getElem.2 ⟨j, by simpa using hj, by rw [List.getElem_set_ne hij]⟩
theorem newD_next (b : DBox) (m : DCommit) : b.next ≤ (newD b m).next := by
  unfold newD
  (repeat' split) <;> (show b.next ≤ _; dsimp only; omega)
/-- the commit's own mailbox: its next number never falls; it goes only where it is deleted -/
theorem apart_own {l : List DBox} {m : DCommit} (h : AppliesP l m) {i : Nat} (hi : i < l.length) (hv : l[i].validity = m.validity) :
    (boxWith m.validity (appD l m) < 0 → m.kind = 2) ∧ ∀ k (hk : k < (appD l m).length), boxWith m.validity (appD l m) = k → l[i].next ≤ (appD l m)[k].next := by
  have hok := appD_ok h
  obtain ⟨hb, hm, hf⟩ := h
  have h1 : m.kind ≠ 1 := fun e => (with_none (hf.1 e).2.1) _ (List.getElem_mem hi) hv
  obtain ⟨j, hj, hz, -⟩ := hf.2 h1
  have hji : j = i := by
    obtain ⟨h0, -, -, h3⟩ := hb.1 i hi
    rw [hv] at h3
    omega
  subst hji
  have ha : atD l m = j := by unfold atD; omega
  by_cases h2 : m.kind = 2
  · refine ⟨fun _ => h2, fun k hk hw => ?_⟩
    have he : appD l m = l.eraseIdx j := by unfold appD; rw [if_neg h1, if_pos h2, ha]
    obtain ⟨x, hx⟩ : ∃ x, (appD l m)[k] = x := ⟨_, rfl⟩
    have hmem : x ∈ appD l m := hx ▸ List.getElem_mem hk
    have hkv : x.validity = m.validity := hx ▸ with_at hk hw
    clear hx
    rw [he, List.eraseIdx_eq_take_drop_succ] at hmem
    exfalso
    obtain ⟨-, -, hn, -⟩ := (boxes_iff l).1 hb
    rw [List.nodup_iff_pairwise_ne, List.pairwise_map, List.pairwise_iff_getElem] at hn
    rcases List.mem_append.1 hmem with h4 | h4
    · obtain ⟨p, hp, e⟩ := List.mem_iff_getElem.1 h4
      rw [List.getElem_take] at e
      have hp2 : p < j := by simp at hp; omega
      exact hn p j (by omega) hj hp2 (by rw [e, hkv, hv])
    · obtain ⟨p, hp, e⟩ := List.mem_iff_getElem.1 h4
      rw [List.getElem_drop] at e
      have hp2 : j + 1 + p < l.length := by simp at hp; omega
      exact hn j (j + 1 + p) hj hp2 (by omega) (by rw [e, hkv, hv])
  · have hmem : newD l[j] m ∈ appD l m := (appD_perf ⟨hb, hm, hf⟩ _).2 (by
      unfold perfD
      rw [if_neg h1, if_neg h2, ha, theD_of hj]
      exact List.mem_iff_getElem.2 ⟨j, by simpa using hj, by simp⟩)
    obtain ⟨k, hk, hw, hk2⟩ := with_mem hok hmem
    rw [newD_valid, hv] at hw
    refine ⟨fun hlt => by omega, fun k2 hk3 hw2 => ?_⟩
    have e : k2 = k := by omega
    subst e
    rw [hk2]
    exact newD_next _ _
end Go.Proofs.YtemgabekckhckaaGreat

namespace Go.Proofs.YtemgabekckhckaaGreat
open Go.RowKit
set_option linter.unusedVariables false
set_option linter.unusedSimpArgs false

theorem commit_val {m : DCommit} (h : CommitP m) : 1 ≤ m.validity ∧ m.validity ≤ 999999999 := h.1
theorem storeP_com {s : DStore} {m : DCommit} (h : StoreP s) (hc : ComP s m) : StoreP (comD s m) := by
  obtain ⟨h1, h2, h3, h4, h5⟩ := h
  obtain ⟨ha, hl, hg⟩ := hc
  have hv := commit_val ha.2.1
  have hlen : (s.log ++ [m]).length = s.log.length + 1 := by simp
  have hlast : ∀ (h0 : s.log.length < (s.log ++ [m]).length), (s.log ++ [m])[s.log.length] = m := fun h0 => by simp
  have hold : ∀ i (h0 : i < s.log.length) (h6 : i < (s.log ++ [m]).length), (s.log ++ [m])[i] = s.log[i] := fun i h0 h6 => List.getElem_append_left h0
  refine ⟨?_, by show (s.log ++ [m]).length ≤ 300; omega, ⟨?_, ?_⟩, ?_, ?_⟩
  · show allD [] (s.log ++ [m]) = (appD s.boxes m, true)
    rw [allD_append, h1, if_pos rfl, allD_one _ _ (r := true) ⟨fun _ => ha, fun _ => rfl⟩]
    rfl
  · show 0 ≤ max s.given m.validity
    omega
  · show max s.given m.validity ≤ 999999999
    omega
  · intro i hi hik j hj
    have hi2 : i < (s.log ++ [m]).length := hi
    show ¬ ((s.log ++ [m])[i].kind = 1 ∧ (s.log ++ [m])[j].kind = 1 ∧ (s.log ++ [m])[i].validity = (s.log ++ [m])[j].validity)
    by_cases e : i = s.log.length
    · subst e
      rw [hlast hi2, hold j (by omega)]
      rintro ⟨k1, k2, k3⟩
      have h6 := h5 j (by omega) (by omega) k2
      exact hg ⟨k1, by rw [k3]; exact h6⟩
    · rw [hold i (by omega), hold j (by omega)]
      exact h4 i (by omega) (by omega) j hj
  · intro i hi hik
    have hi2 : i < (s.log ++ [m]).length := hi
    show (s.log ++ [m])[i].kind = 1 → (s.log ++ [m])[i].validity ≤ max s.given m.validity
    by_cases e : i = s.log.length
    · subst e
      rw [hlast hi2]
      intro _
      omega
    · rw [hold i (by omega)]
      intro hk
      have := h5 i (by omega) (by omega) hk
      omega
theorem storeP_cmt {s rs : DStore} {m : DCommit} {r : Bool} (h : StoreP s) (hc : CmtRel s m rs r) : StoreP rs := by
  obtain ⟨ht, rfl⟩ := hc
  cases r with
  | false => exact h
  | true => exact storeP_com h (ht.1 rfl)
theorem storeP_all : ∀ (log : List DCommit) (s : DStore), StoreP s → StoreP (cmtAll s log).1
  | [], s, h => h
  | m :: ms, s, h => by
    obtain ⟨r, hr⟩ := boolOf (ComP s m)
    rw [cmtAll_cons s m ms hr]
    cases r with
    | false => exact h
    | true => exact storeP_all ms _ (storeP_com h (hr.1 rfl))
theorem cmtAll_len : ∀ (log : List DCommit) (s : DStore), (cmtAll s log).2 = true → (cmtAll s log).1.log.length = s.log.length + log.length
  | [], s, _ => rfl
  | m :: ms, s, h => by
    obtain ⟨r, hr⟩ := boolOf (ComP s m)
    rw [cmtAll_cons s m ms hr] at h ⊢
    cases r with
    | false => cases h
    | true =>
      have := cmtAll_len ms _ h
      rw [if_pos rfl, this]
      show (s.log ++ [m]).length + ms.length = _
      simp; omega
/-- the mailboxes behind the first commits do not turn with a later one -/
theorem take_com (s : DStore) (m : DCommit) (k : Nat) (hk : k ≤ s.log.length) : (comD s m).log.take k = s.log.take k := by
  show (s.log ++ [m]).take k = _
  rw [List.take_append_of_le_length hk]
/-- in a valid store each state follows from the one before -/
theorem all_pre_ok : ∀ (a b : List DCommit) (l : List DBox), (allD l (a ++ b)).2 = true → (allD l a).2 = true := fun a b l h => by
  cases hv : (allD l a).2 with
  | true => rfl
  | false =>
    rw [allD_append, hv, if_neg (by simp), hv] at h
    exact h
theorem all_step {log : List DCommit} {l : List DBox} (h : (allD l log).2 = true) (i : Nat) (hi : i < log.length) :
    AppliesP (allD l (log.take i)).1 log[i] ∧ (allD l (log.take (i + 1))).1 = appD (allD l (log.take i)).1 log[i] := by
  have h1 : log.take (i + 1) = log.take i ++ [log[i]] := List.take_succ_eq_append_getElem hi
  have h2 : (allD l (log.take (i + 1))).2 = true := all_pre_ok _ (log.drop (i + 1)) l (by rw [List.take_append_drop]; exact h)
  have h3 : (allD l (log.take i)).2 = true := all_pre_ok _ [log[i]] l (by rw [← h1]; exact h2)
  rw [h1, allD_append, h3, if_pos rfl] at h2
  obtain ⟨r, hr⟩ := boolOf (AppliesP (allD l (log.take i)).1 log[i])
  rw [allD_one _ _ hr] at h2
  cases r with
  | false => cases h2
  | true =>
    refine ⟨hr.1 rfl, ?_⟩
    rw [h1, allD_append, h3, if_pos rfl, allD_one _ _ hr]
    rfl
end Go.Proofs.YtemgabekckhckaaGreat
