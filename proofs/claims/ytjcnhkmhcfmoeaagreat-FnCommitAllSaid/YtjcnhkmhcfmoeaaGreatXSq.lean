/-
  What the operations on a store leave: the plain law.
  A small store that can be read; the contracts in its words.
  The byte that the laws take of their input: its value.
-/
import Derived.Test.YtjcnhkmhcfmoeaaGreatXKeep
import Derived.Test.YtjcnhkmhcfmoeaaGreatXEach
import Derived.Test.YtjcnhkmhcfmoeaaGreatWCopP
import Derived.Test.YtjcnhkmhcfmoeaaGreatXDrB
import Derived.Test.YtjcnhkmhcfmoeaaGreatXOps
import Derived.Test.YtjcnhkmhcfmoeaaGreatXLaw
import Derived.Test.YtjcnhkmhcfmoeaaGreatWSameStore
import Derived.Test.YtjcnhkmhcfmoeaaGreatXDr
namespace Go.Proofs.YtjcnhkmhcfmoeaaGreat
open Go.RowKit
set_option linter.unusedVariables false
set_option linter.unusedSimpArgs false

theorem opD_zero {s rs : DStore} {P : Prop} {body : DStore × Int} (h : opD s P body = (rs, 0)) : StoreP s ∧ P ∧ body = (rs, 0) := by
  by_cases hp : StoreP s ∧ P
  · rw [opD_yes hp.1 hp.2] at h
    exact ⟨hp.1, hp.2, h⟩
  · rw [opD_no hp] at h
    have := (Prod.mk.inj h).2
    simp at this
theorem opD_ref {s rs : DStore} {P : Prop} {body : DStore × Int} {c : Int} (h : opD s P body = (rs, c)) (hc : c ≠ 0) (hb : ∀ r2, body = (r2, c) → r2 = s) : rs = s := by
  by_cases hp : StoreP s ∧ P
  · rw [opD_yes hp.1 hp.2] at h
    exact hb rs h
  · rw [opD_no hp] at h
    exact (Prod.mk.inj h).1.symm
theorem one_zero {s rs : DStore} {m : DCommit} (h : oneD s m = (rs, 0)) : ComP s m ∧ rs = comD s m := by
  obtain ⟨b, hb⟩ := boolOf (ComP s m)
  have h1 := one_of (s := s) (m := m) (rok := b) (rs := if b then comD s m else s) ⟨hb, rfl⟩
  rw [h] at h1
  cases b with
  | false => have := (Prod.mk.inj h1).2; simp at this
  | true => exact ⟨yes_of hb, (Prod.mk.inj h1).1⟩
theorem one_ref {s rs : DStore} {m : DCommit} {c : Int} (h : oneD s m = (rs, c)) (hc : c ≠ 0) : rs = s := by
  obtain ⟨b, hb⟩ := boolOf (ComP s m)
  have h1 := one_of (s := s) (m := m) (rok := b) (rs := if b then comD s m else s) ⟨hb, rfl⟩
  rw [h] at h1
  cases b with
  | false => exact (Prod.mk.inj h1).1
  | true => exact (hc (Prod.mk.inj h1).2).elim
theorem make_ref {s rs : DStore} {n : ByteArray} {c : Int} (h : makeD s n = (rs, c)) (hc : c ≠ 0) : rs = s := opD_ref h hc fun r2 hb => by
  unfold makeB at hb
  (repeat' split at hb) <;> first | exact (Prod.mk.inj hb).1.symm | exact one_ref hb hc
theorem drop_ref {s rs : DStore} {n : ByteArray} {c : Int} (h : dropD s n = (rs, c)) (hc : c ≠ 0) : rs = s := opD_ref h hc fun r2 hb => by
  unfold dropB at hb
  (repeat' split at hb) <;> first | exact (Prod.mk.inj hb).1.symm | exact one_ref hb hc
theorem name_ref {s rs : DStore} {n t : ByteArray} {c : Int} (h : nameD s n t = (rs, c)) (hc : c ≠ 0) : rs = s := opD_ref h hc fun r2 hb => by
  unfold nameB at hb
  (repeat' split at hb) <;> first | exact (Prod.mk.inj hb).1.symm | exact one_ref hb hc
theorem put_ref {s rs : DStore} {n : ByteArray} {f : Int} {t : ByteArray} {c : Int} (h : putD s n f t = (rs, c)) (hc : c ≠ 0) : rs = s := opD_ref h hc fun r2 hb => by
  unfold putB at hb
  (repeat' split at hb) <;> first | exact (Prod.mk.inj hb).1.symm | exact one_ref hb hc
theorem stepsB_ref {v : Int} {g : DMsg → Option DCommit} {s rs : DStore} {us : List Int} {c : Int} (h : stepsB v g s us = (rs, c)) (hc : c ≠ 0) : rs = s := by
  unfold stepsB at h
  split at h
  · exact (Prod.mk.inj h).1.symm
  split at h
  · exact (hc (Prod.mk.inj h).2.symm).elim
  · exact (Prod.mk.inj h).1.symm
theorem purge_ref {s rs : DStore} {v : Int} {us : List Int} {c : Int} (h : purgeD s v us = (rs, c)) (hc : c ≠ 0) : rs = s := opD_ref h hc fun r2 hb => stepsB_ref hb hc
theorem set_ref {s rs : DStore} {v : Int} {us : List Int} {op bi : Int} {c : Int} (h : setD s v us op bi = (rs, c)) (hc : c ≠ 0) : rs = s := opD_ref h hc fun r2 hb => stepsB_ref hb hc
theorem copy_ref {s rs : DStore} {v : Int} {us : List Int} {n : ByteArray} {c : Int} (h : copyD s v us n = (rs, c)) (hc : c ≠ 0) : rs = s := opD_ref h hc fun r2 hb => by
  unfold copyB at hb
  split at hb
  · exact (Prod.mk.inj hb).1.symm
  split at hb
  · exact (hc (Prod.mk.inj hb).2.symm).elim
  · exact (Prod.mk.inj hb).1.symm
theorem named_of_mem {n : ByteArray} {l : List DBox} {y : DBox} (hy : y ∈ l) (hn : y.name = n) : 0 ≤ boxNamed n l := by
  by_cases h : boxNamed n l < 0
  · exact (named_none h y hy hn).elim
  · omega
theorem named_not {n : ByteArray} {l : List DBox} (h : ∀ y ∈ l, y.name ≠ n) : boxNamed n l < 0 := by
  have : boxNamed n l = -1 := firstI_miss fun j hj => decide_eq_false (h _ (List.getElem_mem hj))
  omega
theorem named_lt {n : ByteArray} {l : List DBox} (h : 0 ≤ boxNamed n l) : ∃ k, ∃ hk : k < l.length, boxNamed n l = k ∧ l[k].name = n := by
  rcases firstI_spec (fun b : DBox => decide (b.name = n)) l with ⟨-, h2⟩ | ⟨i, hi, h1, h2, -⟩
  · have : boxNamed n l = -1 := h2
    omega
  · exact ⟨i, hi, h1, of_decide_eq_true h2⟩
theorem rise_names {l : List DBox} (h : Rise l) {i j : Nat} (hi : i < l.length) (hj : j < l.length) (e : l[i].name = l[j].name) : i = j := by
  rcases Nat.lt_trichotomy i j with h1 | h1 | h1
  · have h2 := List.pairwise_iff_getElem.1 h i j hi hj h1
    rw [e, nameLt_irrefl] at h2
    cases h2
  · exact h1
  · have h2 := List.pairwise_iff_getElem.1 h j i hj hi h1
    rw [e, nameLt_irrefl] at h2
    cases h2
theorem with_own {l : List DBox} (h : BoxesP l) {i : Nat} (hi : i < l.length) : boxWith l[i].validity l = i := by
  obtain ⟨h0, -, -, h3⟩ := h.1 i hi
  exact h3
theorem atD_own {l : List DBox} {m : DCommit} (h : BoxesP l) {i : Nat} (hi : i < l.length) (hv : m.validity = l[i].validity) : atD l m = i := by
  unfold atD
  rw [hv, with_own h hi]
  rfl
theorem make_zero {s rs : DStore} {n : ByteArray} (h : makeD s n = (rs, 0)) : StoreP rs ∧ 0 ≤ boxNamed n rs.boxes := by
  obtain ⟨hs, -, hb⟩ := opD_zero h
  unfold makeB at hb
  split at hb
  · have := (Prod.mk.inj hb).2
    simp at this
  · obtain ⟨hc, rfl⟩ := one_zero hb
    refine ⟨storeP_com hs hc, named_of_mem (y := ⟨n, s.given + 1, 1, []⟩) ((appD_perf hc.1 _).2 ?_) rfl⟩
    unfold perfD
    rw [if_pos rfl]
    simp
theorem drop_zero {s rs : DStore} {n : ByteArray} (h : dropD s n = (rs, 0)) : StoreP rs ∧ boxNamed n rs.boxes < 0 := by
  obtain ⟨hs, -, hb⟩ := opD_zero h
  unfold dropB at hb
  split at hb
  · have := (Prod.mk.inj hb).2
    simp at this
  split at hb
  · have := (Prod.mk.inj hb).2
    simp at this
  rename_i h1 h2
  obtain ⟨hc, rfl⟩ := one_zero hb
  refine ⟨storeP_com hs hc, named_not fun y hy => ?_⟩
  obtain ⟨i, hi, hz, hn⟩ := named_lt (n := n) (l := s.boxes) (by omega)
  have hy2 := (appD_perf hc.1 y).1 hy
  have ha : atD s.boxes ⟨2, (theD s.boxes (boxNamed n s.boxes).toNat).validity, 0, 0, ⟨#[]⟩, ⟨#[]⟩⟩ = i := atD_own hc.1.1 hi (by show (theD s.boxes _).validity = _; rw [hz, Int.toNat_natCast, theD_of hi])
  unfold perfD at hy2
  rw [if_neg (show ¬ (2 : Int) = 1 by decide), if_pos rfl, ha] at hy2
  obtain ⟨j, hj, hne, rfl⟩ := List.mem_eraseIdx_iff_getElem.1 hy2
  intro e
  exact hne (rise_names (boxesP_rise hc.1.1) hj hi (e.trans hn.symm))
theorem name_zero {s rs : DStore} {n t : ByteArray} (h : nameD s n t = (rs, 0)) : StoreP rs ∧ 0 ≤ boxNamed t rs.boxes ∧ boxNamed n rs.boxes < 0 := by
  obtain ⟨hs, -, hb⟩ := opD_zero h
  unfold nameB at hb
  split at hb
  · have := (Prod.mk.inj hb).2
    simp at this
  split at hb
  · have := (Prod.mk.inj hb).2
    simp at this
  split at hb
  · have := (Prod.mk.inj hb).2
    simp at this
  rename_i h1 h2 h3
  obtain ⟨hc, rfl⟩ := one_zero hb
  obtain ⟨i, hi, hz, hn⟩ := named_lt (n := n) (l := s.boxes) (by omega)
  have ha : atD s.boxes ⟨3, (theD s.boxes (boxNamed n s.boxes).toNat).validity, 0, 0, t, ⟨#[]⟩⟩ = i := atD_own hc.1.1 hi (by show (theD s.boxes _).validity = _; rw [hz, Int.toNat_natCast, theD_of hi])
  have hp : perfD s.boxes ⟨3, (theD s.boxes (boxNamed n s.boxes).toNat).validity, 0, 0, t, ⟨#[]⟩⟩ = s.boxes.set i ⟨t, s.boxes[i].validity, s.boxes[i].next, s.boxes[i].msgs⟩ := by
    unfold perfD
    rw [if_neg (show ¬ (3 : Int) = 1 by decide), if_neg (show ¬ (3 : Int) = 2 by decide), ha, theD_of hi]
    rfl
  have htn : t ≠ n := fun e => named_none (s := t) (l := s.boxes) (by omega) _ (List.getElem_mem hi) (by rw [hn, e])
  refine ⟨storeP_com hs hc, named_of_mem (y := ⟨t, s.boxes[i].validity, s.boxes[i].next, s.boxes[i].msgs⟩) ((appD_perf hc.1 _).2 ?_) rfl, named_not fun y hy => ?_⟩
  · rw [hp]
    exact List.mem_iff_getElem.2 ⟨i, by simpa using hi, by simp⟩
  · have hy2 := (appD_perf hc.1 y).1 hy
    rw [hp] at hy2
    obtain ⟨j, hj, rfl⟩ := List.mem_iff_getElem.1 hy2
    have hj2 : j < s.boxes.length := by simpa using hj
    rw [List.getElem_set]
    split
    · exact htn
    · rename_i hne
      intro e
      exact hne (rise_names (boxesP_rise hc.1.1) hj2 hi (e.trans hn.symm)).symm
theorem boxNamed_map (n : ByteArray) (l : List DBox) : boxNamed n l = firstI (fun y => decide (y = n)) (l.map DBox.name) := by
  rw [firstI_map]; rfl
theorem boxNamed_set (n : ByteArray) (l : List DBox) (i : Nat) (hi : i < l.length) (x : DBox) (hx : x.name = l[i].name) : boxNamed n (l.set i x) = boxNamed n l := by
  rw [boxNamed_map, boxNamed_map]
  congr 1
  rw [List.map_set, hx]
  refine List.ext_getElem (by simp) fun k h1 h2 => ?_
  rw [List.getElem_set]
  by_cases hk : i = k
  · subst hk; simp
  · rw [if_neg hk]
theorem com_set {s : DStore} {m : DCommit} {k : Nat} (hk : k < s.boxes.length) (hb : boxWith m.validity s.boxes = k) (h1 : m.kind ≠ 1) (h2 : m.kind ≠ 2) (h3 : m.kind ≠ 3) : (comD s m).boxes = s.boxes.set k (newD s.boxes[k] m) := by
  show appD s.boxes m = _
  have ha : atD s.boxes m = k := by unfold atD; rw [hb]; rfl
  unfold appD
  rw [if_neg h1, if_neg h2, if_neg h3, ha, theD_of hk]
/-- a message that was put -/
theorem put_zero {s rs : DStore} {n : ByteArray} {f : Int} {t : ByteArray} (h : putD s n f t = (rs, 0)) : StoreP rs ∧ ∃ k, ∃ hk : k < s.boxes.length, boxNamed n s.boxes = k ∧ boxNamed n rs.boxes = k ∧
    rs.boxes = s.boxes.set k ⟨s.boxes[k].name, s.boxes[k].validity, s.boxes[k].next + 1, s.boxes[k].msgs ++ [⟨s.boxes[k].next, f, t⟩]⟩ := by
  obtain ⟨hs, -, hb⟩ := opD_zero h
  unfold putB at hb
  split at hb
  · have := (Prod.mk.inj hb).2
    simp at this
  rename_i h1
  obtain ⟨hc, rfl⟩ := one_zero hb
  obtain ⟨i, hi, hz, hn⟩ := named_lt (n := n) (l := s.boxes) (by omega)
  have hth : theD s.boxes (boxNamed n s.boxes).toNat = s.boxes[i] := by rw [hz, Int.toNat_natCast, theD_of hi]
  rw [hth] at hc ⊢
  have he : (comD s ⟨4, s.boxes[i].validity, s.boxes[i].next, f, ⟨#[]⟩, t⟩).boxes = s.boxes.set i ⟨s.boxes[i].name, s.boxes[i].validity, s.boxes[i].next + 1, s.boxes[i].msgs ++ [⟨s.boxes[i].next, f, t⟩]⟩ := by
    rw [com_set hi (with_own hc.1.1 hi) (show ¬ (4 : Int) = 1 by decide) (show ¬ (4 : Int) = 2 by decide) (show ¬ (4 : Int) = 3 by decide)]
    rfl
  refine ⟨storeP_com hs hc, i, hi, hz, ?_, he⟩
  rw [he]
  exact (boxNamed_set n s.boxes i hi _ (by rfl)).trans hz
/-- what a step does to the messages of its mailbox -/
def StepF (v : Int) (g : DMsg → Option DCommit) (F : Int → List DMsg → List DMsg) : Prop := ∀ (s : DStore) (k : Nat) (hk : k < s.boxes.length) (u : Int), StoreP s → boxWith v s.boxes = k →
  (stepM v g s u = none → F u s.boxes[k].msgs = s.boxes[k].msgs) ∧ ∀ c, stepM v g s u = some c → ComP s c → c.validity = v ∧ (c.kind = 5 ∨ c.kind = 6) ∧ (newD s.boxes[k] c).msgs = F u s.boxes[k].msgs ∧ (newD s.boxes[k] c).next = s.boxes[k].next
theorem steps_fold {v : Int} {g : DMsg → Option DCommit} {F : Int → List DMsg → List DMsg} (hF : StepF v g F) : ∀ (us : List Int) (s rs : DStore) (k : Nat) (hk : k < s.boxes.length), StoreP s → boxWith v s.boxes = k → stepsD v g s us = (rs, true) →
    StoreP rs ∧ boxWith v rs.boxes = k ∧ rs.boxes.length = s.boxes.length ∧ ∃ hk2 : k < rs.boxes.length, rs.boxes[k].msgs = us.foldl (fun l u => F u l) s.boxes[k].msgs ∧ rs.boxes[k].next = s.boxes[k].next
  | [], s, rs, k, hk, hs, hb, h => by
    obtain rfl : s = rs := (Prod.mk.inj h).1
    exact ⟨hs, hb, rfl, hk, rfl, rfl⟩
  | u :: us, s, rs, k, hk, hs, hb, h => by
    obtain ⟨h1, h2⟩ := hF s k hk u hs hb
    cases hm : stepM v g s u with
    | none =>
      rw [steps_skip hm] at h
      have := steps_fold hF us s rs k hk hs hb h
      rw [List.foldl_cons, h1 hm]
      exact this
    | some c =>
      obtain ⟨r, hr⟩ := boolOf (ComP s c)
      cases r with
      | false =>
        rw [(steps_no (rs := s) hm ⟨hr, rfl⟩).1] at h
        have := (Prod.mk.inj h).2
        cases this
      | true =>
        rw [steps_do (rs := comD s c) hm ⟨hr, rfl⟩] at h
        obtain ⟨q1, q2, q3, q4⟩ := h2 c hm (yes_of hr)
        have he := com_set (s := s) (m := c) hk (by rw [q1]; exact hb) (by omega) (by omega) (by omega)
        have hk2 : k < (comD s c).boxes.length := by rw [he]; simpa using hk
        have hx : (comD s c).boxes[k] = newD s.boxes[k] c := by simp only [he, List.getElem_set_self]
        have hw : boxWith v (comD s c).boxes = k := by rw [he, boxWith_set _ _ _ hk _ (newD_val _ _)]; exact hb
        obtain ⟨r1, r2, r3, r4, r5, r6⟩ := steps_fold hF us (comD s c) rs k hk2 (storeP_com hs (yes_of hr)) hw h
        refine ⟨r1, r2, by rw [r3, he]; simp, r4, ?_, ?_⟩
        · rw [r5, hx, List.foldl_cons, q3]
        · rw [r6, hx, q4]
theorem stepM_cases {v : Int} {g : DMsg → Option DCommit} {s : DStore} {u : Int} {k : Nat} (hk : k < s.boxes.length) (hb : boxWith v s.boxes = k) :
    (placeOf u s.boxes[k].msgs < 0 ∧ stepM v g s u = none) ∨ ∃ j, ∃ hj : j < s.boxes[k].msgs.length, placeOf u s.boxes[k].msgs = j ∧ s.boxes[k].msgs[j].uid = u ∧ stepM v g s u = g s.boxes[k].msgs[j] := by
  by_cases hp : placeOf u s.boxes[k].msgs < 0
  · exact Or.inl ⟨hp, stepM_none hk hb hp⟩
  · have h2 : pl u s.boxes[k].msgs < s.boxes[k].msgs.length := pl_lt (by omega)
    have hj : placeOf u s.boxes[k].msgs = (pl u s.boxes[k].msgs : Nat) := by unfold pl; omega
    exact Or.inr ⟨pl u s.boxes[k].msgs, h2, hj, uid_at h2 hj, stepM_some hk hb h2 hj⟩
theorem msgs_ne {b : DBox} (h : BoxQ b) {i j : Nat} (hi : i < b.msgs.length) (hj : j < b.msgs.length) (e : b.msgs[i].uid = b.msgs[j].uid) : i = j := by
  have hp := h.2.2.2.2.2
  rcases Nat.lt_trichotomy i j with h1 | h1 | h1
  · have := List.pairwise_iff_getElem.1 hp i j hi hj h1; omega
  · exact h1
  · have := List.pairwise_iff_getElem.1 hp j i hj hi h1; omega
theorem store_box {s : DStore} (h : StoreP s) {k : Nat} (hk : k < s.boxes.length) : BoxQ s.boxes[k] := ((boxes_iff _).1 (storeP_boxes h)).1 _ (List.getElem_mem hk)
theorem place_none {u : Int} {l : List DMsg} (h : placeOf u l < 0) : ∀ y ∈ l, y.uid ≠ u := fun y hy => of_decide_eq_false (firstI_none h y hy)
/-- deleted -/
def delM (m : DMsg) : Bool := !(bits .and .i64 m.flags 8 == 0)
def goneF (u : Int) (l : List DMsg) : List DMsg := l.filter fun m => !(decide (m.uid = u) && delM m)
theorem purge_step (v : Int) : StepF v (gPurge v) goneF := fun s k hk u hs hb => by
  rcases stepM_cases (g := gPurge v) (u := u) hk hb with ⟨hp, hm⟩ | ⟨j, hj, hp, hu, hm⟩
  · rw [hm]
    refine ⟨fun _ => List.filter_eq_self.2 fun y hy => ?_, fun c hc => (by cases hc)⟩
    rw [decide_eq_false (place_none hp y hy)]; rfl
  · rw [hm]
    have hq := store_box hs hk
    by_cases hd : bits .and .i64 s.boxes[k].msgs[j].flags 8 = 0
    · rw [gPurge_none hd]
      refine ⟨fun _ => List.filter_eq_self.2 fun y hy => ?_, fun c hc => (by cases hc)⟩
      obtain ⟨i, hi, rfl⟩ := List.mem_iff_getElem.1 hy
      by_cases e : s.boxes[k].msgs[i].uid = u
      · obtain rfl := msgs_ne hq hi hj (e.trans hu.symm)
        simp [delM, hd]
      · simp [e]
    · rw [gPurge_some hd]
      refine ⟨fun h => (by cases h), fun c hc _ => ?_⟩
      obtain rfl := Option.some.inj hc
      have hpl : pl s.boxes[k].msgs[j].uid s.boxes[k].msgs = j := by unfold pl; rw [hu, hp]; rfl
      refine ⟨rfl, Or.inr rfl, ?_, rfl⟩
      show s.boxes[k].msgs.eraseIdx (pl s.boxes[k].msgs[j].uid s.boxes[k].msgs) = goneF u s.boxes[k].msgs
      rw [hpl]
      unfold goneF
      obtain ⟨L, hL⟩ : ∃ L, s.boxes[k].msgs = L := ⟨_, rfl⟩
      have hne : ∀ i (hi : i < L.length), L[i].uid = u → i = j := fun i hi e => by
        subst hL
        exact msgs_ne hq hi hj (e.trans hu.symm)
      have hjL : j < L.length := by rw [← hL]; exact hj
      have hdL : delM L[j] = true := by subst hL; simp [delM, hd]
      have huL : L[j].uid = u := by subst hL; exact hu
      rw [hL]
      have hsplit : L = L.take j ++ L[j] :: L.drop (j + 1) := by rw [← List.drop_eq_getElem_cons hjL, List.take_append_drop]
      rw [List.eraseIdx_eq_take_drop_succ]
      conv => rhs; rw [hsplit]
      rw [List.filter_append, List.filter_cons, if_neg (by simp [huL, hdL])]
      congr 1
      · refine (List.filter_eq_self.2 fun y hy => ?_).symm
        obtain ⟨i, hi, rfl⟩ := List.mem_iff_getElem.1 hy
        have hi2 : i < j ∧ i < L.length := by simp at hi; omega
        rw [List.getElem_take]
        have : L[i].uid ≠ u := fun e => by have := hne i hi2.2 e; omega
        simp [this]
      · refine (List.filter_eq_self.2 fun y hy => ?_).symm
        obtain ⟨i, hi, rfl⟩ := List.mem_iff_getElem.1 hy
        have hi2 : j + 1 + i < L.length := by simp at hi; omega
        rw [List.getElem_drop]
        have : L[j + 1 + i].uid ≠ u := fun e => by have := hne (j + 1 + i) hi2 e; omega
        simp [this]
theorem gone_mem (x : DMsg) : ∀ (us : List Int) (l : List DMsg), x ∈ us.foldl (fun l u => goneF u l) l ↔ x ∈ l ∧ ¬ (x.uid ∈ us ∧ delM x = true)
  | [], l => by simp
  | u :: us, l => by
    rw [List.foldl_cons, gone_mem x us]
    unfold goneF
    rw [List.mem_filter]
    by_cases hd : delM x = true <;> by_cases hu : x.uid = u <;> simp [hd, hu]
/-- just those that are meant and to be deleted are gone -/
theorem purge_zero {s rs : DStore} {v : Int} {us : List Int} (h : purgeD s v us = (rs, 0)) : StoreP rs ∧ ∃ k, ∃ hk : k < s.boxes.length, ∃ hk2 : k < rs.boxes.length, boxWith v s.boxes = k ∧ rs.boxes[k].next = s.boxes[k].next ∧
    ∀ j (hj : j < s.boxes[k].msgs.length), placeOf s.boxes[k].msgs[j].uid rs.boxes[k].msgs < 0 ↔ (s.boxes[k].msgs[j].uid ∈ us ∧ delM s.boxes[k].msgs[j] = true) := by
  obtain ⟨hs, -, hb⟩ := opD_zero h
  unfold stepsB at hb
  split at hb
  · have := (Prod.mk.inj hb).2
    simp at this
  rename_i hneg
  split at hb
  · rename_i hok
    obtain ⟨k, hk, hz⟩ := with_lt (v := v) (l := s.boxes) (by omega)
    have he : stepsD v (gPurge v) s us = (rs, true) := by
      rw [← (Prod.mk.inj hb).1, ← hok]
    obtain ⟨r1, r2, r3, r4, r5, r6⟩ := steps_fold (purge_step v) us s rs k hk hs hz he
    refine ⟨r1, k, hk, r4, hz, r6, fun j hj => ?_⟩
    have hq := store_box hs hk
    constructor
    · intro hp
      refine Classical.byContradiction fun hn => ?_
      have : s.boxes[k].msgs[j] ∈ rs.boxes[k].msgs := by
        rw [r5]
        exact (gone_mem _ us _).2 ⟨List.getElem_mem hj, hn⟩
      exact place_none hp _ this rfl
    · intro hg
      refine Classical.byContradiction fun hn => ?_
      have hlt := pl_lt (u := s.boxes[k].msgs[j].uid) (l := rs.boxes[k].msgs) (by omega)
      have hu := uid_at (u := s.boxes[k].msgs[j].uid) hlt (by unfold pl; omega)
      obtain ⟨x, hx⟩ : ∃ x, rs.boxes[k].msgs[pl s.boxes[k].msgs[j].uid rs.boxes[k].msgs] = x := ⟨_, rfl⟩
      have hmem : x ∈ rs.boxes[k].msgs := hx ▸ List.getElem_mem hlt
      rw [hx] at hu
      rw [r5] at hmem
      obtain ⟨h1, h2⟩ := (gone_mem _ us _).1 hmem
      obtain ⟨i, hi, e⟩ := List.mem_iff_getElem.1 h1
      have hij : i = j := msgs_ne hq hi hj (by rw [e]; exact hu)
      subst hij
      rw [← e] at h2
      exact h2 hg
  · have := (Prod.mk.inj hb).2
    simp at this
theorem ofInt_wrap (x : BitVec 64) : BitVec.ofInt 64 (IntKind.i64.wrap (x.toNat : Int)) = x := by
  apply BitVec.eq_of_toNat_eq
  have hx := x.isLt
  rw [BitVec.toNat_ofInt]
  rw [IntKind.wrap_i64]
  omega
theorem or_again (o b : Int) : bits .or .i64 (bits .or .i64 o b) b = bits .or .i64 o b := by
  have e : ∀ x y, bits .or .i64 x y = IntKind.i64.wrap (((BitVec.ofInt 64 x ||| BitVec.ofInt 64 y).toNat : Nat) : Int) := fun x y => rfl
  rw [e (bits .or .i64 o b) b, e o b, ofInt_wrap, BitVec.or_assoc, BitVec.or_self]
theorem not_again (o b : Int) : bits .andNot .i64 (bits .andNot .i64 o b) b = bits .andNot .i64 o b := by
  have e : ∀ x y, bits .andNot .i64 x y = IntKind.i64.wrap (((BitVec.ofInt 64 x &&& ~~~ BitVec.ofInt 64 y).toNat : Nat) : Int) := fun x y => rfl
  rw [e (bits .andNot .i64 o b) b, e o b, ofInt_wrap, BitVec.and_assoc, BitVec.and_self]
theorem chgZ_again (op o b : Int) : chgZ op (chgZ op o b) b = chgZ op o b := by
  unfold chgZ
  by_cases h1 : op = 1
  · simp only [if_pos h1]; exact or_again o b
  by_cases h2 : op = 2
  · simp only [if_neg h1, if_pos h2]; exact not_again o b
  by_cases h3 : op = 3
  · simp only [if_neg h1, if_neg h2, if_pos h3]
  · simp only [if_neg h1, if_neg h2, if_neg h3]
theorem chgF_again (op o b : Int) : chgF op (chgF op o b) b = chgF op o b := by
  unfold chgF
  by_cases h : (0 ≤ o ∧ o ≤ 31) ∧ (0 ≤ b ∧ b ≤ 31)
  · rw [if_pos h]
    split
    · exact chgZ_again op o b
    · rfl
  · rw [if_neg h, if_neg h]
def chM (op bi : Int) (m : DMsg) : DMsg := ⟨m.uid, chgF op m.flags bi, m.text⟩
def chgL (op bi u : Int) (l : List DMsg) : List DMsg := l.map fun m => if m.uid = u then chM op bi m else m
theorem set_step (v op bi : Int) : StepF v (gSet v op bi) (chgL op bi) := fun s k hk u hs hb => by
  rcases stepM_cases (g := gSet v op bi) (u := u) hk hb with ⟨hp, hm⟩ | ⟨j, hj, hp, hu, hm⟩
  · rw [hm]
    refine ⟨fun _ => ?_, fun c hc => (by cases hc)⟩
    unfold chgL
    conv => rhs; rw [← List.map_id s.boxes[k].msgs]
    refine List.map_congr_left fun y hy => ?_
    rw [if_neg (place_none hp y hy)]; rfl
  · rw [hm]
    have hq := store_box hs hk
    by_cases hd : chgF op s.boxes[k].msgs[j].flags bi = s.boxes[k].msgs[j].flags
    · rw [gSet_none hd]
      refine ⟨fun _ => ?_, fun c hc => (by cases hc)⟩
      unfold chgL
      conv => rhs; rw [← List.map_id s.boxes[k].msgs]
      refine List.map_congr_left fun y hy => ?_
      obtain ⟨i, hi, rfl⟩ := List.mem_iff_getElem.1 hy
      by_cases e : s.boxes[k].msgs[i].uid = u
      · obtain rfl := msgs_ne hq hi hj (e.trans hu.symm)
        rw [if_pos e]
        unfold chM
        rw [hd]
        rfl
      · rw [if_neg e]; rfl
    · rw [gSet_some rfl hd]
      refine ⟨fun h => (by cases h), fun c hc _ => ?_⟩
      obtain rfl := Option.some.inj hc
      have hpl : pl s.boxes[k].msgs[j].uid s.boxes[k].msgs = j := by unfold pl; rw [hu, hp]; rfl
      refine ⟨rfl, Or.inl rfl, ?_, rfl⟩
      show s.boxes[k].msgs.set (pl s.boxes[k].msgs[j].uid s.boxes[k].msgs) ⟨(theM s.boxes[k].msgs (pl s.boxes[k].msgs[j].uid s.boxes[k].msgs)).uid, chgF op s.boxes[k].msgs[j].flags bi, (theM s.boxes[k].msgs (pl s.boxes[k].msgs[j].uid s.boxes[k].msgs)).text⟩ = chgL op bi u s.boxes[k].msgs
      rw [hpl, theM_of hj]
      unfold chgL
      refine List.ext_getElem (by simp) fun i h1 h2 => ?_
      rw [List.getElem_set, List.getElem_map]
      by_cases e : j = i
      · subst e
        rw [if_pos rfl, if_pos hu]; rfl
      · have hi : i < s.boxes[k].msgs.length := by simpa using h1
        rw [if_neg e, if_neg fun e2 => e (msgs_ne hq hi hj (e2.trans hu.symm)).symm]
theorem chg_fold (op bi : Int) : ∀ (us : List Int) (l : List DMsg), us.foldl (fun l u => chgL op bi u l) l = l.map fun m => if m.uid ∈ us then chM op bi m else m
  | [], l => by simp
  | u :: us, l => by
    rw [List.foldl_cons, chg_fold op bi us]
    unfold chgL
    rw [List.map_map]
    refine List.map_congr_left fun m hm => ?_
    show (if (if m.uid = u then chM op bi m else m).uid ∈ us then chM op bi (if m.uid = u then chM op bi m else m) else (if m.uid = u then chM op bi m else m)) = _
    by_cases hu : m.uid = u
    · have hu2 : m.uid ∈ u :: us := by rw [hu]; exact List.mem_cons_self
      rw [if_pos hu, if_pos hu2]
      split
      · unfold chM
        show (⟨m.uid, chgF op (chgF op m.flags bi) bi, m.text⟩ : DMsg) = _
        rw [chgF_again]
      · rfl
    · rw [if_neg hu]
      have hiff : m.uid ∈ u :: us ↔ m.uid ∈ us := by simp [hu]
      by_cases hm2 : m.uid ∈ us
      · rw [if_pos hm2, if_pos (hiff.2 hm2)]
      · rw [if_neg hm2, if_neg (fun h => hm2 (hiff.1 h))]
theorem steps_none {v : Int} {g : DMsg → Option DCommit} {s : DStore} : ∀ us : List Int, (∀ u ∈ us, stepM v g s u = none) → stepsD v g s us = (s, true)
  | [], _ => rfl
  | u :: us, h => by
    rw [steps_skip (h u (by simp))]
    exact steps_none us fun x hx => h x (by simp [hx])
/-- flags of those that are meant are changed, of others not; done again nothing is -/
theorem set_zero {s rs : DStore} {v : Int} {us : List Int} {op bi : Int} (h : setD s v us op bi = (rs, 0)) : StoreP rs ∧ setD rs v us op bi = (rs, 0) ∧ ∃ k, ∃ hk : k < s.boxes.length, ∃ hk2 : k < rs.boxes.length, boxWith v s.boxes = k ∧
    rs.boxes[k].msgs = s.boxes[k].msgs.map fun m => if m.uid ∈ us then chM op bi m else m := by
  obtain ⟨hs, hp, hb⟩ := opD_zero h
  unfold stepsB at hb
  split at hb
  · have := (Prod.mk.inj hb).2
    simp at this
  rename_i hneg
  split at hb
  · rename_i hok
    obtain ⟨k, hk, hz⟩ := with_lt (v := v) (l := s.boxes) (by omega)
    have he : stepsD v (gSet v op bi) s us = (rs, true) := by
      rw [← (Prod.mk.inj hb).1, ← hok]
    obtain ⟨r1, r2, r3, r4, r5, r6⟩ := steps_fold (set_step v op bi) us s rs k hk hs hz he
    rw [chg_fold] at r5
    refine ⟨r1, ?_, k, hk, r4, hz, r5⟩
    have hn : stepsD v (gSet v op bi) rs us = (rs, true) := by
      refine steps_none us fun u hu => ?_
      rcases stepM_cases (g := gSet v op bi) (u := u) r4 r2 with ⟨-, hm⟩ | ⟨j, hj, -, hju, hm⟩
      · exact hm
      · rw [hm]
        refine gSet_none ?_
        obtain ⟨M, hM⟩ : ∃ M, rs.boxes[k].msgs = M := ⟨_, rfl⟩
        have hj2 : j < M.length := by rw [← hM]; exact hj
        have e1 : rs.boxes[k].msgs[j] = M[j] := by subst hM; rfl
        rw [e1] at hju ⊢
        rw [hM] at r5
        subst r5
        rw [List.getElem_map] at hju ⊢
        by_cases e : (s.boxes[k].msgs[j]'(by simpa using hj2)).uid ∈ us
        · rw [if_pos e]
          exact chgF_again _ _ _
        · rw [if_neg e] at hju
          exact (e (by rw [hju]; exact hu)).elim
    unfold setD
    rw [opD_yes r1 hp]
    unfold stepsB
    rw [if_neg (by rw [r2]; omega), hn, if_pos rfl]
  · have := (Prod.mk.inj hb).2
    simp at this
/-- the messages that were put, numbered -/
def putsL : Int → List DMsg → List DMsg
  | _, [] => []
  | x, m :: ms => ⟨x, m.flags, m.text⟩ :: putsL (x + 1) ms
theorem puts_len : ∀ (x : Int) (ms : List DMsg), (putsL x ms).length = ms.length
  | _, [] => rfl
  | x, m :: ms => by rw [putsL, List.length_cons, puts_len (x + 1) ms, List.length_cons]
theorem puts_get : ∀ (x : Int) (ms : List DMsg) (i : Nat) (hi : i < ms.length) (hi2 : i < (putsL x ms).length), (putsL x ms)[i].flags = ms[i].flags ∧ (putsL x ms)[i].text = ms[i].text
  | x, m :: ms, 0, hi, hi2 => ⟨rfl, rfl⟩
  | x, m :: ms, i + 1, hi, hi2 => puts_get (x + 1) ms i (by simpa using hi) (by simpa [putsL] using hi2)
theorem cp_all (tv : Int) : ∀ (ms : List DMsg) (x : Int) (s t : DStore) (k : Nat) (hk : k < s.boxes.length), StoreP s → s.boxes[k].validity = tv → s.boxes[k].next = x → cmtAll s (cpLog tv x ms) = (t, true) →
    StoreP t ∧ ∃ hk2 : k < t.boxes.length, t.boxes[k].msgs = s.boxes[k].msgs ++ putsL x ms
  | [], x, s, t, k, hk, hs, hv, hx, h => by
    obtain rfl : s = t := (Prod.mk.inj h).1
    exact ⟨hs, hk, by simp [putsL]⟩
  | m :: ms, x, s, t, k, hk, hs, hv, hx, h => by
    obtain ⟨r, hr⟩ := boolOf (ComP s ⟨4, tv, x, m.flags, ⟨#[]⟩, m.text⟩)
    rw [cpLog, cmtAll_cons _ _ _ hr] at h
    cases r with
    | false => have := (Prod.mk.inj h).2; cases this
    | true =>
      rw [if_pos rfl] at h
      have hc := yes_of hr
      obtain ⟨hi2, p1, p2, p3⟩ := put_next hk hv hc
      have he := com_set (s := s) (m := ⟨4, tv, x, m.flags, ⟨#[]⟩, m.text⟩) hk (by rw [← hv]; exact with_own hc.1.1 hk) (show ¬ (4 : Int) = 1 by decide) (show ¬ (4 : Int) = 2 by decide) (show ¬ (4 : Int) = 3 by decide)
      obtain ⟨q1, q2, q3⟩ := cp_all tv ms (x + 1) _ t k hi2 (storeP_com hs hc) p1 p2 h
      refine ⟨q1, q2, ?_⟩
      rw [q3]
      have hm : (comD s ⟨4, tv, x, m.flags, ⟨#[]⟩, m.text⟩).boxes[k].msgs = s.boxes[k].msgs ++ [⟨x, m.flags, m.text⟩] := by
        simp only [he, List.getElem_set_self]
        rfl
      rw [hm, putsL, List.append_assoc]
      rfl
theorem hits_append (l : List DMsg) : ∀ a b : List Int, hitsOf l (a ++ b) = hitsOf l a ++ hitsOf l b
  | [], b => rfl
  | u :: a, b => by
    rw [List.cons_append, hitsOf, hitsOf, hits_append l a b]
    split <;> rfl
/-- all that are meant are copied, in order -/
theorem copy_zero {s rs : DStore} {v : Int} {us : List Int} {n : ByteArray} (h : copyD s v us n = (rs, 0)) : StoreP rs ∧ ∃ f, ∃ hf : f < s.boxes.length, ∃ k, ∃ hk : k < s.boxes.length, ∃ hk2 : k < rs.boxes.length, boxWith v s.boxes = f ∧ boxNamed n s.boxes = k ∧
    rs.boxes[k].msgs = s.boxes[k].msgs ++ putsL s.boxes[k].next (hitsOf s.boxes[f].msgs us) := by
  obtain ⟨hs, -, hb⟩ := opD_zero h
  unfold copyB at hb
  split at hb
  · have := (Prod.mk.inj hb).2
    simp at this
  rename_i hneg
  split at hb
  · rename_i hok
    obtain ⟨f, hf, hz⟩ := with_lt (v := v) (l := s.boxes) (by omega)
    obtain ⟨k, hk, hzn, -⟩ := named_lt (n := n) (l := s.boxes) (by omega)
    have e1 : fromD s v = s.boxes[f] := by unfold fromD; rw [hz, Int.toNat_natCast, theD_of hf]
    have e2 : toD s n = s.boxes[k] := by unfold toD; rw [hzn, Int.toNat_natCast, theD_of hk]
    rw [e1, e2] at hb hok
    have he : cmtAll s (cpLog s.boxes[k].validity s.boxes[k].next (hitsOf s.boxes[f].msgs us)) = (rs, true) := by
      rw [← (Prod.mk.inj hb).1, ← hok]
    obtain ⟨q1, q2, q3⟩ := cp_all _ _ _ s rs k hk hs rfl rfl he
    exact ⟨q1, f, hf, k, hk, q2, hz, hzn, q3⟩
  · have := (Prod.mk.inj hb).2
    simp at this
end Go.Proofs.YtjcnhkmhcfmoeaaGreat

namespace Go.Proofs.YtjcnhkmhcfmoeaaGreat
open Go.RowKit
set_option linter.unusedVariables false
set_option linter.unusedSimpArgs false

theorem same_ext {w w' : World} (h : w' = w) : Ext w w' := h ▸ Below.refl _ _
structure Sq (w : World) (ba : Option Addr) (bc : Nat) (zs : List PBox) (la : Option Addr) (lc : Nat) (lg : List DCommit) : Prop where
  rd : Rd w ba bc 4 zs.length (zs.flatMap PBox.cells)
  rdm : RdM w zs
  rl : Rd w la lc 6 lg.length (lg.flatMap DCommit.cells)
  len : zs.length ≤ 5
  sm : SmB 6 zs
  ll : lg.length ≤ 320
  sl : SmL lg
theorem Sq.ext {w w' : World} {ba la : Option Addr} {bc lc : Nat} {zs : List PBox} {lg : List DCommit} (h : Sq w ba bc zs la lc lg) (hb : Ext w w') : Sq w' ba bc zs la lc lg := ⟨h.rd.ext hb, h.rdm.ext hb, h.rl.ext hb, h.len, h.sm, h.ll, h.sl⟩
theorem OwnRt.sq {w : World} {B E EM EC : Nat} {ba la : Option Addr} {bc lc : Nat} {zs : List PBox} {lg : List DCommit} (h : OwnRt w B E EM EC ba bc zs la lc lg) (hz : zs.length ≤ 5) (hs : SmB 6 zs) (hl : lg.length ≤ 320) (hg : SmL lg) : Sq w ba bc zs la lc lg := ⟨h.rs.rd, h.rs.rdm, Rd.of_Own h.log, hz, hs, hl, hg⟩
theorem empty_size {x : ByteArray} (h : x = ⟨#[]⟩) : x.size ≤ 41 := by rw [h]; decide
theorem commit_small {m : DCommit} (h : CommitP m) : m.name.size ≤ 41 ∧ m.text.size ≤ 41 := by
  obtain ⟨hv, hk⟩ := h
  rcases hk with ⟨-, hn, -, -, ht⟩ | ⟨-, -, -, -, hn, ht⟩ | ⟨-, hn, -, -, ht⟩ | ⟨-, ⟨-, -, ht⟩, hn⟩ | ⟨-, -, hn, ht⟩ | ⟨-, -, -, hn, ht⟩
  · exact ⟨Nat.le_trans hn.2.2 (by omega), empty_size ht⟩
  · exact ⟨empty_size hn, empty_size ht⟩
  · exact ⟨Nat.le_trans hn.2.2 (by omega), empty_size ht⟩
  · exact ⟨empty_size hn, by omega⟩
  · exact ⟨empty_size hn, empty_size ht⟩
  · exact ⟨empty_size hn, empty_size ht⟩
theorem storeP_smL {s : DStore} (h : StoreP s) : SmL s.log := fun y hy => by
  obtain ⟨i, hi, rfl⟩ := List.mem_iff_getElem.1 hy
  have h1 := all_step (log := s.log) (l := []) (by rw [h.1]) i hi
  exact commit_small h1.1.2.1
theorem storeP_small {s : DStore} {zs : List PBox} (h : StoreP s) (hz : zs.map PBox.box = s.boxes) : zs.length ≤ 5 ∧ SmB 6 zs := by
  have hq := (boxes_iff _).1 (storeP_boxes h)
  refine ⟨by have h1 := map_len hz; have := hq.2.2.2; omega, smD_map.1 (by rw [hz]; intro y hy; obtain ⟨q1, q2, q3, q4, q5⟩ := hq.1 y hy; exact ⟨Nat.le_trans q1.2.2 (by omega), q4, fun t ht => Nat.le_trans (q5.1 t ht).2.2 (by omega)⟩)⟩
theorem OwnSt.sq {w w0 : World} {B E EM EC q q2 : Nat} {g g2 : Option Addr} {z2 : List PBox} {rs : DStore} (h : OwnSt w B E EM EC g q z2 g2 q2 rs.log) (hz : z2.map PBox.box = rs.boxes) {zs : List PBox} {ba la : Option Addr} {bc lc : Nat} {lg : List DCommit} {gv : Int} (h0 : Sq w0 ba bc zs la lc lg) (hr : rs = ⟨zs.map PBox.box, lg, gv⟩ ∨ StoreP rs) : Sq w g q z2 g2 q2 rs.log := by
  rcases hr with rfl | hr
  · have h1 : z2.length = zs.length := by have := congrArg List.length hz; simpa using this
    exact ⟨h.box.rd, h.box.rdm, Rd.of_Own h.log, by have := h0.len; omega, smD_map.1 (by rw [hz]; exact smD_map.2 h0.sm), h0.ll, h0.sl⟩
  · obtain ⟨h1, h2⟩ := storeP_small hr hz
    exact ⟨h.box.rd, h.box.rdm, Rd.of_Own h.log, h1, h2, Nat.le_trans hr.2.1 (by omega), storeP_smL hr⟩
theorem specStoreOk_sq (zs : List PBox) (ba : Option Addr) (bc : Nat) (lg : List DCommit) (la : Option Addr) (lc : Nat) (gv : Int) (w : World) (h : Sq w ba bc zs la lc lg) (r : Bool) (Hr : Hid (Tells r (StoreP ⟨zs.map PBox.box, lg, gv⟩))) : Calls Tryz.prog 19 #[.agg #[.slice ba zs.length bc, .slice la lg.length lc, .int .i64 gv]] w fun e w' => e = .returned (.bool r) ∧ Ext w w' :=
  specStoreOk_any zs ba bc lg la lc gv w h.rd h.rdm h.rl (by have := h.len; omega) (fun y hy => by have := (h.sm y hy).2.1; omega) (by have := h.ll; omega) (fun y hy => by have := (h.sm y hy).1; omega) (fun y hy t ht => by have := (h.sm y hy).2.2 t ht; omega) (fun y hy => by have := h.sl y hy; exact ⟨by omega, by omega⟩) r Hr
theorem specSameStore_sq (zs : List PBox) (ba : Option Addr) (bc : Nat) (lg : List DCommit) (la : Option Addr) (lc : Nat) (gv : Int) (z2 : List PBox) (b2 : Option Addr) (c2 : Nat) (l2 : List DCommit) (a2 : Option Addr) (d2 : Nat) (v2 : Int) (w : World) (h : Sq w ba bc zs la lc lg) (k : Sq w b2 c2 z2 a2 d2 l2) (r : Bool) (Hr : Hid (decide (zs.map PBox.box = z2.map PBox.box ∧ lg = l2 ∧ gv = v2) = r)) : Calls Tryz.prog 16 #[.agg #[.slice ba zs.length bc, .slice la lg.length lc, .int .i64 gv], .agg #[.slice b2 z2.length c2, .slice a2 l2.length d2, .int .i64 v2]] w fun e w' => e = .returned (.bool r) ∧ Ext w w' :=
  specSameStore_any zs ba bc lg la lc gv z2 b2 c2 l2 a2 d2 v2 w h.rd h.rdm h.rl k.rd k.rdm k.rl r Hr
end Go.Proofs.YtjcnhkmhcfmoeaaGreat

namespace Go.Proofs.YtjcnhkmhcfmoeaaGreat
open Go.RowKit
set_option linter.unusedVariables false
set_option linter.unusedSimpArgs false

/-- the byte that at0 answers -/
def at0V (l : List Int) (i : Nat) : Int := if h : i < l.length then l[i] else ((i : Int) * 7 + (l.length : Int)) % 256
theorem at0V_range (l : List Int) (i : Nat) (hb : ∀ y ∈ l, 0 ≤ y ∧ y ≤ 255) : 0 ≤ at0V l i ∧ at0V l i ≤ 255 := by
  unfold at0V
  split
  · rename_i h; exact hb _ (List.getElem_mem h)
  · exact ⟨Int.emod_nonneg _ (by omega), by have := Int.emod_lt_of_pos ((i : Int) * 7 + (l.length : Int)) (show (0 : Int) < 256 by omega); omega⟩
set_option maxHeartbeats 1000000 in
theorem at0_eq (l : List Int) (a : Option Addr) (c : Nat) (i : Nat) (w : World) (R : Rd w a c 1 l.length (l.flatMap byteCells)) (hb : ∀ y ∈ l, 0 ≤ y ∧ y ≤ 255) (hl : l.length ≤ 1048576) (hi : i ≤ 100) (r : Int) (Hr : Hid (at0V l i = r)) :
    Calls Tryz.prog 27 #[.slice a l.length c, .int .i64 i] w fun e w' => e = .returned (.int .i64 r) ∧ w = w' := by
  by_cases h : i < l.length
  · obtain rfl : l[i] = r := by rw [← Hr.out]; unfold at0V; rw [dif_pos h]
    obtain ⟨b, o, rfl, hbb, hat⟩ := R.ptr (by omega)
    have hx := byteCells_at hat i h
    have hy := hb _ (List.getElem_mem h)
    have h1 : decide ((i : Int) < (l.length : Int)) = true := decide_eq_true (by omega)
    have h2 : (i : Int) < (l.length : Int) := by omega
    have h3 : (0 : Int) ≤ (i : Int) := by omega
    have HAT := Lib.hid hat
    have HB := Lib.hid hb
    have HR := Lib.hid R
    clear hat hb R
    go_enter Tryz.func27, Tryz.ntmps27
    go_wp2_with fail
    go_ret
    exact ⟨rfl, rfl⟩
  · obtain rfl : ((i : Int) * 7 + (l.length : Int)) % 256 = r := by rw [← Hr.out]; unfold at0V; rw [dif_neg h]
    have h1 : decide ((i : Int) < (l.length : Int)) = false := decide_eq_false (by omega)
    have h3 : decide (i < l.length) = false := decide_eq_false h
    have HB := Lib.hid hb
    have HR := Lib.hid R
    clear hb R
    go_enter Tryz.func27, Tryz.ntmps27
    go_wp2_with fail
    go_ret
    exact ⟨rfl, rfl⟩
end Go.Proofs.YtjcnhkmhcfmoeaaGreat
