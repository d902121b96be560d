/-
  What applying a commit leaves of sorted mailboxes: sorted again, so there is one answer alone.
-/
import Derived.Test.YtadjlfcdjkikgaaDoorWPerf
namespace Go.Proofs.YtadjlfcdjkikgaaDoor
open Go.RowKit
set_option linter.unusedVariables false
set_option linter.unusedSimpArgs false

def Rise (l : List DBox) : Prop := l.Pairwise fun x y => nameLt x.name y.name = true
def layD (l : List DBox) (x : DBox) : List DBox := l.takeWhile (fun y => nameLt y.name x.name) ++ x :: l.dropWhile (fun y => nameLt y.name x.name)
theorem take_tw {α : Type} (p : α → Bool) (l : List α) : l.take (l.takeWhile p).length = l.takeWhile p ∧ l.drop (l.takeWhile p).length = l.dropWhile p := by
  have h := List.takeWhile_append_dropWhile (p := p) (l := l)
  exact ⟨(congrArg (List.take (l.takeWhile p).length) h).symm.trans List.take_left, (congrArg (List.drop (l.takeWhile p).length) h).symm.trans List.drop_left⟩
theorem layP_box (l : List PBox) (x : PBox) : (layP l x).map PBox.box = layD (l.map PBox.box) x.box := by
  unfold layP layAt layD
  rw [(take_tw _ l).1, (take_tw _ l).2, List.takeWhile_map, List.dropWhile_map]
  simp
  rfl
theorem layD_perm (l : List DBox) (x : DBox) : (layD l x).Perm (l ++ [x]) := by
  unfold layD
  refine List.perm_middle.trans ?_
  rw [List.takeWhile_append_dropWhile]
  exact (List.perm_append_singleton x l).symm
theorem nameLt_of_ne {a b : ByteArray} (h : nameLt a b = false) (hn : a ≠ b) : nameLt b a = true := by
  rw [nameLt_total b a, h, str_beq, decide_eq_false hn]; rfl
theorem layD_rise (l : List DBox) (x : DBox) (h : Rise l) (hn : ∀ y ∈ l, y.name ≠ x.name) : Rise (layD l x) := by
  induction l with
  | nil => exact List.pairwise_singleton _ _
  | cons y l ih =>
    obtain ⟨h1, h2⟩ := List.pairwise_cons.1 h
    cases hy : nameLt y.name x.name with
    | true =>
      have he : layD (y :: l) x = y :: layD l x := by
        unfold layD
        rw [List.takeWhile_cons_of_pos (p := fun z : DBox => nameLt z.name x.name) hy, List.dropWhile_cons_of_pos (p := fun z : DBox => nameLt z.name x.name) hy]; rfl
      rw [he]
      refine List.pairwise_cons.2 ⟨fun z hz => ?_, ih h2 (fun z hz => hn z (List.mem_cons_of_mem _ hz))⟩
      rcases List.mem_append.1 ((layD_perm l x).subset hz) with h3 | h3
      · exact h1 z h3
      · rw [List.mem_singleton.1 h3]; exact hy
    | false =>
      have he : layD (y :: l) x = x :: y :: l := by
        unfold layD
        rw [List.takeWhile_cons_of_neg (p := fun z : DBox => nameLt z.name x.name) (by simp [hy]), List.dropWhile_cons_of_neg (p := fun z : DBox => nameLt z.name x.name) (by simp [hy])]; rfl
      rw [he]
      have hx := nameLt_of_ne hy (hn y (by simp))
      refine List.pairwise_cons.2 ⟨fun z hz => ?_, h⟩
      rcases List.mem_cons.1 hz with rfl | h3
      · exact hx
      · exact nameLt_trans hx (h1 z h3)
theorem nameLt_irrefl (a : ByteArray) : nameLt a a = false := by
  cases h : nameLt a a with
  | false => rfl
  | true => rw [nameLt_asymm h] at h; cases h
theorem rise_unique {l t r : List DBox} (h1 : l.Perm t) (h2 : t.Perm r) (hr : Rise r) (hs : l.Pairwise fun x y => nameLt y.name x.name = false) : l = r := by
  refine List.Perm.eq_of_pairwise (le := fun x y => nameLt y.name x.name = false) (fun a b ha hb hab hba => ?_) hs (List.Pairwise.imp (R := fun x y : DBox => nameLt x.name y.name = true) (fun {a b} h => nameLt_asymm h) hr) (h1.trans h2)
  have ha2 := (h1.trans h2).subset ha
  obtain ⟨i, hi, rfl⟩ := List.mem_iff_getElem.1 ha2
  obtain ⟨j, hj, rfl⟩ := List.mem_iff_getElem.1 hb
  have hp := List.pairwise_iff_getElem.1 hr
  rcases Nat.lt_trichotomy i j with h | rfl | h
  · have := hp i j hi hj h
    rw [hba] at this; cases this
  · rfl
  · have := hp j i hj hi h
    rw [hab] at this; cases this
theorem sort_pair {l : List PBox} (h : SortTo l l.length) : (l.map PBox.box).Pairwise fun x y => nameLt y.name x.name = false :=
  List.pairwise_map.2 (List.pairwise_iff_getElem.2 fun i j hi hj hij => h i j hij hj hj hi)
theorem boxesP_rise {l : List DBox} (h : BoxesP l) : Rise l := by
  refine List.pairwise_iff_getElem.2 fun i j hi hj hij => ?_
  obtain ⟨d, rfl⟩ : ∃ d, j = i + 1 + d := ⟨j - (i + 1), by omega⟩
  clear hij
  induction d with
  | zero =>
    obtain ⟨h0, -, h2, -⟩ := h.1 (i + 1) hj
    exact h2 (by omega)
  | succ d ih =>
    obtain ⟨h0, -, h2, -⟩ := h.1 (i + 1 + (d + 1)) hj
    exact nameLt_trans (ih (by omega)) (h2 (by omega))
theorem rise_set {l : List DBox} {i : Nat} (hi : i < l.length) {x : DBox} (hx : x.name = l[i].name) (h : Rise l) : Rise (l.set i x) := by
  have e : (l.set i x).map DBox.name = l.map DBox.name := by
    rw [List.map_set, hx]
    refine List.ext_getElem (by simp) fun k h1 h2 => ?_
    rw [List.getElem_set]
    by_cases hk : i = k
    · subst hk; simp
    · rw [if_neg hk]
  have h3 : ((l.set i x).map DBox.name).Pairwise fun a b => nameLt a b = true := by
    rw [e]; exact List.pairwise_map.2 h
  exact List.pairwise_map.1 h3
theorem set_perm {l : List DBox} {i : Nat} (hi : i < l.length) (x : DBox) : (l.set i x).Perm (layD (l.eraseIdx i) x) := by
  refine List.Perm.trans ?_ (layD_perm _ x).symm
  rw [List.set_eq_take_append_cons_drop, if_pos hi, List.eraseIdx_eq_take_drop_succ]
  exact List.perm_middle.trans (List.perm_append_singleton x _).symm
theorem firstI_none {α : Type} {p : α → Bool} {l : List α} (h : firstI p l < 0) : ∀ y ∈ l, p y = false := by
  unfold firstI at h
  split at h
  · omega
  · rename_i h1
    exact List.findIdx?_eq_none_iff.1 h1
theorem named_none {s : ByteArray} {l : List DBox} (h : boxNamed s l < 0) : ∀ y ∈ l, y.name ≠ s := fun y hy => of_decide_eq_false (firstI_none h y hy)

def atD (l : List DBox) (m : DCommit) : Nat := (boxWith m.validity l).toNat
def theD (l : List DBox) (i : Nat) : DBox := (l[i]?).getD ⟨ByteArray.empty, 0, 0, []⟩
def pl (u : Int) (l : List DMsg) : Nat := (placeOf u l).toNat
def theM (l : List DMsg) (i : Nat) : DMsg := (l[i]?).getD ⟨0, 0, ByteArray.empty⟩
def newD (b : DBox) (m : DCommit) : DBox :=
  if m.kind = 3 then ⟨m.name, b.validity, b.next, b.msgs⟩
  else if m.kind = 4 then ⟨b.name, b.validity, b.next + 1, b.msgs ++ [⟨m.uid, m.flags, m.text⟩]⟩
  else if m.kind = 5 then ⟨b.name, b.validity, b.next, b.msgs.set (pl m.uid b.msgs) ⟨(theM b.msgs (pl m.uid b.msgs)).uid, m.flags, (theM b.msgs (pl m.uid b.msgs)).text⟩⟩
  else ⟨b.name, b.validity, b.next, b.msgs.eraseIdx (pl m.uid b.msgs)⟩
/-- the changed mailboxes before they are sorted -/
def perfD (l : List DBox) (m : DCommit) : List DBox :=
  if m.kind = 1 then l ++ [⟨m.name, m.validity, 1, []⟩] else if m.kind = 2 then l.eraseIdx (atD l m) else l.set (atD l m) (newD (theD l (atD l m)) m)
/-- the changed mailboxes -/
def appD (l : List DBox) (m : DCommit) : List DBox :=
  if m.kind = 1 then layD l ⟨m.name, m.validity, 1, []⟩ else if m.kind = 2 then l.eraseIdx (atD l m)
  else if m.kind = 3 then layD (l.eraseIdx (atD l m)) (newD (theD l (atD l m)) m) else l.set (atD l m) (newD (theD l (atD l m)) m)
theorem theD_of {l : List DBox} {i : Nat} (hi : i < l.length) : theD l i = l[i] := by simp [theD, hi]
theorem theM_of {l : List DMsg} {i : Nat} (hi : i < l.length) : theM l i = l[i] := by simp [theM, hi]
theorem appD_perm {l : List DBox} {m : DCommit} (h : BoxesP l) (hf : FitsP l m) : (perfD l m).Perm (appD l m) ∧ Rise (appD l m) := by
  have hr := boxesP_rise h
  unfold perfD appD
  by_cases h1 : m.kind = 1
  · rw [if_pos h1, if_pos h1]
    obtain ⟨-, -, h4⟩ := hf.1 h1
    exact ⟨(layD_perm _ _).symm, layD_rise _ _ hr (named_none h4)⟩
  rw [if_neg h1, if_neg h1]
  obtain ⟨i, hi, hz, h3, h4, h5⟩ := hf.2 h1
  have ha : atD l m = i := by unfold atD; omega
  rw [ha]
  by_cases h2 : m.kind = 2
  · rw [if_pos h2, if_pos h2]
    exact ⟨List.Perm.refl _, List.Pairwise.sublist (List.eraseIdx_sublist ..) hr⟩
  rw [if_neg h2, if_neg h2]
  by_cases hk3 : m.kind = 3
  · rw [if_pos hk3]
    have h6 := named_none (h3 hk3)
    refine ⟨set_perm hi _, layD_rise _ _ (List.Pairwise.sublist (List.eraseIdx_sublist ..) hr) fun y hy => ?_⟩
    have : (newD (theD l i) m).name = m.name := by simp [newD, hk3]
    rw [this]
    exact h6 y ((List.eraseIdx_sublist ..).subset hy)
  · rw [if_neg hk3]
    refine ⟨List.Perm.refl _, rise_set hi ?_ hr⟩
    rw [theD_of hi]
    unfold newD
    rw [if_neg hk3]
    split
    · rfl
    · split <;> rfl
end Go.Proofs.YtadjlfcdjkikgaaDoor
