/-
  How the arguments of a law are opened: a slice that came in, of elements of s cells each.
  The laws' plain data, opened: what a reading says of the cells.
-/
import Derived.Test.YtadjlfcdjkikgaaDoorTy
import Derived.Deep.Slices
namespace Go.Proofs.YtadjlfcdjkikgaaDoor
open Go.RowKit Go.Deep
set_option linter.unusedVariables false

section
variable {H : Type} {enc : TypeId × Value → H} {P : Program} {w : World} {base : Nat} {spare : Nat → Bool} {held : Bool}

theorem flatten_get {s : Nat} : ∀ (css : List (List Value)) (k j : Nat) (hk : k < css.length), (∀ c ∈ css, c.length = s) → j < s → css.flatten[k * s + j]? = css[k][j]?
  | c :: css, 0, j, hk, hs, hj => by
    simp only [List.flatten_cons, Nat.zero_mul, Nat.zero_add, List.getElem_cons_zero]
    rw [List.getElem?_append_left (by rw [hs c (by simp)]; exact hj)]
  | c :: css, k + 1, j, hk, hs, hj => by
    simp only [List.flatten_cons, List.getElem_cons_succ]
    have h1 : (k + 1) * s + j = c.length + (k * s + j) := by rw [hs c (by simp), Nat.add_mul]; omega
    rw [h1, List.getElem?_append_right (by omega), Nat.add_sub_cancel_left]
    exact flatten_get css k j (by simpa using hk) (fun c hc => hs c (by simp [hc])) hj
theorem flatten_len {s : Nat} : ∀ (css : List (List Value)), (∀ c ∈ css, c.length = s) → css.flatten.length = css.length * s
  | [], _ => by simp
  | c :: css, h => by
    simp only [List.flatten_cons, List.length_append, List.length_cons]
    rw [h c (by simp), flatten_len css (fun c hc => h c (by simp [hc])), Nat.add_mul]; omega

theorem open_sl {α : Type} [Inhabited α] {t e : TypeId} {s fuel : Nat} {cs : List Value} {x : DataW H × List MemPlace} (ht : P.underlying t = some (.slice e)) (hc : P.cellsOf e = s) (h0 : 0 < s)
    (Rel : List Value → α → Prop) (hel : ∀ fuel cs x, DataW.trod enc P w base spare held fuel e cs = some x → ∃ a, Rel cs a) (hlen : ∀ cs a, Rel cs a → cs.length = s)
    (h : DataW.trod enc P w base spare held fuel t cs = some x) :
    ∃ (a : Option Addr) (c n : Nat) (css : List (List Value)) (l : List α), cs = [.slice a n c] ∧ css.length = n ∧ l.length = n ∧ (∀ i (h1 : i < css.length) (h2 : i < l.length), Rel css[i] l[i]) ∧ Rd w a c s n css.flatten := by
  rcases DataW.trod_slice ht h with ⟨rfl, _⟩ | ⟨a, len, cap, elems, rest, n, _, rfl, _, hb, hl, hm, hlen2, hel2, _, _⟩
  · exact ⟨none, 0, 0, [], [], rfl, rfl, rfl, fun i h1 _ => by simp at h1, ⟨by simp, Nat.le_refl _, by omega, fun h => by omega⟩⟩
  · rw [hc] at hel2
    have key : ∀ i, i < len → ∃ y : List Value × α, w.cells? base (a.add (i * s)) s = some y.1 ∧ Rel y.1 y.2 := fun i hi => by
      have h1 := hel2 i hi
      rw [List.getElem?_eq_getElem (by omega)] at h1
      obtain ⟨cs', h2, h3⟩ := Option.bind_eq_some_iff.1 h1
      obtain ⟨b, h4⟩ := hel _ _ _ h3
      exact ⟨(cs', b), h2, h4⟩
    obtain ⟨f, hf⟩ := choose_lt key
    have hcl : ∀ c ∈ (List.range len).map (fun i => (f i).1), c.length = s := fun c hc => by
      obtain ⟨i, hi, rfl⟩ := List.mem_map.1 hc
      exact hlen _ _ (hf i (by simpa using hi)).2
    refine ⟨some a, cap, len, (List.range len).map (fun i => (f i).1), (List.range len).map (fun i => (f i).2), rfl, by simp, by simp, fun i h1 h2 => by simpa using (hf i (by simpa using h1)).2, ?_⟩
    refine ⟨by rw [flatten_len _ hcl]; simp, hl, by unfold maxLen at hm; omega, fun hn => ?_⟩
    have hcell : ∀ i j, i < len → j < s → w.cell? (a.add (i * s + j)) = (f i).1[j]? := fun i j hi hj => by
      obtain ⟨h1, h2⟩ := hf i hi
      obtain ⟨_, _, h3⟩ := World.cells?_some h1
      have h4 := h3 j hj
      rw [← h4]
      congr 1
      unfold Addr.add
      by_cases e1 : i * s = 0
      · simp [e1]
      · by_cases e2 : j = 0
        · simp [e1, e2]
        · simp [e1, e2, Nat.add_assoc]
    obtain ⟨b, o, spot⟩ := a
    have hl0 := hlen _ _ (hf 0 hn).2
    have hc0 := hcell 0 0 hn h0
    rw [List.getElem?_eq_getElem (by omega)] at hc0
    have hsp : spot = none := by simpa [Addr.add] using World.cell?_spot hc0
    subst hsp
    refine ⟨b, o, rfl, by simpa [Addr.add] using World.block_lt_of_cell? w _ hc0, fun j u hu => ?_⟩
    have hj : j < len * s := by
      have := (List.getElem?_eq_some_iff.1 hu).1
      rw [flatten_len _ hcl] at this; simpa using this
    have hdm : j = (j / s) * s + j % s := by rw [Nat.mul_comm]; exact (Nat.div_add_mod j s).symm
    have hq : j / s < len := (Nat.div_lt_iff_lt_mul h0).2 hj
    have hr := flatten_get ((List.range len).map (fun i => (f i).1)) (j / s) (j % s) (by simpa using hq) hcl (Nat.mod_lt _ h0)
    rw [← hdm, hu] at hr
    have h5 := hcell (j / s) (j % s) hq (Nat.mod_lt _ h0)
    rw [← hdm] at h5
    rw [Addr.add_lit] at h5
    rw [h5]
    simpa using hr.symm

theorem open_flat {α : Type} [Inhabited α] {t e : TypeId} {s fuel : Nat} {cs : List Value} {x : DataW H × List MemPlace} (ht : P.underlying t = some (.slice e)) (hc : P.cellsOf e = s) (h0 : 0 < s)
    (encα : α → List Value) (hs : ∀ y, (encα y).length = s) (Good : α → Prop) (hel : ∀ fuel cs x, DataW.trod enc P w base spare held fuel e cs = some x → ∃ a, cs = encα a ∧ Good a)
    (h : DataW.trod enc P w base spare held fuel t cs = some x) :
    ∃ (a : Option Addr) (c : Nat) (l : List α), cs = [.slice a l.length c] ∧ Rd w a c s l.length (l.flatMap encα) ∧ ∀ y ∈ l, Good y := by
  obtain ⟨a, c, n, css, l, hcs, h1, h2, h3, h4⟩ := open_sl ht hc h0 (fun cs a => cs = encα a ∧ Good a) hel (fun cs a h => by rw [h.1, hs]) h
  subst h2
  have he : css = l.map encα := by
    apply List.ext_getElem (by simpa using h1)
    intro i hi1 hi2
    rw [(h3 i hi1 (by simpa using hi2)).1]; simp
  refine ⟨a, c, l, hcs, ?_, fun y hy => ?_⟩
  · rw [List.flatMap_def, ← he]; exact h4
  · obtain ⟨i, hi, rfl⟩ := List.mem_iff_getElem.1 hy
    exact (h3 i (by omega) hi).2

/-- the parts of a struct, each with its reading -/
theorem open_struct {t : TypeId} {fs : Array Field} {fuel : Nat} {cs : List Value} {x : DataW H × List MemPlace} (ht : P.underlying t = some (.struct fs)) (h : DataW.trod enc P w base spare held fuel t cs = some x) :
    cs.length = P.cellsOf t ∧ ∃ n, ∀ (i : Nat) (f : Field), fs[i]? = some f → ∃ y, DataW.trod enc P w base spare held n f.type ((cs.drop f.offset).take (P.cellsOf f.type)) = some y := by
  obtain ⟨xs, n, _, _, hl, hlen, hf⟩ := DataW.trod_struct ht h
  refine ⟨hl, n, fun i f hi => ?_⟩
  have hi' : i < xs.length := by rw [hlen]; exact (Array.getElem?_eq_some_iff.1 hi).1
  exact ⟨xs[i], by rw [hf i f hi, List.getElem?_eq_getElem hi']⟩

theorem agg_of_struct {r : Reach} {b0 : Nat} {t : TypeId} {fs : Array Field} {v : Value} (ht : P.underlying t = some (.struct fs)) (h : Value.okWide P w r b0 t v) : ∃ cs : List Value, v = .agg cs.toArray ∧ v.cells.toList = cs := by
  unfold Value.okWide at h
  rw [ht] at h
  obtain ⟨cs, rfl, _⟩ := h
  exact ⟨cs.toList, by simp, by simp [Value.cells]⟩
theorem slice_of {r : Reach} {b0 : Nat} {t e : TypeId} {v : Value} (ht : P.underlying t = some (.slice e)) (h : Value.okWide P w r b0 t v) : v.cells.toList = [v] := by
  obtain ⟨a, n, c, rfl⟩ := WideShapes.okWide_slice ht h
  rfl
theorem list1 {α : Type} {l : List α} (h : l.length = 1) : ∃ a, l = [a] := by match l, h with | [a], _ => exact ⟨a, rfl⟩
theorem list2 {α : Type} {l : List α} (h : l.length = 2) : ∃ a b, l = [a, b] := by match l, h with | [a, b], _ => exact ⟨a, b, rfl⟩
theorem list3 {α : Type} {l : List α} (h : l.length = 3) : ∃ a b c, l = [a, b, c] := by match l, h with | [a, b, c], _ => exact ⟨a, b, c, rfl⟩
theorem list4 {α : Type} {l : List α} (h : l.length = 4) : ∃ a b c d, l = [a, b, c, d] := by match l, h with | [a, b, c, d], _ => exact ⟨a, b, c, d, rfl⟩
theorem list6 {α : Type} {l : List α} (h : l.length = 6) : ∃ a b c d e f, l = [a, b, c, d, e, f] := by match l, h with | [a, b, c, d, e, f], _ => exact ⟨a, b, c, d, e, f, rfl⟩
end
end Go.Proofs.YtadjlfcdjkikgaaDoor

namespace Go.Proofs.YtadjlfcdjkikgaaDoor
open Go.RowKit
set_option linter.unusedVariables false
set_option linter.unusedSimpArgs false
open Go.Deep
section
variable {H : Type} {enc : TypeId × Value → H} {w : World} {base : Nat} {spare : Nat → Bool} {held : Bool} {fuel : Nat} {cs : List Value} {x : DataW H × List MemPlace}
theorem c_i : Tryd.prog.cellsOf 3 = 1 := by kernel_rfl
theorem c_s : Tryd.prog.cellsOf 9 = 1 := by kernel_rfl
theorem c_b : Tryd.prog.cellsOf 4 = 1 := by kernel_rfl
instance : Inhabited DReply := ⟨⟨0, 0, 0, 0, ByteArray.empty, ByteArray.empty⟩⟩
theorem c_lReply : Tryd.prog.cellsOf 28 = 6 := by kernel_rfl
theorem open_lReply (h : DataW.trod enc Tryd.prog w base spare held fuel 28 cs = some x) : ∃ a : DReply, cs = a.cells ∧ a.name.size ≤ 9223372036854775807 ∧ a.text.size ≤ 9223372036854775807 := by
  obtain ⟨hl, n, hf⟩ := open_struct Tryd.underlying28 h
  rw [c_lReply] at hl
  obtain ⟨c0, c1, c2, c3, c4, c5, rfl⟩ := list6 hl
  obtain ⟨y0, hh0⟩ := hf 0 _ rfl
  have h0 : DataW.trod enc Tryd.prog w base spare held n 3 (List.take (Tryd.prog.cellsOf 3) (List.drop 0 [c0, c1, c2, c3, c4, c5])) = some y0 := hh0
  clear hh0
  rw [c_i] at h0
  simp only [List.drop_succ_cons, List.drop_zero, List.take_succ_cons, List.take_zero] at h0
  obtain ⟨v0, e0, -, -⟩ := DataW.trod_int Tryd.underlying3 h0
  simp only [List.cons.injEq, and_true] at e0
  obtain ⟨y1, hh1⟩ := hf 1 _ rfl
  have h1 : DataW.trod enc Tryd.prog w base spare held n 3 (List.take (Tryd.prog.cellsOf 3) (List.drop 1 [c0, c1, c2, c3, c4, c5])) = some y1 := hh1
  clear hh1
  rw [c_i] at h1
  simp only [List.drop_succ_cons, List.drop_zero, List.take_succ_cons, List.take_zero] at h1
  obtain ⟨v1, e1, -, -⟩ := DataW.trod_int Tryd.underlying3 h1
  simp only [List.cons.injEq, and_true] at e1
  obtain ⟨y2, hh2⟩ := hf 2 _ rfl
  have h2 : DataW.trod enc Tryd.prog w base spare held n 3 (List.take (Tryd.prog.cellsOf 3) (List.drop 2 [c0, c1, c2, c3, c4, c5])) = some y2 := hh2
  clear hh2
  rw [c_i] at h2
  simp only [List.drop_succ_cons, List.drop_zero, List.take_succ_cons, List.take_zero] at h2
  obtain ⟨v2, e2, -, -⟩ := DataW.trod_int Tryd.underlying3 h2
  simp only [List.cons.injEq, and_true] at e2
  obtain ⟨y3, hh3⟩ := hf 3 _ rfl
  have h3 : DataW.trod enc Tryd.prog w base spare held n 3 (List.take (Tryd.prog.cellsOf 3) (List.drop 3 [c0, c1, c2, c3, c4, c5])) = some y3 := hh3
  clear hh3
  rw [c_i] at h3
  simp only [List.drop_succ_cons, List.drop_zero, List.take_succ_cons, List.take_zero] at h3
  obtain ⟨v3, e3, -, -⟩ := DataW.trod_int Tryd.underlying3 h3
  simp only [List.cons.injEq, and_true] at e3
  obtain ⟨y4, hh4⟩ := hf 4 _ rfl
  have h4 : DataW.trod enc Tryd.prog w base spare held n 9 (List.take (Tryd.prog.cellsOf 9) (List.drop 4 [c0, c1, c2, c3, c4, c5])) = some y4 := hh4
  clear hh4
  rw [c_s] at h4
  simp only [List.drop_succ_cons, List.drop_zero, List.take_succ_cons, List.take_zero] at h4
  obtain ⟨v4, e4, -, g4⟩ := DataW.trod_string Tryd.underlying9 h4
  unfold maxLen at g4
  simp only [List.cons.injEq, and_true] at e4
  obtain ⟨y5, hh5⟩ := hf 5 _ rfl
  have h5 : DataW.trod enc Tryd.prog w base spare held n 9 (List.take (Tryd.prog.cellsOf 9) (List.drop 5 [c0, c1, c2, c3, c4, c5])) = some y5 := hh5
  clear hh5
  rw [c_s] at h5
  simp only [List.drop_succ_cons, List.drop_zero, List.take_succ_cons, List.take_zero] at h5
  obtain ⟨v5, e5, -, g5⟩ := DataW.trod_string Tryd.underlying9 h5
  unfold maxLen at g5
  simp only [List.cons.injEq, and_true] at e5
  subst e0 e1 e2 e3 e4 e5
  exact ⟨⟨v0, v1, v2, v3, v4, v5⟩, rfl, g4, g5⟩
end

end Go.Proofs.YtadjlfcdjkikgaaDoor
