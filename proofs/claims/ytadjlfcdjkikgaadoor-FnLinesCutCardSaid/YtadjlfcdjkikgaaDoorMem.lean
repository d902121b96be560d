/-
  The memory layer of the proofs: cells that a slice reads, slices that are only read, worlds that grow.
-/
import Derived.Test.YtadjlfcdjkikgaaDoorRows
import Derived.WalkKit
import Derived.ProofKit
import Derived.OpenShut
import Derived.WalkSpells
import Derived.WalkLawsBesides
import Derived.Deep.QuietTactic
import Derived.BigQuiet
import Derived.Deep.RegionHeld3
import Derived.Deep.LoopGhost
import Derived.Lib.Hide
namespace Go.Proofs.YtadjlfcdjkikgaaDoor
open Go.RowKit

theorem bcell {W w1 : World} (hb : Below W.heap.size W w1) : (∀ b o, b < W.heap.size → w1.cell? ⟨b, o, none⟩ = W.cell? ⟨b, o, none⟩) ∧ (∀ b o, b < W.heap.size → w1.frozen? ⟨b, o, none⟩ = W.frozen? ⟨b, o, none⟩) :=
  ⟨fun b o h => hb.cell (p := ⟨b, o, none⟩) h, fun b o h => hb.frozen (p := ⟨b, o, none⟩) h⟩

/-- w2 is w1 grown: nothing that w1 has has turned. -/
abbrev Ext (w1 w2 : World) : Prop := Below w1.heap.size w1 w2
theorem Below.ext {a b c : World} (h : Below a.heap.size a b) (k : Below b.heap.size b c) : Below a.heap.size a c := h.trans (k.mono h.size)

theorem sBeg (W : World) : Below W.heap.size W W.drew ∧ (∀ b o, b < W.heap.size → W.drew.cell? ⟨b, o, none⟩ = W.cell? ⟨b, o, none⟩) := ⟨(Below.refl _ _).drew, fun _ _ _ => rfl⟩
theorem sExt {W w w' : World} (h : Below W.heap.size W w ∧ (∀ b o, b < W.heap.size → w.cell? ⟨b, o, none⟩ = W.cell? ⟨b, o, none⟩)) (h2 : Below w.heap.size w w') : Below W.heap.size W w' ∧ (∀ b o, b < W.heap.size → w'.cell? ⟨b, o, none⟩ = W.cell? ⟨b, o, none⟩) := by
  have h3 : Below W.heap.size W w' := h.1.trans (h2.mono h.1.size)
  exact ⟨h3, (bcell h3).1⟩

theorem ret_bool {a b : Bool} (h : a = b) : Ending.returned (.bool a) = .returned (.bool b) := by rw [h]
theorem ret_int {a b : Int} (h : a = b) : Ending.returned (.int .i64 a) = .returned (.int .i64 b) := by rw [h]

/-- from the offset o of block b on the cells read xs -/
def At (w : World) (b o : Nat) (xs : List Value) : Prop := ∀ j u, xs[j]? = some u → w.cell? ⟨b, o + j, none⟩ = some u

theorem At.ext {w w' : World} {b o : Nat} {xs : List Value} (h : At w b o xs) (hb : b < w.heap.size) (hw : Below w.heap.size w w') : At w' b o xs :=
  fun j u hu => ((bcell hw).1 b (o + j) hb).trans (h j u hu)

theorem At.take {w : World} {b o : Nat} {xs : List Value} (h : At w b o xs) (k : Nat) : At w b o (xs.take k) := fun j u hu => by
  rw [List.getElem?_take] at hu
  split at hu
  · exact h j u hu
  · cases hu

theorem At.drop {w : World} {b o : Nat} {xs : List Value} (h : At w b o xs) (k : Nat) : At w b (o + k) (xs.drop k) := fun j u hu => by
  rw [List.getElem?_drop] at hu
  rw [Nat.add_assoc]
  exact h (k + j) u hu

/-- a slice with address a, capacity c, of n elements of s cells each, reads the cells xs -/
structure Rd (w : World) (a : Option Addr) (c s n : Nat) (xs : List Value) : Prop where
  len : xs.length = n * s
  nc : n ≤ c
  cm : c ≤ 9223372036854775807
  ptr : 0 < n → ∃ b o, a = some ⟨b, o, none⟩ ∧ b < w.heap.size ∧ At w b o xs

theorem Rd.ext {w w' : World} {a : Option Addr} {c s n : Nat} {xs : List Value} (h : Rd w a c s n xs) (hw : Below w.heap.size w w') : Rd w' a c s n xs :=
  ⟨h.len, h.nc, h.cm, fun hn => let ⟨b, o, ha, hb, hat⟩ := h.ptr hn; ⟨b, o, ha, Nat.lt_of_lt_of_le hb hw.size, hat.ext hb hw⟩⟩

theorem Rd.of_own {w : World} {B E s n c : Nat} {a : Option Addr} {xs : List Value} (h : w.ownsRow B E s (.slice a n c) n xs) : Rd w a c s n xs := by
  rcases h.2 with ⟨hv, h0⟩ | ⟨g, cap, cur, hv, hb, hg, hnc, hcm, hcs, ht⟩
  · simp only [Value.slice.injEq] at hv
    obtain ⟨rfl, hn, rfl⟩ := hv
    exact ⟨h.1, by omega, by omega, fun h => by omega⟩
  · simp only [Value.slice.injEq] at hv
    obtain ⟨rfl, _, rfl⟩ := hv
    refine ⟨h.1, hnc, by unfold maxLen at hcm; omega, fun _ => ⟨g, 0, rfl, (Array.getElem?_eq_some_iff.1 hg).1, fun j u hu => ?_⟩⟩
    have hj : j < n * s := by
      have := (List.getElem?_eq_some_iff.1 hu).1
      rw [h.1] at this; exact this
    have := World.ownsRow.cellAt h j hj
    rw [Nat.zero_add, this]; exact hu

theorem flat_len {α : Type} {enc : α → List Value} {s : Nat} (hs : ∀ x, (enc x).length = s) : ∀ (l : List α), (l.flatMap enc).length = l.length * s
  | [] => by simp
  | x :: l => by simp only [List.flatMap_cons, List.length_append, hs, flat_len hs l, List.length_cons]; rw [Nat.add_mul]; omega

theorem flat_get {α : Type} {enc : α → List Value} {s : Nat} (hs : ∀ x, (enc x).length = s) : ∀ (l : List α) (k j : Nat) (hk : k < l.length), j < s → (l.flatMap enc)[k * s + j]? = (enc l[k])[j]?
  | x :: l, 0, j, hk, hj => by
    simp only [List.flatMap_cons, Nat.zero_mul, Nat.zero_add, List.getElem_cons_zero]
    rw [List.getElem?_append_left (by rw [hs]; exact hj)]
  | x :: l, k + 1, j, hk, hj => by
    simp only [List.flatMap_cons, List.getElem_cons_succ]
    have h1 : (k + 1) * s + j = (enc x).length + (k * s + j) := by rw [hs, Nat.add_mul]; omega
    rw [h1, List.getElem?_append_right (by omega), Nat.add_sub_cancel_left]
    exact flat_get hs l k j (by simpa using hk) hj

theorem flat_take {α : Type} {enc : α → List Value} {s : Nat} (hs : ∀ x, (enc x).length = s) : ∀ (l : List α) (k : Nat), (l.flatMap enc).take (k * s) = (l.take k).flatMap enc
  | [], k => by simp
  | x :: l, 0 => by simp
  | x :: l, k + 1 => by
    simp only [List.flatMap_cons, List.take_succ_cons]
    have h1 : (k + 1) * s = (enc x).length + k * s := by rw [hs, Nat.add_mul]; omega
    rw [h1, List.take_append, List.take_of_length_le (by omega), Nat.add_sub_cancel_left, flat_take hs l k]

theorem flat_drop {α : Type} {enc : α → List Value} {s : Nat} (hs : ∀ x, (enc x).length = s) : ∀ (l : List α) (k : Nat), (l.flatMap enc).drop (k * s) = (l.drop k).flatMap enc
  | [], k => by simp
  | x :: l, 0 => by simp
  | x :: l, k + 1 => by
    simp only [List.flatMap_cons, List.drop_succ_cons]
    have h1 : (k + 1) * s = (enc x).length + k * s := by rw [hs, Nat.add_mul]; omega
    rw [h1, List.drop_append, List.drop_of_length_le (by omega), Nat.add_sub_cancel_left, flat_drop hs l k, List.nil_append]

theorem At.el {α : Type} {enc : α → List Value} {s : Nat} (hs : ∀ x, (enc x).length = s) {w : World} {b o : Nat} {l : List α} (h : At w b o (l.flatMap enc)) (k : Nat) (hk : k < l.length) :
    ∀ j u, (enc l[k])[j]? = some u → w.cell? ⟨b, o + k * s + j, none⟩ = some u := fun j u hu => by
  have hj : j < s := by rw [← hs l[k]]; exact (List.getElem?_eq_some_iff.1 hu).1
  rw [Nat.add_assoc]
  exact h (k * s + j) u ((flat_get hs l k j hk hj).trans hu)

theorem Rd.pre {α : Type} {enc : α → List Value} {s : Nat} (hs : ∀ x, (enc x).length = s) {w : World} {a : Option Addr} {c : Nat} {l : List α} (h : Rd w a c s l.length (l.flatMap enc)) (k : Nat) (hk : k ≤ l.length) :
    Rd w a c s (l.take k).length ((l.take k).flatMap enc) := by
  have hl : (l.take k).length = k := by simp; omega
  rw [hl]
  refine ⟨by rw [flat_len hs, hl], by have := h.nc; omega, h.cm, fun h0 => ?_⟩
  obtain ⟨b, o, ha, hb, hat⟩ := h.ptr (by omega)
  refine ⟨b, o, ha, hb, ?_⟩
  rw [← flat_take hs]
  exact hat.take _

/-- lists that agree up to k, and whose lengths are one -/
theorem all_pre {α : Type} {x y : List α} (h : ∀ j, j < x.length → x[j]? = y[j]?) (hl : x.length = y.length) : x = y := by
  apply List.ext_getElem? ; intro j
  by_cases hj : j < x.length
  · exact h j hj
  · rw [List.getElem?_eq_none (by omega), List.getElem?_eq_none (by omega)]
theorem pre_succ {α : Type} {x y : List α} {k : Nat} (h : ∀ j, j < k → x[j]? = y[j]?) (hx : k < x.length) (hy : k < y.length) (he : x[k] = y[k]) : ∀ j, j < k + 1 → x[j]? = y[j]? := fun j hj => by
  by_cases hjk : j = k
  · subst hjk; rw [List.getElem?_eq_getElem hx, List.getElem?_eq_getElem hy, he]
  · exact h j (by omega)
theorem ne_at {α : Type} {x y : List α} {k : Nat} (hx : k < x.length) (hy : k < y.length) (he : x[k] ≠ y[k]) : x ≠ y := fun h => by subst h; exact he rfl

/-- the cells from p on are set to us, one behind the other -/
def putAt (xs : List Value) (p : Nat) : List Value → List Value
  | [] => xs
  | u :: us => putAt (xs.set p u) (p + 1) us
def putW (w : World) (g p : Nat) : List Value → World
  | [] => w
  | u :: us => putW (w.setCell ⟨g, p, none⟩ u) g (p + 1) us

theorem putAt_mid : ∀ (us A B C : List Value), B.length = us.length → putAt (A ++ (B ++ C)) A.length us = A ++ (us ++ C)
  | [], A, B, C, h => by
    have : B = [] := List.eq_nil_of_length_eq_zero (by simpa using h)
    subst this; rfl
  | u :: us, A, [], C, h => by simp at h
  | u :: us, A, b :: B, C, h => by
    have h1 : (A ++ (b :: B ++ C)).set A.length u = (A ++ [u]) ++ (B ++ C) := by simp
    have h2 : A.length + 1 = (A ++ [u]).length := by simp
    unfold putAt
    rw [h1, h2, putAt_mid us (A ++ [u]) B C (by simpa using h)]
    simp

theorem putAt_flat {α : Type} {enc : α → List Value} {s : Nat} (hs : ∀ x, (enc x).length = s) (l : List α) (k : Nat) (hk : k < l.length) (x : α) :
    putAt (l.flatMap enc) (k * s) (enc x) = (l.set k x).flatMap enc := by
  have h1 : l = l.take k ++ (l[k] :: l.drop (k + 1)) := by simp
  have h2 : l.set k x = l.take k ++ (x :: l.drop (k + 1)) := by rw [List.set_eq_take_append_cons_drop, if_pos hk]
  have h3 : ((l.take k).flatMap enc).length = k * s := by rw [flat_len hs, List.length_take, Nat.min_eq_left (by omega)]
  rw [h2]
  conv => lhs; rw [h1]
  rw [List.flatMap_append, List.flatMap_append, List.flatMap_cons, List.flatMap_cons, ← h3]
  exact putAt_mid _ _ _ _ (by rw [hs, hs])

theorem own_put {B E s n g c : Nat} : ∀ (us : List Value) (w : World) (p : Nat) (xs : List Value), w.ownsRow B E s (.slice (some ⟨g, 0, none⟩) n c) n xs →
    (putW w g p us).ownsRow B E s (.slice (some ⟨g, 0, none⟩) n c) n (putAt xs p us) ∧ w.grownBy (putW w g p us) (some g)
  | [], w, p, xs, h => ⟨h, World.grownBy.refl _ _⟩
  | u :: us, w, p, xs, h => by
    obtain ⟨h1, g1⟩ := World.ownsRow.stored h p u
    obtain ⟨h2, g2⟩ := own_put us _ (p + 1) _ h1
    exact ⟨h2, ⟨g2.os.trans g1.os, g2.tape.trans g1.tape, g2.output.trans g1.output, Nat.le_trans g1.size g2.size, fun k hk hne => (g2.block k (Nat.lt_of_lt_of_le hk g1.size) hne).trans (g1.block k hk hne)⟩⟩

theorem made_flat {α : Type} {enc : α → List Value} {s : Nat} (hs : ∀ x, (enc x).length = s) (x0 : α) (z : Array Value) (hz : z.toList = enc x0) (n : Nat) :
    (madeCells z (n * s)).toList = (List.replicate n x0).flatMap enc := by
  have hzs : z.size = s := by rw [← Array.length_toList, hz, hs]
  apply List.ext_getElem?
  intro i
  by_cases hi : i < n * s
  · have h0 : 0 < s := by
      rcases Nat.eq_zero_or_pos s with h | h
      · subst h; simp at hi
      · exact h
    have hdm : i = (i / s) * s + i % s := by rw [Nat.mul_comm]; exact (Nat.div_add_mod i s).symm
    have hq : i / s < n := (Nat.div_lt_iff_lt_mul h0).2 hi
    have hm : i % s < s := Nat.mod_lt _ h0
    have hr : ((List.replicate n x0).flatMap enc)[i]? = (enc x0)[i % s]? := by
      have := flat_get hs (List.replicate n x0) (i / s) (i % s) (by simpa using hq) hm
      rw [← hdm] at this
      rw [this]; simp
    rw [hr, ← hz]
    simp only [madeCells, Array.toList_map, Array.toList_range, List.getElem?_map, List.getElem?_range hi, Option.map_some, hzs]
    have hm' : i % s < z.size := by rw [hzs]; exact hm
    simp [getElem!_pos, hm']
  · rw [List.getElem?_eq_none (by simp [madeCells]; omega), List.getElem?_eq_none (by rw [flat_len hs]; simp; omega)]

theorem run_mk {P : Program} (w : World) (t e : TypeId) (i : TypeInfo) (z : Value) (s by_ : Nat) (ht : P.underlying t = some (.slice e)) (hi : P.info? e = some i) (hz : i.zero = some z) (hs : i.size = s) (hb : i.bytes = by_)
    (n : Nat) (hn : n ≤ 2097152) (hb2 : by_ ≤ 1024) :
    (Instr.makeSlice t (.int .i64 (n : Int)) (.int .i64 (n : Int))).run P w = .ok (.slice (some ⟨w.heap.size, 0, none⟩) n n) (w.alloc (.cells (madeCells z.cells (n * s)) e)) := by
  have h := run_make (P := P) w t e i z ht hi hz .i64 .i64 n n (by omega) (Int.le_refl _) (by
    rw [hb]
    have : by_ * n ≤ 1024 * 2097152 := Nat.mul_le_mul hb2 hn
    have h2 : ((by_ * n : Nat) : Int) ≤ 281474976710656 := by omega
    rwa [Int.natCast_mul] at h2) (by omega)
  simpa [hs] using h

theorem own_made {α : Type} {enc : α → List Value} {s : Nat} (hs : ∀ x, (enc x).length = s) (x0 : α) (z : Array Value) (hz : z.toList = enc x0) (w : World) (E n : Nat) (hn : n ≤ 2097152) :
    (w.alloc (.cells (madeCells z (n * s)) E)).ownsRow w.heap.size E s (.slice (some ⟨w.heap.size, 0, none⟩) n n) n ((List.replicate n x0).flatMap enc) := by
  rw [← made_flat hs x0 z hz]
  exact World.ownsRow_lit w _ n (Nat.le_refl _) (by unfold maxLen; omega) (size_madeCells _ _)

theorem own_ext {w w' : World} {B E s n : Nat} {v : Value} {xs : List Value} (h : w.ownsRow B E s v n xs) (hb : Below w.heap.size w w') : w'.ownsRow B E s v n xs :=
  h.kept (row := none) ⟨hb.os, hb.tape, hb.output, hb.size, fun k hk _ => hb.block k hk⟩ (by cases hv : v.ownBlock <;> simp)

theorem take_rep_set {α : Type} (l : List α) (x0 : α) (k : Nat) (hk : k < l.length) : (l.take k ++ List.replicate (l.length - k) x0).set k l[k] = l.take (k + 1) ++ List.replicate (l.length - (k + 1)) x0 := by
  have h1 : (l.take k).length = k := by simp; omega
  have h2 : l.length - k = (l.length - (k + 1)) + 1 := by omega
  rw [h2, List.replicate_succ, List.set_append_right _ _ (by omega), h1, Nat.sub_self, List.set_cons_zero, List.take_succ_eq_append_getElem hk, List.append_assoc]
  rfl

theorem str_beq (a b : ByteArray) : (a.toList == b.toList) = decide (a = b) := by
  rw [ByteArray.toList_eq, ByteArray.toList_eq]
  by_cases h : a = b
  · subst h; simp
  · simp only [h, decide_false, beq_eq_false_iff_ne, ne_eq]
    exact fun e => h (WideShapes.bytes_inj e)

/-- what a size function answers: negative, or what is left -/
def szR (left r : Int) (s : Nat) : Prop := r < 0 ∨ (0 ≤ r ∧ r + (s : Int) ≤ left)
def SzPost (left : Int) (s : Nat) (w : World) (e : Ending) (w' : World) : Prop := ∃ r : Int, e = .returned (.int .i64 r) ∧ szR left r s ∧ Ext w w'

theorem own_slot {w : World} {B E s n g c : Nat} {xs : List Value} (h : w.ownsRow B E s (.slice (some ⟨g, 0, none⟩) n c) n xs) (j : Nat) (hj : j < n * s) :
    (∃ u, w.cell? ⟨g, j, none⟩ = some u) ∧ w.frozen? ⟨g, j, none⟩ = false := by
  refine ⟨?_, World.ownsRow.frozenAt h j⟩
  rw [World.ownsRow.cellAt h j hj]
  exact ⟨_, List.getElem?_eq_getElem (by rw [h.1]; exact hj)⟩

theorem own_step {α : Type} {enc : α → List Value} {s : Nat} (hs : ∀ x, (enc x).length = s) {w : World} {B E g : Nat} {l : List α} {x0 : α} {k : Nat} (hk : k < l.length)
    (h : w.ownsRow B E s (.slice (some ⟨g, 0, none⟩) l.length l.length) l.length ((l.take k ++ List.replicate (l.length - k) x0).flatMap enc)) :
    (putW w g (k * s) (enc l[k])).ownsRow B E s (.slice (some ⟨g, 0, none⟩) l.length l.length) l.length ((l.take (k + 1) ++ List.replicate (l.length - (k + 1)) x0).flatMap enc) ∧ w.grownBy (putW w g (k * s) (enc l[k])) (some g) := by
  have h1 := own_put (enc l[k]) w (k * s) _ h
  rw [putAt_flat hs _ k (by simp; omega), take_rep_set l x0 k hk] at h1
  exact h1

/-- the loop of a function that copies a slice element by element: after k rounds -/
def ToRel {α : Type} (enc : α → List Value) (s : Nat) (x0 : α) (l : List α) (W : World) (g E : Nat) (i : Value) (wr : World) : Prop :=
  ∃ k : Nat, k ≤ l.length ∧ i = .int .i64 k ∧ wr.ownsRow W.heap.size E s (.slice (some ⟨g, 0, none⟩) l.length l.length) l.length ((l.take k ++ List.replicate (l.length - k) x0).flatMap enc) ∧ Below W.heap.size W wr

theorem ToRel.start {α : Type} {enc : α → List Value} {s : Nat} (hs : ∀ x, (enc x).length = s) (x0 : α) (z : Array Value) (hz : z.toList = enc x0) (l : List α) (W : World) (g E : Nat) (hg : W.heap.size = g) (hn : l.length ≤ 2097152) :
    ToRel enc s x0 l W g E (.int .i64 0) (W.alloc (.cells (madeCells z (l.length * s)) E)) := by
  subst hg
  exact ⟨0, Nat.zero_le _, rfl, by simpa using own_made hs x0 z hz W E l.length hn, (Below.refl _ _).alloc (Nat.le_refl _) _⟩

theorem ToRel.next {α : Type} {enc : α → List Value} {s : Nat} (hs : ∀ x, (enc x).length = s) {x0 : α} {l : List α} {W wr w1 : World} {g E k : Nat} (hk : k < l.length) (hg : W.heap.size = g)
    (h : wr.ownsRow W.heap.size E s (.slice (some ⟨g, 0, none⟩) l.length l.length) l.length ((l.take k ++ List.replicate (l.length - k) x0).flatMap enc)) (hb : Below W.heap.size W wr) (hb1 : Ext wr w1) :
    ToRel enc s x0 l W g E (.int .i64 ((k : Int) + 1)) (putW w1 g (k * s) (enc l[k])) := by
  obtain ⟨h1, g1⟩ := own_step hs hk (own_ext h hb1)
  refine ⟨k + 1, by omega, by simp, h1, ?_⟩
  have hb2 : Below W.heap.size W w1 := Below.ext hb hb1
  exact hb2.grown g1 hb2.size (fun j hj => by simp at hj; omega)

theorem ToRel.done {α : Type} {enc : α → List Value} {s : Nat} {x0 : α} {l : List α} {wr : World} {B g E k : Nat} (hk : k ≤ l.length) (hk2 : ¬ k < l.length)
    (h : wr.ownsRow B E s (.slice (some ⟨g, 0, none⟩) l.length l.length) l.length ((l.take k ++ List.replicate (l.length - k) x0).flatMap enc)) :
    wr.ownsRow B E s (.slice (some ⟨g, 0, none⟩) l.length l.length) l.length (l.flatMap enc) := by
  have : k = l.length := by omega
  subst this
  simpa using h

theorem own_le {w : World} {B B' E s n : Nat} {v : Value} {xs : List Value} (h : w.ownsRow B E s v n xs) (hb : B' ≤ B) : w.ownsRow B' E s v n xs :=
  ⟨h.1, h.2.elim Or.inl (fun ⟨g, cap, cur, hv, hg, r⟩ => Or.inr ⟨g, cap, cur, hv, Nat.le_trans hb hg, r⟩)⟩

/-- the index of the first element of which p holds, or -1 -/
def firstI {α : Type} (p : α → Bool) (l : List α) : Int := match l.findIdx? p with | some i => (i : Int) | none => -1

theorem firstI_hit {α : Type} {p : α → Bool} {l : List α} {k : Nat} (hk : k < l.length) (h : p l[k] = true) (hpre : ∀ j (hj : j < l.length), j < k → p l[j] = false) : firstI p l = k := by
  have : l.findIdx? p = some k := by
    rw [List.findIdx?_eq_some_iff_getElem]
    exact ⟨hk, h, fun j hj => by rw [hpre j (by omega) hj]; simp⟩
  unfold firstI; rw [this]
theorem firstI_miss {α : Type} {p : α → Bool} {l : List α} (hpre : ∀ j (hj : j < l.length), p l[j] = false) : firstI p l = -1 := by
  have : l.findIdx? p = none := by
    rw [List.findIdx?_eq_none_iff]
    intro x hx
    obtain ⟨j, hj, rfl⟩ := List.mem_iff_getElem.1 hx
    exact hpre j hj
  unfold firstI; rw [this]
theorem firstI_range {α : Type} (p : α → Bool) (l : List α) : -1 ≤ firstI p l ∧ firstI p l < l.length := by
  unfold firstI
  split
  · rename_i i h
    have := (List.findIdx?_eq_some_iff_getElem.1 h).1
    omega
  · omega
/-- what a search's loop knows: nothing found below k -/
def NoneTo {α : Type} (p : α → Bool) (l : List α) (k : Nat) : Prop := ∀ j (hj : j < l.length), j < k → p l[j] = false
theorem NoneTo.zero {α : Type} {p : α → Bool} {l : List α} : NoneTo p l 0 := fun _ _ h => by omega
theorem NoneTo.succ {α : Type} {p : α → Bool} {l : List α} {k : Nat} (h : NoneTo p l k) (hk : k < l.length) (hp : p l[k] = false) : NoneTo p l (k + 1) := fun j hj hlt => by
  by_cases hjk : j = k
  · subst hjk; exact hp
  · exact h j hj (by omega)
theorem NoneTo.all {α : Type} {p : α → Bool} {l : List α} {k : Nat} (h : NoneTo p l k) (hk : ¬ k < l.length) : firstI p l = -1 := firstI_miss fun j hj => h j hj (by omega)
theorem NoneTo.hit {α : Type} {p : α → Bool} {l : List α} {k : Nat} (h : NoneTo p l k) (hk : k < l.length) (hp : p l[k] = true) : firstI p l = k := firstI_hit hk hp h

/-- r says whether p -/
def Tells (r : Bool) (p : Prop) : Prop := r = true ↔ p
theorem boolOf (p : Prop) : ∃ r : Bool, Tells r p := by classical exact ⟨decide p, by simp [Tells]⟩
theorem no_of {p : Prop} (h : Tells false p) : ¬ p := fun hp => Bool.false_ne_true (h.2 hp)
theorem yes_of {p : Prop} (h : Tells true p) : p := h.1 rfl
theorem Tells.eq_true {r : Bool} {p : Prop} (h : Tells r p) (hp : p) : r = true := h.2 hp
theorem Tells.eq_false {r : Bool} {p : Prop} (h : Tells r p) (hp : ¬ p) : r = false := by
  cases r with
  | false => rfl
  | true => exact (hp (yes_of h)).elim
theorem Tells.of_dec {p : Prop} [Decidable p] : Tells (decide p) p := by simp [Tells]
theorem ret_no {r : Bool} {p : Prop} (h : Tells r p) (hn : ¬ p) : Ending.returned (.bool false) = .returned (.bool r) := by rw [h.eq_false hn]
theorem ret_yes {r : Bool} {p : Prop} (h : Tells r p) (hp : p) : Ending.returned (.bool true) = .returned (.bool r) := by rw [h.2 hp]

theorem Below.drewN {B : Nat} {a w : World} (h : Below B a w) (n : Nat) : Below B a (w.drewN n) := below_drewN h n
/-- what an element that is not valid says of the whole -/
theorem not_of {p q : Prop} (h : p → q) (hn : ¬ q) : ¬ p := fun hp => hn (h hp)

theorem putAt_append : ∀ (us vs xs : List Value) (p : Nat), putAt (putAt xs p us) (p + us.length) vs = putAt xs p (us ++ vs)
  | [], vs, xs, p => rfl
  | u :: us, vs, xs, p => by
    have := putAt_append us vs (xs.set p u) (p + 1)
    simp only [putAt, List.length_cons, List.cons_append]
    rw [← this]
    congr 1
    omega

/-- the marks of a list: n elements, each of s fields, numbered from k on -/
def markN {α : Type} (mk : Int → α) (s n : Nat) (k : Int) : List α := (List.range n).map (fun (i : Nat) => mk (k + (s : Int) * (i : Int)))
theorem markN_len {α : Type} (mk : Int → α) (s n : Nat) (k : Int) : (markN mk s n k).length = n := by simp [markN]
theorem markN_get {α : Type} (mk : Int → α) (s n : Nat) (k : Int) (i : Nat) (h : i < (markN mk s n k).length) : (markN mk s n k)[i] = mk (k + (s : Int) * (i : Int)) := by simp [markN]
theorem mark_step {α : Type} (mk : Int → α) (s : Nat) (k : Int) (l : List α) (i : Nat) (hi : i < l.length) (K : Int) (hK : K = k + (s : Int) * (i : Int)) :
    (markN mk s i k ++ l.drop i).set i (mk K) = markN mk s (i + 1) k ++ l.drop (i + 1) := by
  have h1 : (markN mk s i k).length = i := markN_len mk s i k
  rw [List.set_append_right _ _ (by omega), h1, Nat.sub_self]
  have h2 : l.drop i = l[i] :: l.drop (i + 1) := by simp
  rw [h2, List.set_cons_zero]
  have h3 : markN mk s (i + 1) k = markN mk s i k ++ [mk K] := by
    unfold markN
    rw [List.range_succ, List.map_append, hK]; rfl
  rw [h3]; simp
theorem grown_trans {a b c : World} {row : Option Nat} (h : a.grownBy b row) (k : b.grownBy c row) : a.grownBy c row :=
  ⟨k.os.trans h.os, k.tape.trans h.tape, k.output.trans h.output, Nat.le_trans h.size k.size, fun i hi hne => (k.block i (Nat.lt_of_lt_of_le hi h.size) hne).trans (h.block i hi hne)⟩
theorem grown_ext {a b : World} {row : Option Nat} (h : Below a.heap.size a b) : a.grownBy b row := ⟨h.os, h.tape, h.output, h.size, fun i hi _ => h.block i hi⟩
theorem grown_cells {w w' : World} {g : Nat} (h : w.grownBy w' (some g)) : (∀ b o, b < w.heap.size → b ≠ g → w'.cell? ⟨b, o, none⟩ = w.cell? ⟨b, o, none⟩) ∧ (∀ b o, b < w.heap.size → b ≠ g → w'.frozen? ⟨b, o, none⟩ = w.frozen? ⟨b, o, none⟩) :=
  ⟨fun b o hb hne => World.cell?_of_block (w := w) (h.block b hb (by simpa using hne)), fun b o hb hne => World.frozen?_of_block (w := w) (h.block b hb (by simpa using hne))⟩
theorem own_grown {w w' : World} {B E s n g : Nat} {v : Value} {xs : List Value} (h : w.ownsRow B E s v n xs) (hg : w.grownBy w' (some g)) (hne : v.ownBlock ≠ some g) : w'.ownsRow B E s v n xs :=
  h.kept hg (Or.inr hne)

/-- the loop of a function that lays marks: after i rounds -/
def MarkRel {α : Type} (enc : α → List Value) (s : Nat) (mk : Int → α) (l : List α) (k : Int) (W : World) (B g c E : Nat) (kv i : Value) (wr : World) : Prop :=
  ∃ (j : Nat) (K : Int), j ≤ l.length ∧ i = .int .i64 j ∧ kv = .int .i64 K ∧ K = k + (s : Int) * (j : Int) ∧ wr.ownsRow B E s (.slice (some ⟨g, 0, none⟩) l.length c) l.length ((markN mk s j k ++ l.drop j).flatMap enc) ∧ W.grownBy wr (some g)

theorem MarkRel.next {α : Type} {enc : α → List Value} {s : Nat} (hs : ∀ x, (enc x).length = s) {mk : Int → α} {l : List α} {k K : Int} {W w1 w2 : World} {B g c E j : Nat} (us vs : List Value) (hj : j < l.length) (hK : K = k + (s : Int) * (j : Int))
    (h : w1.ownsRow B E s (.slice (some ⟨g, 0, none⟩) l.length c) l.length ((markN mk s j k ++ l.drop j).flatMap enc)) (hg : W.grownBy w1 (some g)) (he : enc (mk K) = us ++ vs) (hx : Ext (putW w1 g (j * s) us) w2) (kv : Int) (hkv : kv = K + s) :
    MarkRel enc s mk l k W B g c E (.int .i64 kv) (.int .i64 ((j : Int) + 1)) (putW w2 g (j * s + us.length) vs) := by
  obtain ⟨h1, g1⟩ := own_put us w1 (j * s) _ h
  have h2 := own_ext h1 hx
  obtain ⟨h3, g3⟩ := own_put vs w2 (j * s + us.length) _ h2
  rw [putAt_append, ← he, putAt_flat hs _ j (by simp [markN_len]; omega), mark_step mk s k l j hj K hK] at h3
  refine ⟨j + 1, kv, by omega, by simp, rfl, ?_, h3, grown_trans hg (grown_trans g1 (grown_trans (grown_ext hx) g3))⟩
  rw [hkv, hK]; push_cast; rw [Int.mul_add]; omega

/-- one round that calls twice between its stores -/
theorem MarkRel.next2 {α : Type} {enc : α → List Value} {s : Nat} (hs : ∀ x, (enc x).length = s) {mk : Int → α} {l : List α} {k K : Int} {W w1 w2 w3 : World} {B g c E j : Nat} (us vs ws : List Value) (hj : j < l.length) (hK : K = k + (s : Int) * (j : Int))
    (h : w1.ownsRow B E s (.slice (some ⟨g, 0, none⟩) l.length c) l.length ((markN mk s j k ++ l.drop j).flatMap enc)) (hg : W.grownBy w1 (some g)) (he : enc (mk K) = us ++ (vs ++ ws)) (hx : Ext (putW w1 g (j * s) us) w2) (hy : Ext (putW w2 g (j * s + us.length) vs) w3) (kv : Int) (hkv : kv = K + s) :
    MarkRel enc s mk l k W B g c E (.int .i64 kv) (.int .i64 ((j : Int) + 1)) (putW w3 g (j * s + us.length + vs.length) ws) := by
  obtain ⟨h1, g1⟩ := own_put us w1 (j * s) _ h
  have h2 := own_ext h1 hx
  obtain ⟨h3, g3⟩ := own_put vs w2 (j * s + us.length) _ h2
  have h4 := own_ext h3 hy
  obtain ⟨h5, g5⟩ := own_put ws w3 (j * s + us.length + vs.length) _ h4
  rw [putAt_append, putAt_append, ← he, putAt_flat hs _ j (by simp [markN_len]; omega), mark_step mk s k l j hj K hK] at h5
  refine ⟨j + 1, kv, by omega, by simp, rfl, ?_, h5, grown_trans hg (grown_trans g1 (grown_trans (grown_ext hx) (grown_trans g3 (grown_trans (grown_ext hy) g5))))⟩
  rw [hkv, hK]; push_cast; rw [Int.mul_add]; omega

theorem MarkRel.done {α : Type} {enc : α → List Value} {s : Nat} {mk : Int → α} {l : List α} {k : Int} {w1 : World} {B g c E j : Nat} (hj : j ≤ l.length) (hj2 : ¬ j < l.length)
    (h : w1.ownsRow B E s (.slice (some ⟨g, 0, none⟩) l.length c) l.length ((markN mk s j k ++ l.drop j).flatMap enc)) : w1.ownsRow B E s (.slice (some ⟨g, 0, none⟩) l.length c) l.length ((markN mk s l.length k).flatMap enc) := by
  obtain rfl : j = l.length := by omega
  simpa using h

/-- short names of long proofs: the default value proves it where the name stands -/
theorem bxt {B : Nat} {a b : World} (h : Below B a b := by repeat' (first | with_reducible exact Below.refl _ _ | with_reducible assumption | with_reducible refine Below.alloc ?_ ?_ _ | with_reducible refine Below.setCell ?_ ?_ _ | with_reducible refine Below.drew ?_ | with_reducible refine Below.drewN ?_ _ | with_reducible refine Below.ext ?_ (by assumption) | (simp <;> omega) | omega)) : Below B a b := h
theorem smx {p : Prop} (h : p := by first | (simp; done) | (simp; omega) | omega) : p := h
end Go.Proofs.YtadjlfcdjkikgaaDoor
