/-
  The memory layer of the proofs: cells that a slice reads, slices that are only read, worlds that grow.
  The plain data of the laws: mirrors of the program's structs, and the cells that hold them.
  How the arguments of a law are opened: a slice that came in, of elements of s cells each.
  The laws' plain data, opened: what a reading says of the cells.
  Slices that a call gathers: 'append' of one element, and what it leaves.
  Slices of the call's own in a wider sense: an empty slice without any room may lie anywhere. 'append' of a whole slice onto such a one.
  Worlds in which a set of blocks may have changed.
  What a statement of a law leaves that makes a struct's box out of calls whose order is open.
  A box that is written anew, cell by cell.
  The small tests of the program and of the reference: a number between two others; flags.
  The laws' functions over Seen: equality, size, copy; over slices of it.
  The library's Clone and Delete at slices of Seen.
  strings.Contains by the shelf's contract, at this program's numbers.
  Whether a mailbox's name is valid: the program's function and the reference's.
  The sequence number of a message: the program's function and the reference's give one number.
  The laws' functions over Reply: equality, size, copy; over slices of it.
  Whether two values of View are equal: the program's function and the reference's.
-/
import Derived.BigQuiet
import Derived.Deep.LoopGhost
import Derived.Deep.QuietTactic
import Derived.Deep.RegionHeld3
import Derived.Lib.Hide
import Derived.OpenShut
import Derived.ProofKit
import Derived.Test.YtpameapajhbdnaaRows
import Derived.WalkKit
import Derived.WalkLawsBesides
import Derived.WalkSpells
import Derived.Deep.Slices
import Derived.Deep.AppendLies
import Derived.Deep.DeepCutAuto
import Derived.Maps.AppendAt
import Derived.OwnWalk
import Derived.Deep.RegionLaw
import Derived.Lib.LazyBuf
import Derived.Shelf.Strings.Search3
import Derived.Lib.Index
namespace Go.Proofs.Ytpameapajhbdnaa
open Go.RowKit

theorem bcell {W w1 : World} (hb : Below W.heap.size W w1) : (∀ b o, b < W.heap.size → w1.cell? ⟨b, o, none⟩ = W.cell? ⟨b, o, none⟩) ∧ (∀ b o, b < W.heap.size → w1.frozen? ⟨b, o, none⟩ = W.frozen? ⟨b, o, none⟩) :=
  ⟨fun b o h => hb.cell (p := ⟨b, o, none⟩) h, fun b o h => hb.frozen (p := ⟨b, o, none⟩) h⟩

/-- w2 is w1 grown: nothing that w1 has has turned. -/
abbrev Ext (w1 w2 : World) : Prop := Below w1.heap.size w1 w2
theorem Below.ext {a b c : World} (h : Below a.heap.size a b) (k : Below b.heap.size b c) : Below a.heap.size a c := h.trans (k.mono h.size)

theorem sBeg (W : World) : Below W.heap.size W W.drew ∧ (∀ b o, b < W.heap.size → W.drew.cell? ⟨b, o, none⟩ = W.cell? ⟨b, o, none⟩) := ⟨(Below.refl _ _).drew, fun _ _ _ => rfl⟩
theorem sExt {W w w' : World} (h : Below W.heap.size W w ∧ (∀ b o, b < W.heap.size → w.cell? ⟨b, o, none⟩ = W.cell? ⟨b, o, none⟩)) (h2 : Below w.heap.size w w') : Below W.heap.size W w' ∧ (∀ b o, b < W.heap.size → w'.cell? ⟨b, o, none⟩ = W.cell? ⟨b, o, none⟩) := by
  have h3 : Below W.heap.size W w' := h.1.trans (h2.mono h.1.size)
  exact ⟨h3, (bcell h3).1⟩

theorem ret_bool {a b : Bool} (h : a = b) : Ending.returned (.bool a) = .returned (.bool b) := by rw [h]
theorem ret_int {a b : Int} (h : a = b) : Ending.returned (.int .i64 a) = .returned (.int .i64 b) := by rw [h]

/-- from the offset o of block b on the cells read xs -/
def At (w : World) (b o : Nat) (xs : List Value) : Prop := ∀ j u, xs[j]? = some u → w.cell? ⟨b, o + j, none⟩ = some u

theorem At.ext {w w' : World} {b o : Nat} {xs : List Value} (h : At w b o xs) (hb : b < w.heap.size) (hw : Below w.heap.size w w') : At w' b o xs :=
  fun j u hu => ((bcell hw).1 b (o + j) hb).trans (h j u hu)

theorem At.take {w : World} {b o : Nat} {xs : List Value} (h : At w b o xs) (k : Nat) : At w b o (xs.take k) := fun j u hu => by
  rw [List.getElem?_take] at hu
  split at hu
  · exact h j u hu
  · cases hu

theorem At.drop {w : World} {b o : Nat} {xs : List Value} (h : At w b o xs) (k : Nat) : At w b (o + k) (xs.drop k) := fun j u hu => by
  rw [List.getElem?_drop] at hu
  rw [Nat.add_assoc]
  exact h (k + j) u hu

/-- a slice with address a, capacity c, of n elements of s cells each, reads the cells xs -/
structure Rd (w : World) (a : Option Addr) (c s n : Nat) (xs : List Value) : Prop where
  len : xs.length = n * s
  nc : n ≤ c
  cm : c ≤ 9223372036854775807
  ptr : 0 < n → ∃ b o, a = some ⟨b, o, none⟩ ∧ b < w.heap.size ∧ At w b o xs

theorem Rd.ext {w w' : World} {a : Option Addr} {c s n : Nat} {xs : List Value} (h : Rd w a c s n xs) (hw : Below w.heap.size w w') : Rd w' a c s n xs :=
  ⟨h.len, h.nc, h.cm, fun hn => let ⟨b, o, ha, hb, hat⟩ := h.ptr hn; ⟨b, o, ha, Nat.lt_of_lt_of_le hb hw.size, hat.ext hb hw⟩⟩

theorem flat_len {α : Type} {enc : α → List Value} {s : Nat} (hs : ∀ x, (enc x).length = s) : ∀ (l : List α), (l.flatMap enc).length = l.length * s
  | [] => by simp
  | x :: l => by simp only [List.flatMap_cons, List.length_append, hs, flat_len hs l, List.length_cons]; rw [Nat.add_mul]; omega

theorem flat_get {α : Type} {enc : α → List Value} {s : Nat} (hs : ∀ x, (enc x).length = s) : ∀ (l : List α) (k j : Nat) (hk : k < l.length), j < s → (l.flatMap enc)[k * s + j]? = (enc l[k])[j]?
  | x :: l, 0, j, hk, hj => by
    simp only [List.flatMap_cons, Nat.zero_mul, Nat.zero_add, List.getElem_cons_zero]
    rw [List.getElem?_append_left (by rw [hs]; exact hj)]
  | x :: l, k + 1, j, hk, hj => by
    simp only [List.flatMap_cons, List.getElem_cons_succ]
    have h1 : (k + 1) * s + j = (enc x).length + (k * s + j) := by rw [hs, Nat.add_mul]; omega
    rw [h1, List.getElem?_append_right (by omega), Nat.add_sub_cancel_left]
    exact flat_get hs l k j (by simpa using hk) hj

theorem flat_take {α : Type} {enc : α → List Value} {s : Nat} (hs : ∀ x, (enc x).length = s) : ∀ (l : List α) (k : Nat), (l.flatMap enc).take (k * s) = (l.take k).flatMap enc
  | [], k => by simp
  | x :: l, 0 => by simp
  | x :: l, k + 1 => by
    simp only [List.flatMap_cons, List.take_succ_cons]
    have h1 : (k + 1) * s = (enc x).length + k * s := by rw [hs, Nat.add_mul]; omega
    rw [h1, List.take_append, List.take_of_length_le (by omega), Nat.add_sub_cancel_left, flat_take hs l k]

theorem flat_drop {α : Type} {enc : α → List Value} {s : Nat} (hs : ∀ x, (enc x).length = s) : ∀ (l : List α) (k : Nat), (l.flatMap enc).drop (k * s) = (l.drop k).flatMap enc
  | [], k => by simp
  | x :: l, 0 => by simp
  | x :: l, k + 1 => by
    simp only [List.flatMap_cons, List.drop_succ_cons]
    have h1 : (k + 1) * s = (enc x).length + k * s := by rw [hs, Nat.add_mul]; omega
    rw [h1, List.drop_append, List.drop_of_length_le (by omega), Nat.add_sub_cancel_left, flat_drop hs l k, List.nil_append]

theorem At.el {α : Type} {enc : α → List Value} {s : Nat} (hs : ∀ x, (enc x).length = s) {w : World} {b o : Nat} {l : List α} (h : At w b o (l.flatMap enc)) (k : Nat) (hk : k < l.length) :
    ∀ j u, (enc l[k])[j]? = some u → w.cell? ⟨b, o + k * s + j, none⟩ = some u := fun j u hu => by
  have hj : j < s := by rw [← hs l[k]]; exact (List.getElem?_eq_some_iff.1 hu).1
  rw [Nat.add_assoc]
  exact h (k * s + j) u ((flat_get hs l k j hk hj).trans hu)

theorem Rd.pre {α : Type} {enc : α → List Value} {s : Nat} (hs : ∀ x, (enc x).length = s) {w : World} {a : Option Addr} {c : Nat} {l : List α} (h : Rd w a c s l.length (l.flatMap enc)) (k : Nat) (hk : k ≤ l.length) :
    Rd w a c s (l.take k).length ((l.take k).flatMap enc) := by
  have hl : (l.take k).length = k := by simp; omega
  rw [hl]
  refine ⟨by rw [flat_len hs, hl], by have := h.nc; omega, h.cm, fun h0 => ?_⟩
  obtain ⟨b, o, ha, hb, hat⟩ := h.ptr (by omega)
  refine ⟨b, o, ha, hb, ?_⟩
  rw [← flat_take hs]
  exact hat.take _

/-- lists that agree up to k, and whose lengths are one -/
theorem all_pre {α : Type} {x y : List α} (h : ∀ j, j < x.length → x[j]? = y[j]?) (hl : x.length = y.length) : x = y := by
  apply List.ext_getElem? ; intro j
  by_cases hj : j < x.length
  · exact h j hj
  · rw [List.getElem?_eq_none (by omega), List.getElem?_eq_none (by omega)]
theorem pre_succ {α : Type} {x y : List α} {k : Nat} (h : ∀ j, j < k → x[j]? = y[j]?) (hx : k < x.length) (hy : k < y.length) (he : x[k] = y[k]) : ∀ j, j < k + 1 → x[j]? = y[j]? := fun j hj => by
  by_cases hjk : j = k
  · subst hjk; rw [List.getElem?_eq_getElem hx, List.getElem?_eq_getElem hy, he]
  · exact h j (by omega)
theorem ne_at {α : Type} {x y : List α} {k : Nat} (hx : k < x.length) (hy : k < y.length) (he : x[k] ≠ y[k]) : x ≠ y := fun h => by subst h; exact he rfl

/-- the cells from p on are set to us, one behind the other -/
def putAt (xs : List Value) (p : Nat) : List Value → List Value
  | [] => xs
  | u :: us => putAt (xs.set p u) (p + 1) us
def putW (w : World) (g p : Nat) : List Value → World
  | [] => w
  | u :: us => putW (w.setCell ⟨g, p, none⟩ u) g (p + 1) us

theorem putAt_mid : ∀ (us A B C : List Value), B.length = us.length → putAt (A ++ (B ++ C)) A.length us = A ++ (us ++ C)
  | [], A, B, C, h => by
    have : B = [] := List.eq_nil_of_length_eq_zero (by simpa using h)
    subst this; rfl
  | u :: us, A, [], C, h => by simp at h
  | u :: us, A, b :: B, C, h => by
    have h1 : (A ++ (b :: B ++ C)).set A.length u = (A ++ [u]) ++ (B ++ C) := by simp
    have h2 : A.length + 1 = (A ++ [u]).length := by simp
    unfold putAt
    rw [h1, h2, putAt_mid us (A ++ [u]) B C (by simpa using h)]
    simp

theorem putAt_flat {α : Type} {enc : α → List Value} {s : Nat} (hs : ∀ x, (enc x).length = s) (l : List α) (k : Nat) (hk : k < l.length) (x : α) :
    putAt (l.flatMap enc) (k * s) (enc x) = (l.set k x).flatMap enc := by
  have h1 : l = l.take k ++ (l[k] :: l.drop (k + 1)) := by simp
  have h2 : l.set k x = l.take k ++ (x :: l.drop (k + 1)) := by rw [List.set_eq_take_append_cons_drop, if_pos hk]
  have h3 : ((l.take k).flatMap enc).length = k * s := by rw [flat_len hs, List.length_take, Nat.min_eq_left (by omega)]
  rw [h2]
  conv => lhs; rw [h1]
  rw [List.flatMap_append, List.flatMap_append, List.flatMap_cons, List.flatMap_cons, ← h3]
  exact putAt_mid _ _ _ _ (by rw [hs, hs])

theorem own_put {B E s n g c : Nat} : ∀ (us : List Value) (w : World) (p : Nat) (xs : List Value), w.ownsRow B E s (.slice (some ⟨g, 0, none⟩) n c) n xs →
    (putW w g p us).ownsRow B E s (.slice (some ⟨g, 0, none⟩) n c) n (putAt xs p us) ∧ w.grownBy (putW w g p us) (some g)
  | [], w, p, xs, h => ⟨h, World.grownBy.refl _ _⟩
  | u :: us, w, p, xs, h => by
    obtain ⟨h1, g1⟩ := World.ownsRow.stored h p u
    obtain ⟨h2, g2⟩ := own_put us _ (p + 1) _ h1
    exact ⟨h2, ⟨g2.os.trans g1.os, g2.tape.trans g1.tape, g2.output.trans g1.output, Nat.le_trans g1.size g2.size, fun k hk hne => (g2.block k (Nat.lt_of_lt_of_le hk g1.size) hne).trans (g1.block k hk hne)⟩⟩

theorem own_ext {w w' : World} {B E s n : Nat} {v : Value} {xs : List Value} (h : w.ownsRow B E s v n xs) (hb : Below w.heap.size w w') : w'.ownsRow B E s v n xs :=
  h.kept (row := none) ⟨hb.os, hb.tape, hb.output, hb.size, fun k hk _ => hb.block k hk⟩ (by cases hv : v.ownBlock <;> simp)

theorem take_rep_set {α : Type} (l : List α) (x0 : α) (k : Nat) (hk : k < l.length) : (l.take k ++ List.replicate (l.length - k) x0).set k l[k] = l.take (k + 1) ++ List.replicate (l.length - (k + 1)) x0 := by
  have h1 : (l.take k).length = k := by simp; omega
  have h2 : l.length - k = (l.length - (k + 1)) + 1 := by omega
  rw [h2, List.replicate_succ, List.set_append_right _ _ (by omega), h1, Nat.sub_self, List.set_cons_zero, List.take_succ_eq_append_getElem hk, List.append_assoc]
  rfl

theorem str_beq (a b : ByteArray) : (a.toList == b.toList) = decide (a = b) := by
  rw [ByteArray.toList_eq, ByteArray.toList_eq]
  by_cases h : a = b
  · subst h; simp
  · simp only [h, decide_false, beq_eq_false_iff_ne, ne_eq]
    exact fun e => h (WideShapes.bytes_inj e)

theorem own_slot {w : World} {B E s n g c : Nat} {xs : List Value} (h : w.ownsRow B E s (.slice (some ⟨g, 0, none⟩) n c) n xs) (j : Nat) (hj : j < n * s) :
    (∃ u, w.cell? ⟨g, j, none⟩ = some u) ∧ w.frozen? ⟨g, j, none⟩ = false := by
  refine ⟨?_, World.ownsRow.frozenAt h j⟩
  rw [World.ownsRow.cellAt h j hj]
  exact ⟨_, List.getElem?_eq_getElem (by rw [h.1]; exact hj)⟩

theorem own_step {α : Type} {enc : α → List Value} {s : Nat} (hs : ∀ x, (enc x).length = s) {w : World} {B E g : Nat} {l : List α} {x0 : α} {k : Nat} (hk : k < l.length)
    (h : w.ownsRow B E s (.slice (some ⟨g, 0, none⟩) l.length l.length) l.length ((l.take k ++ List.replicate (l.length - k) x0).flatMap enc)) :
    (putW w g (k * s) (enc l[k])).ownsRow B E s (.slice (some ⟨g, 0, none⟩) l.length l.length) l.length ((l.take (k + 1) ++ List.replicate (l.length - (k + 1)) x0).flatMap enc) ∧ w.grownBy (putW w g (k * s) (enc l[k])) (some g) := by
  have h1 := own_put (enc l[k]) w (k * s) _ h
  rw [putAt_flat hs _ k (by simp; omega), take_rep_set l x0 k hk] at h1
  exact h1

/-- the loop of a function that copies a slice element by element: after k rounds -/
def ToRel {α : Type} (enc : α → List Value) (s : Nat) (x0 : α) (l : List α) (W : World) (g E : Nat) (i : Value) (wr : World) : Prop :=
  ∃ k : Nat, k ≤ l.length ∧ i = .int .i64 k ∧ wr.ownsRow W.heap.size E s (.slice (some ⟨g, 0, none⟩) l.length l.length) l.length ((l.take k ++ List.replicate (l.length - k) x0).flatMap enc) ∧ Below W.heap.size W wr

theorem ToRel.next {α : Type} {enc : α → List Value} {s : Nat} (hs : ∀ x, (enc x).length = s) {x0 : α} {l : List α} {W wr w1 : World} {g E k : Nat} (hk : k < l.length) (hg : W.heap.size = g)
    (h : wr.ownsRow W.heap.size E s (.slice (some ⟨g, 0, none⟩) l.length l.length) l.length ((l.take k ++ List.replicate (l.length - k) x0).flatMap enc)) (hb : Below W.heap.size W wr) (hb1 : Ext wr w1) :
    ToRel enc s x0 l W g E (.int .i64 ((k : Int) + 1)) (putW w1 g (k * s) (enc l[k])) := by
  obtain ⟨h1, g1⟩ := own_step hs hk (own_ext h hb1)
  refine ⟨k + 1, by omega, by simp, h1, ?_⟩
  have hb2 : Below W.heap.size W w1 := Below.ext hb hb1
  exact hb2.grown g1 hb2.size (fun j hj => by simp at hj; omega)

theorem ToRel.done {α : Type} {enc : α → List Value} {s : Nat} {x0 : α} {l : List α} {wr : World} {B g E k : Nat} (hk : k ≤ l.length) (hk2 : ¬ k < l.length)
    (h : wr.ownsRow B E s (.slice (some ⟨g, 0, none⟩) l.length l.length) l.length ((l.take k ++ List.replicate (l.length - k) x0).flatMap enc)) :
    wr.ownsRow B E s (.slice (some ⟨g, 0, none⟩) l.length l.length) l.length (l.flatMap enc) := by
  have : k = l.length := by omega
  subst this
  simpa using h

theorem own_le {w : World} {B B' E s n : Nat} {v : Value} {xs : List Value} (h : w.ownsRow B E s v n xs) (hb : B' ≤ B) : w.ownsRow B' E s v n xs :=
  ⟨h.1, h.2.elim Or.inl (fun ⟨g, cap, cur, hv, hg, r⟩ => Or.inr ⟨g, cap, cur, hv, Nat.le_trans hb hg, r⟩)⟩

/-- the index of the first element of which p holds, or -1 -/
def firstI {α : Type} (p : α → Bool) (l : List α) : Int := match l.findIdx? p with | some i => (i : Int) | none => -1

theorem firstI_hit {α : Type} {p : α → Bool} {l : List α} {k : Nat} (hk : k < l.length) (h : p l[k] = true) (hpre : ∀ j (hj : j < l.length), j < k → p l[j] = false) : firstI p l = k := by
  have : l.findIdx? p = some k := by
    rw [List.findIdx?_eq_some_iff_getElem]
    exact ⟨hk, h, fun j hj => by rw [hpre j (by omega) hj]; simp⟩
  unfold firstI; rw [this]
theorem firstI_miss {α : Type} {p : α → Bool} {l : List α} (hpre : ∀ j (hj : j < l.length), p l[j] = false) : firstI p l = -1 := by
  have : l.findIdx? p = none := by
    rw [List.findIdx?_eq_none_iff]
    intro x hx
    obtain ⟨j, hj, rfl⟩ := List.mem_iff_getElem.1 hx
    exact hpre j hj
  unfold firstI; rw [this]
theorem firstI_range {α : Type} (p : α → Bool) (l : List α) : -1 ≤ firstI p l ∧ firstI p l < l.length := by
  unfold firstI
  split
  · rename_i i h
    have := (List.findIdx?_eq_some_iff_getElem.1 h).1
    omega
  · omega
/-- what a search's loop knows: nothing found below k -/
def NoneTo {α : Type} (p : α → Bool) (l : List α) (k : Nat) : Prop := ∀ j (hj : j < l.length), j < k → p l[j] = false
theorem NoneTo.zero {α : Type} {p : α → Bool} {l : List α} : NoneTo p l 0 := fun _ _ h => by omega
theorem NoneTo.succ {α : Type} {p : α → Bool} {l : List α} {k : Nat} (h : NoneTo p l k) (hk : k < l.length) (hp : p l[k] = false) : NoneTo p l (k + 1) := fun j hj hlt => by
  by_cases hjk : j = k
  · subst hjk; exact hp
  · exact h j hj (by omega)
theorem NoneTo.all {α : Type} {p : α → Bool} {l : List α} {k : Nat} (h : NoneTo p l k) (hk : ¬ k < l.length) : firstI p l = -1 := firstI_miss fun j hj => h j hj (by omega)
theorem NoneTo.hit {α : Type} {p : α → Bool} {l : List α} {k : Nat} (h : NoneTo p l k) (hk : k < l.length) (hp : p l[k] = true) : firstI p l = k := firstI_hit hk hp h

/-- r says whether p -/
def Tells (r : Bool) (p : Prop) : Prop := r = true ↔ p
theorem boolOf (p : Prop) : ∃ r : Bool, Tells r p := by classical exact ⟨decide p, by simp [Tells]⟩
theorem no_of {p : Prop} (h : Tells false p) : ¬ p := fun hp => Bool.false_ne_true (h.2 hp)
theorem yes_of {p : Prop} (h : Tells true p) : p := h.1 rfl
theorem Tells.eq_true {r : Bool} {p : Prop} (h : Tells r p) (hp : p) : r = true := h.2 hp
theorem Tells.eq_false {r : Bool} {p : Prop} (h : Tells r p) (hp : ¬ p) : r = false := by
  cases r with
  | false => rfl
  | true => exact (hp (yes_of h)).elim
theorem ret_no {r : Bool} {p : Prop} (h : Tells r p) (hn : ¬ p) : Ending.returned (.bool false) = .returned (.bool r) := by rw [h.eq_false hn]
theorem ret_yes {r : Bool} {p : Prop} (h : Tells r p) (hp : p) : Ending.returned (.bool true) = .returned (.bool r) := by rw [h.2 hp]

theorem Below.drewN {B : Nat} {a w : World} (h : Below B a w) (n : Nat) : Below B a (w.drewN n) := below_drewN h n
/-- what an element that is not valid says of the whole -/
theorem not_of {p q : Prop} (h : p → q) (hn : ¬ q) : ¬ p := fun hp => hn (h hp)

theorem putAt_append : ∀ (us vs xs : List Value) (p : Nat), putAt (putAt xs p us) (p + us.length) vs = putAt xs p (us ++ vs)
  | [], vs, xs, p => rfl
  | u :: us, vs, xs, p => by
    have := putAt_append us vs (xs.set p u) (p + 1)
    simp only [putAt, List.length_cons, List.cons_append]
    rw [← this]
    congr 1
    omega

/-- the marks of a list: n elements, each of s fields, numbered from k on -/
def markN {α : Type} (mk : Int → α) (s n : Nat) (k : Int) : List α := (List.range n).map (fun (i : Nat) => mk (k + (s : Int) * (i : Int)))
theorem markN_len {α : Type} (mk : Int → α) (s n : Nat) (k : Int) : (markN mk s n k).length = n := by simp [markN]
theorem mark_step {α : Type} (mk : Int → α) (s : Nat) (k : Int) (l : List α) (i : Nat) (hi : i < l.length) (K : Int) (hK : K = k + (s : Int) * (i : Int)) :
    (markN mk s i k ++ l.drop i).set i (mk K) = markN mk s (i + 1) k ++ l.drop (i + 1) := by
  have h1 : (markN mk s i k).length = i := markN_len mk s i k
  rw [List.set_append_right _ _ (by omega), h1, Nat.sub_self]
  have h2 : l.drop i = l[i] :: l.drop (i + 1) := by simp
  rw [h2, List.set_cons_zero]
  have h3 : markN mk s (i + 1) k = markN mk s i k ++ [mk K] := by
    unfold markN
    rw [List.range_succ, List.map_append, hK]; rfl
  rw [h3]; simp
theorem grown_trans {a b c : World} {row : Option Nat} (h : a.grownBy b row) (k : b.grownBy c row) : a.grownBy c row :=
  ⟨k.os.trans h.os, k.tape.trans h.tape, k.output.trans h.output, Nat.le_trans h.size k.size, fun i hi hne => (k.block i (Nat.lt_of_lt_of_le hi h.size) hne).trans (h.block i hi hne)⟩
theorem grown_ext {a b : World} {row : Option Nat} (h : Below a.heap.size a b) : a.grownBy b row := ⟨h.os, h.tape, h.output, h.size, fun i hi _ => h.block i hi⟩
/-- the loop of a function that lays marks: after i rounds -/
def MarkRel {α : Type} (enc : α → List Value) (s : Nat) (mk : Int → α) (l : List α) (k : Int) (W : World) (B g c E : Nat) (kv i : Value) (wr : World) : Prop :=
  ∃ (j : Nat) (K : Int), j ≤ l.length ∧ i = .int .i64 j ∧ kv = .int .i64 K ∧ K = k + (s : Int) * (j : Int) ∧ wr.ownsRow B E s (.slice (some ⟨g, 0, none⟩) l.length c) l.length ((markN mk s j k ++ l.drop j).flatMap enc) ∧ W.grownBy wr (some g)

theorem MarkRel.next {α : Type} {enc : α → List Value} {s : Nat} (hs : ∀ x, (enc x).length = s) {mk : Int → α} {l : List α} {k K : Int} {W w1 w2 : World} {B g c E j : Nat} (us vs : List Value) (hj : j < l.length) (hK : K = k + (s : Int) * (j : Int))
    (h : w1.ownsRow B E s (.slice (some ⟨g, 0, none⟩) l.length c) l.length ((markN mk s j k ++ l.drop j).flatMap enc)) (hg : W.grownBy w1 (some g)) (he : enc (mk K) = us ++ vs) (hx : Ext (putW w1 g (j * s) us) w2) (kv : Int) (hkv : kv = K + s) :
    MarkRel enc s mk l k W B g c E (.int .i64 kv) (.int .i64 ((j : Int) + 1)) (putW w2 g (j * s + us.length) vs) := by
  obtain ⟨h1, g1⟩ := own_put us w1 (j * s) _ h
  have h2 := own_ext h1 hx
  obtain ⟨h3, g3⟩ := own_put vs w2 (j * s + us.length) _ h2
  rw [putAt_append, ← he, putAt_flat hs _ j (by simp [markN_len]; omega), mark_step mk s k l j hj K hK] at h3
  refine ⟨j + 1, kv, by omega, by simp, rfl, ?_, h3, grown_trans hg (grown_trans g1 (grown_trans (grown_ext hx) g3))⟩
  rw [hkv, hK]; push_cast; rw [Int.mul_add]; omega

theorem MarkRel.done {α : Type} {enc : α → List Value} {s : Nat} {mk : Int → α} {l : List α} {k : Int} {w1 : World} {B g c E j : Nat} (hj : j ≤ l.length) (hj2 : ¬ j < l.length)
    (h : w1.ownsRow B E s (.slice (some ⟨g, 0, none⟩) l.length c) l.length ((markN mk s j k ++ l.drop j).flatMap enc)) : w1.ownsRow B E s (.slice (some ⟨g, 0, none⟩) l.length c) l.length ((markN mk s l.length k).flatMap enc) := by
  obtain rfl : j = l.length := by omega
  simpa using h

/-- short names of long proofs: the default value proves it where the name stands -/
theorem bxt {B : Nat} {a b : World} (h : Below B a b := by repeat' (first | with_reducible exact Below.refl _ _ | with_reducible assumption | with_reducible refine Below.alloc ?_ ?_ _ | with_reducible refine Below.setCell ?_ ?_ _ | with_reducible refine Below.drew ?_ | with_reducible refine Below.drewN ?_ _ | with_reducible refine Below.ext ?_ (by assumption) | (simp <;> omega) | omega)) : Below B a b := h
theorem smx {p : Prop} (h : p := by first | (simp; done) | (simp; omega) | omega) : p := h
end Go.Proofs.Ytpameapajhbdnaa

namespace Go.Proofs.Ytpameapajhbdnaa
open Go.RowKit
set_option linter.unusedVariables false
set_option linter.unusedSimpArgs false

structure DSeen where
  uid : Int
  flags : Int
deriving DecidableEq
def DSeen.cells (x : DSeen) : List Value := [.int .i64 x.uid, .int .i64 x.flags]
theorem DSeen.cells_len (x : DSeen) : x.cells.length = 2 := rfl
def DSeen.sz (x : DSeen) : Nat := 0
theorem DSeen.at {w : World} {b o : Nat} {l : List DSeen} (h : At w b o (l.flatMap DSeen.cells)) (k : Nat) (hk : k < l.length) :
      w.cell? ⟨b, o + k * 2, none⟩ = some (.int .i64 l[k].uid) ∧
      w.cell? ⟨b, o + k * 2 + 1, none⟩ = some (.int .i64 l[k].flags) :=
  ⟨At.el DSeen.cells_len h k hk 0 _ rfl, At.el DSeen.cells_len h k hk 1 _ rfl⟩
theorem DSeen.at0 {w : World} {b : Nat} {l : List DSeen} (h : At w b 0 (l.flatMap DSeen.cells)) (k : Nat) (hk : k < l.length) :
      w.cell? ⟨b, k * 2, none⟩ = some (.int .i64 l[k].uid) ∧
      w.cell? ⟨b, k * 2 + 1, none⟩ = some (.int .i64 l[k].flags) := by
  have := DSeen.at h k hk
  simpa only [Nat.zero_add] using this
/-- the bulk of a list: its length and its letters -/
def DSeen.szS (l : List DSeen) : Nat := l.length + (l.map DSeen.sz).sum
structure DNote where
  kind : Int
  n : Int
  uid : Int
  name : ByteArray
deriving DecidableEq
def DNote.cells (x : DNote) : List Value := [.int .i64 x.kind, .int .i64 x.n, .int .i64 x.uid, .string x.name]
theorem DNote.cells_len (x : DNote) : x.cells.length = 4 := rfl
def DNote.sz (x : DNote) : Nat := x.name.size
theorem DNote.at {w : World} {b o : Nat} {l : List DNote} (h : At w b o (l.flatMap DNote.cells)) (k : Nat) (hk : k < l.length) :
      w.cell? ⟨b, o + k * 4, none⟩ = some (.int .i64 l[k].kind) ∧
      w.cell? ⟨b, o + k * 4 + 1, none⟩ = some (.int .i64 l[k].n) ∧
      w.cell? ⟨b, o + k * 4 + 2, none⟩ = some (.int .i64 l[k].uid) ∧
      w.cell? ⟨b, o + k * 4 + 3, none⟩ = some (.string l[k].name) :=
  ⟨At.el DNote.cells_len h k hk 0 _ rfl, At.el DNote.cells_len h k hk 1 _ rfl, At.el DNote.cells_len h k hk 2 _ rfl, At.el DNote.cells_len h k hk 3 _ rfl⟩
theorem DNote.at0 {w : World} {b : Nat} {l : List DNote} (h : At w b 0 (l.flatMap DNote.cells)) (k : Nat) (hk : k < l.length) :
      w.cell? ⟨b, k * 4, none⟩ = some (.int .i64 l[k].kind) ∧
      w.cell? ⟨b, k * 4 + 1, none⟩ = some (.int .i64 l[k].n) ∧
      w.cell? ⟨b, k * 4 + 2, none⟩ = some (.int .i64 l[k].uid) ∧
      w.cell? ⟨b, k * 4 + 3, none⟩ = some (.string l[k].name) := by
  have := DNote.at h k hk
  simpa only [Nat.zero_add] using this
/-- the bulk of a list: its length and its letters -/
def DNote.szS (l : List DNote) : Nat := l.length + (l.map DNote.sz).sum
structure DMsg where
  uid : Int
  flags : Int
  text : ByteArray
deriving DecidableEq
def DMsg.cells (x : DMsg) : List Value := [.int .i64 x.uid, .int .i64 x.flags, .string x.text]
theorem DMsg.cells_len (x : DMsg) : x.cells.length = 3 := rfl
def DMsg.sz (x : DMsg) : Nat := x.text.size
theorem DMsg.at {w : World} {b o : Nat} {l : List DMsg} (h : At w b o (l.flatMap DMsg.cells)) (k : Nat) (hk : k < l.length) :
      w.cell? ⟨b, o + k * 3, none⟩ = some (.int .i64 l[k].uid) ∧
      w.cell? ⟨b, o + k * 3 + 1, none⟩ = some (.int .i64 l[k].flags) ∧
      w.cell? ⟨b, o + k * 3 + 2, none⟩ = some (.string l[k].text) :=
  ⟨At.el DMsg.cells_len h k hk 0 _ rfl, At.el DMsg.cells_len h k hk 1 _ rfl, At.el DMsg.cells_len h k hk 2 _ rfl⟩
theorem DMsg.at0 {w : World} {b : Nat} {l : List DMsg} (h : At w b 0 (l.flatMap DMsg.cells)) (k : Nat) (hk : k < l.length) :
      w.cell? ⟨b, k * 3, none⟩ = some (.int .i64 l[k].uid) ∧
      w.cell? ⟨b, k * 3 + 1, none⟩ = some (.int .i64 l[k].flags) ∧
      w.cell? ⟨b, k * 3 + 2, none⟩ = some (.string l[k].text) := by
  have := DMsg.at h k hk
  simpa only [Nat.zero_add] using this
/-- the bulk of a list: its length and its letters -/
def DMsg.szS (l : List DMsg) : Nat := l.length + (l.map DMsg.sz).sum
structure DCommit where
  kind : Int
  validity : Int
  uid : Int
  flags : Int
  name : ByteArray
  text : ByteArray
deriving DecidableEq
def DCommit.cells (x : DCommit) : List Value := [.int .i64 x.kind, .int .i64 x.validity, .int .i64 x.uid, .int .i64 x.flags, .string x.name, .string x.text]
theorem DCommit.cells_len (x : DCommit) : x.cells.length = 6 := rfl
def DCommit.sz (x : DCommit) : Nat := x.name.size + x.text.size
theorem DCommit.at {w : World} {b o : Nat} {l : List DCommit} (h : At w b o (l.flatMap DCommit.cells)) (k : Nat) (hk : k < l.length) :
      w.cell? ⟨b, o + k * 6, none⟩ = some (.int .i64 l[k].kind) ∧
      w.cell? ⟨b, o + k * 6 + 1, none⟩ = some (.int .i64 l[k].validity) ∧
      w.cell? ⟨b, o + k * 6 + 2, none⟩ = some (.int .i64 l[k].uid) ∧
      w.cell? ⟨b, o + k * 6 + 3, none⟩ = some (.int .i64 l[k].flags) ∧
      w.cell? ⟨b, o + k * 6 + 4, none⟩ = some (.string l[k].name) ∧
      w.cell? ⟨b, o + k * 6 + 5, none⟩ = some (.string l[k].text) :=
  ⟨At.el DCommit.cells_len h k hk 0 _ rfl, At.el DCommit.cells_len h k hk 1 _ rfl, At.el DCommit.cells_len h k hk 2 _ rfl, At.el DCommit.cells_len h k hk 3 _ rfl, At.el DCommit.cells_len h k hk 4 _ rfl, At.el DCommit.cells_len h k hk 5 _ rfl⟩
theorem DCommit.at0 {w : World} {b : Nat} {l : List DCommit} (h : At w b 0 (l.flatMap DCommit.cells)) (k : Nat) (hk : k < l.length) :
      w.cell? ⟨b, k * 6, none⟩ = some (.int .i64 l[k].kind) ∧
      w.cell? ⟨b, k * 6 + 1, none⟩ = some (.int .i64 l[k].validity) ∧
      w.cell? ⟨b, k * 6 + 2, none⟩ = some (.int .i64 l[k].uid) ∧
      w.cell? ⟨b, k * 6 + 3, none⟩ = some (.int .i64 l[k].flags) ∧
      w.cell? ⟨b, k * 6 + 4, none⟩ = some (.string l[k].name) ∧
      w.cell? ⟨b, k * 6 + 5, none⟩ = some (.string l[k].text) := by
  have := DCommit.at h k hk
  simpa only [Nat.zero_add] using this
/-- the bulk of a list: its length and its letters -/
def DCommit.szS (l : List DCommit) : Nat := l.length + (l.map DCommit.sz).sum
structure DReply where
  kind : Int
  n : Int
  uid : Int
  flags : Int
  name : ByteArray
  text : ByteArray
deriving DecidableEq
def DReply.cells (x : DReply) : List Value := [.int .i64 x.kind, .int .i64 x.n, .int .i64 x.uid, .int .i64 x.flags, .string x.name, .string x.text]
theorem DReply.cells_len (x : DReply) : x.cells.length = 6 := rfl
def DReply.sz (x : DReply) : Nat := x.name.size + x.text.size
theorem DReply.at {w : World} {b o : Nat} {l : List DReply} (h : At w b o (l.flatMap DReply.cells)) (k : Nat) (hk : k < l.length) :
      w.cell? ⟨b, o + k * 6, none⟩ = some (.int .i64 l[k].kind) ∧
      w.cell? ⟨b, o + k * 6 + 1, none⟩ = some (.int .i64 l[k].n) ∧
      w.cell? ⟨b, o + k * 6 + 2, none⟩ = some (.int .i64 l[k].uid) ∧
      w.cell? ⟨b, o + k * 6 + 3, none⟩ = some (.int .i64 l[k].flags) ∧
      w.cell? ⟨b, o + k * 6 + 4, none⟩ = some (.string l[k].name) ∧
      w.cell? ⟨b, o + k * 6 + 5, none⟩ = some (.string l[k].text) :=
  ⟨At.el DReply.cells_len h k hk 0 _ rfl, At.el DReply.cells_len h k hk 1 _ rfl, At.el DReply.cells_len h k hk 2 _ rfl, At.el DReply.cells_len h k hk 3 _ rfl, At.el DReply.cells_len h k hk 4 _ rfl, At.el DReply.cells_len h k hk 5 _ rfl⟩
theorem DReply.at0 {w : World} {b : Nat} {l : List DReply} (h : At w b 0 (l.flatMap DReply.cells)) (k : Nat) (hk : k < l.length) :
      w.cell? ⟨b, k * 6, none⟩ = some (.int .i64 l[k].kind) ∧
      w.cell? ⟨b, k * 6 + 1, none⟩ = some (.int .i64 l[k].n) ∧
      w.cell? ⟨b, k * 6 + 2, none⟩ = some (.int .i64 l[k].uid) ∧
      w.cell? ⟨b, k * 6 + 3, none⟩ = some (.int .i64 l[k].flags) ∧
      w.cell? ⟨b, k * 6 + 4, none⟩ = some (.string l[k].name) ∧
      w.cell? ⟨b, k * 6 + 5, none⟩ = some (.string l[k].text) := by
  have := DReply.at h k hk
  simpa only [Nat.zero_add] using this
/-- the bulk of a list: its length and its letters -/
def DReply.szS (l : List DReply) : Nat := l.length + (l.map DReply.sz).sum
end Go.Proofs.Ytpameapajhbdnaa

namespace Go.Proofs.Ytpameapajhbdnaa
open Go.RowKit Go.Deep
set_option linter.unusedVariables false

section
variable {H : Type} {enc : TypeId × Value → H} {P : Program} {w : World} {base : Nat} {spare : Nat → Bool} {held : Bool}

theorem flatten_get {s : Nat} : ∀ (css : List (List Value)) (k j : Nat) (hk : k < css.length), (∀ c ∈ css, c.length = s) → j < s → css.flatten[k * s + j]? = css[k][j]?
  | c :: css, 0, j, hk, hs, hj => by
    simp only [List.flatten_cons, Nat.zero_mul, Nat.zero_add, List.getElem_cons_zero]
    rw [List.getElem?_append_left (by rw [hs c (by simp)]; exact hj)]
  | c :: css, k + 1, j, hk, hs, hj => by
    simp only [List.flatten_cons, List.getElem_cons_succ]
    have h1 : (k + 1) * s + j = c.length + (k * s + j) := by rw [hs c (by simp), Nat.add_mul]; omega
    rw [h1, List.getElem?_append_right (by omega), Nat.add_sub_cancel_left]
    exact flatten_get css k j (by simpa using hk) (fun c hc => hs c (by simp [hc])) hj
theorem flatten_len {s : Nat} : ∀ (css : List (List Value)), (∀ c ∈ css, c.length = s) → css.flatten.length = css.length * s
  | [], _ => by simp
  | c :: css, h => by
    simp only [List.flatten_cons, List.length_append, List.length_cons]
    rw [h c (by simp), flatten_len css (fun c hc => h c (by simp [hc])), Nat.add_mul]; omega

theorem open_sl {α : Type} [Inhabited α] {t e : TypeId} {s fuel : Nat} {cs : List Value} {x : DataW H × List MemPlace} (ht : P.underlying t = some (.slice e)) (hc : P.cellsOf e = s) (h0 : 0 < s)
    (Rel : List Value → α → Prop) (hel : ∀ fuel cs x, DataW.trod enc P w base spare held fuel e cs = some x → ∃ a, Rel cs a) (hlen : ∀ cs a, Rel cs a → cs.length = s)
    (h : DataW.trod enc P w base spare held fuel t cs = some x) :
    ∃ (a : Option Addr) (c n : Nat) (css : List (List Value)) (l : List α), cs = [.slice a n c] ∧ css.length = n ∧ l.length = n ∧ (∀ i (h1 : i < css.length) (h2 : i < l.length), Rel css[i] l[i]) ∧ Rd w a c s n css.flatten := by
  rcases DataW.trod_slice ht h with ⟨rfl, _⟩ | ⟨a, len, cap, elems, rest, n, _, rfl, _, hb, hl, hm, hlen2, hel2, _, _⟩
  · exact ⟨none, 0, 0, [], [], rfl, rfl, rfl, fun i h1 _ => by simp at h1, ⟨by simp, Nat.le_refl _, by omega, fun h => by omega⟩⟩
  · rw [hc] at hel2
    have key : ∀ i, i < len → ∃ y : List Value × α, w.cells? base (a.add (i * s)) s = some y.1 ∧ Rel y.1 y.2 := fun i hi => by
      have h1 := hel2 i hi
      rw [List.getElem?_eq_getElem (by omega)] at h1
      obtain ⟨cs', h2, h3⟩ := Option.bind_eq_some_iff.1 h1
      obtain ⟨b, h4⟩ := hel _ _ _ h3
      exact ⟨(cs', b), h2, h4⟩
    obtain ⟨f, hf⟩ := choose_lt key
    have hcl : ∀ c ∈ (List.range len).map (fun i => (f i).1), c.length = s := fun c hc => by
      obtain ⟨i, hi, rfl⟩ := List.mem_map.1 hc
      exact hlen _ _ (hf i (by simpa using hi)).2
    refine ⟨some a, cap, len, (List.range len).map (fun i => (f i).1), (List.range len).map (fun i => (f i).2), rfl, by simp, by simp, fun i h1 h2 => by simpa using (hf i (by simpa using h1)).2, ?_⟩
    refine ⟨by rw [flatten_len _ hcl]; simp, hl, by unfold maxLen at hm; omega, fun hn => ?_⟩
    have hcell : ∀ i j, i < len → j < s → w.cell? (a.add (i * s + j)) = (f i).1[j]? := fun i j hi hj => by
      obtain ⟨h1, h2⟩ := hf i hi
      obtain ⟨_, _, h3⟩ := World.cells?_some h1
      have h4 := h3 j hj
      rw [← h4]
      congr 1
      unfold Addr.add
      by_cases e1 : i * s = 0
      · simp [e1]
      · by_cases e2 : j = 0
        · simp [e1, e2]
        · simp [e1, e2, Nat.add_assoc]
    obtain ⟨b, o, spot⟩ := a
    have hl0 := hlen _ _ (hf 0 hn).2
    have hc0 := hcell 0 0 hn h0
    rw [List.getElem?_eq_getElem (by omega)] at hc0
    have hsp : spot = none := by simpa [Addr.add] using World.cell?_spot hc0
    subst hsp
    refine ⟨b, o, rfl, by simpa [Addr.add] using World.block_lt_of_cell? w _ hc0, fun j u hu => ?_⟩
    have hj : j < len * s := by
      have := (List.getElem?_eq_some_iff.1 hu).1
      rw [flatten_len _ hcl] at this; simpa using this
    have hdm : j = (j / s) * s + j % s := by rw [Nat.mul_comm]; exact (Nat.div_add_mod j s).symm
    have hq : j / s < len := (Nat.div_lt_iff_lt_mul h0).2 hj
    have hr := flatten_get ((List.range len).map (fun i => (f i).1)) (j / s) (j % s) (by simpa using hq) hcl (Nat.mod_lt _ h0)
    rw [← hdm, hu] at hr
    have h5 := hcell (j / s) (j % s) hq (Nat.mod_lt _ h0)
    rw [← hdm] at h5
    rw [Addr.add_lit] at h5
    rw [h5]
    simpa using hr.symm

theorem open_flat {α : Type} [Inhabited α] {t e : TypeId} {s fuel : Nat} {cs : List Value} {x : DataW H × List MemPlace} (ht : P.underlying t = some (.slice e)) (hc : P.cellsOf e = s) (h0 : 0 < s)
    (encα : α → List Value) (hs : ∀ y, (encα y).length = s) (Good : α → Prop) (hel : ∀ fuel cs x, DataW.trod enc P w base spare held fuel e cs = some x → ∃ a, cs = encα a ∧ Good a)
    (h : DataW.trod enc P w base spare held fuel t cs = some x) :
    ∃ (a : Option Addr) (c : Nat) (l : List α), cs = [.slice a l.length c] ∧ Rd w a c s l.length (l.flatMap encα) ∧ ∀ y ∈ l, Good y := by
  obtain ⟨a, c, n, css, l, hcs, h1, h2, h3, h4⟩ := open_sl ht hc h0 (fun cs a => cs = encα a ∧ Good a) hel (fun cs a h => by rw [h.1, hs]) h
  subst h2
  have he : css = l.map encα := by
    apply List.ext_getElem (by simpa using h1)
    intro i hi1 hi2
    rw [(h3 i hi1 (by simpa using hi2)).1]; simp
  refine ⟨a, c, l, hcs, ?_, fun y hy => ?_⟩
  · rw [List.flatMap_def, ← he]; exact h4
  · obtain ⟨i, hi, rfl⟩ := List.mem_iff_getElem.1 hy
    exact (h3 i (by omega) hi).2

theorem slice_of {r : Reach} {b0 : Nat} {t e : TypeId} {v : Value} (ht : P.underlying t = some (.slice e)) (h : Value.okWide P w r b0 t v) : v.cells.toList = [v] := by
  obtain ⟨a, n, c, rfl⟩ := WideShapes.okWide_slice ht h
  rfl
end
end Go.Proofs.Ytpameapajhbdnaa

namespace Go.Proofs.Ytpameapajhbdnaa
open Go.RowKit
set_option linter.unusedVariables false
set_option linter.unusedSimpArgs false
open Go.Deep
section
variable {H : Type} {enc : TypeId × Value → H} {w : World} {base : Nat} {spare : Nat → Bool} {held : Bool} {fuel : Nat} {cs : List Value} {x : DataW H × List MemPlace}
instance : Inhabited DSeen := ⟨⟨0, 0⟩⟩
instance : Inhabited DMsg := ⟨⟨0, 0, ByteArray.empty⟩⟩
instance : Inhabited DCommit := ⟨⟨0, 0, 0, 0, ByteArray.empty, ByteArray.empty⟩⟩
instance : Inhabited DReply := ⟨⟨0, 0, 0, 0, ByteArray.empty, ByteArray.empty⟩⟩
end

end Go.Proofs.Ytpameapajhbdnaa

namespace Go.Proofs.Ytpameapajhbdnaa
open Go.RowKit
set_option linter.unusedVariables false
set_option linter.unusedSimpArgs false

theorem below_app {W wr w1 : World} {B0 B E s n : Nat} {v : Value} {xs : List Value} (hb : Below B0 W wr) (hown : wr.ownsRow B E s v n xs) (hB : B0 ≤ B) (hsz : B0 ≤ wr.heap.size) (hg : wr.grownBy w1 v.ownBlock) : Below B0 W w1 :=
  hb.grown hg hsz (fun k hk => Nat.le_trans hB (hown.lt k hk).1)

theorem Below.extB {B0 B : Nat} {a b c : World} (h : Below B0 a b) (k : Below B b c) (hB : B0 ≤ B) : Below B0 a c := h.trans (k.mono hB)

theorem own_shape {w : World} {B E s n : Nat} {v : Value} {xs : List Value} (h : w.ownsRow B E s v n xs) : ∃ a c, v = .slice a n c := by
  rcases h.2 with ⟨rfl, rfl⟩ | ⟨g, c, cur, rfl, _⟩
  · exact ⟨_, _, rfl⟩
  · exact ⟨_, _, rfl⟩

theorem at_alloc {w : World} {cs : Array Value} {E : TypeId} {p : Nat × Nat} {g : Nat} {l : List Value} (hg : w.heap.size = g) (hl : cs.toList = l) : At (w.alloc (.cells cs E p)) g 0 l := fun j u hu => by
  subst hg
  subst hl
  have hj : cs[j]? = some u := by simpa using hu
  have := heap_alloc_new w (.cells cs E p)
  unfold World.cell?
  simp only [this]
  simpa using hj

/-- the loop of a function that gathers a slice: after k rounds out k is gathered (out: a def, so that the walk leaves it alone) -/
def GathRel {α : Type} (enc : α → List Value) (s E N : Nat) (out : Nat → List α) (W : World) (B : Nat) (v i : Value) (wr : World) : Prop :=
  ∃ k : Nat, k ≤ N ∧ i = .int .i64 k ∧ wr.ownsRow B E s v (out k).length ((out k).flatMap enc) ∧ Below B W wr

theorem GathRel.next {α : Type} {enc : α → List Value} {s E N k n B : Nat} {out : Nat → List α} {W w0 w1 : World} {v v' : Value} {xs : List Value} (hk : k < N) (x : α) (ho : out (k + 1) = out k ++ [x]) (h0 : w0.ownsRow B E s v n xs) (hg : w0.grownBy w1 v.ownBlock) (hb : Below B W w0) (hB : B ≤ w0.heap.size)
    (h1 : w1.ownsRow B E s v' ((out k).length + 1) ((out k).flatMap enc ++ enc x)) : GathRel enc s E N out W B v' (.int .i64 ((k : Int) + 1)) w1 := by
  refine ⟨k + 1, by omega, by simp, ?_, below_app hb h0 (Nat.le_refl _) hB hg⟩
  rw [ho]
  simpa using h1
theorem GathRel.skip {α : Type} {enc : α → List Value} {s E N k B : Nat} {out : Nat → List α} {W w1 : World} {v : Value} (hk : k < N) (ho : out (k + 1) = out k)
    (h1 : w1.ownsRow B E s v (out k).length ((out k).flatMap enc)) (hb : Below B W w1) : GathRel enc s E N out W B v (.int .i64 ((k : Int) + 1)) w1 :=
  ⟨k + 1, by omega, by simp, by rw [ho]; exact h1, hb⟩

/-- the same as one step of a region that draws -/
theorem step_app1 {P : Program} {w : World} {ops : Array Oper} {o : Oper} {a : Act} {K : Act → World → Prop} {Q : Exit → Act → World → Prop} {Els : Prop} (hgd : o.guard = none) (sl x : Operand) (t : TypeId)
    (ho : o.op = .call { callee := .builtin .append, args := #[sl, x], argTypes := #[t, t] })
    (E : TypeId) (i : TypeInfo) (z : Value) (s bytes : Nat) (ht : P.underlying t = some (.slice E)) (hi : P.info? E = some i) (hz : i.zero = some z)
    (hsize : i.size = s) (hby : i.bytes = bytes) (hzs : z.cells.size = s) (hsz : 0 < s)
    (v : Value) (n : Nat) (xs : List Value) (hs : a.eval sl = v) (B : Nat) (hown : w.ownsRow B E s v n xs) (b : Nat) (news : List Value)
    (hx : a.eval x = .slice (some ⟨b, 0, none⟩) 1 1) (hl : news.length = s) (hat : At w b 0 news) (h1 : ∀ u ∈ news, u.oneCell' = true)
    (hn : n ≤ 4194304) (hb2 : bytes ≤ 1024) (hbase : B ≤ w.heap.size)
    (h : ∀ g c w', w'.ownsRow B E s (.slice (some ⟨g, 0, none⟩) (n + 1) c) (n + 1) (xs ++ news) → w.grownBy w' v.ownBlock → K (a.put o.dst (.slice (some ⟨g, 0, none⟩) (n + 1) c)) w') :
    if Region.wanted o (yielded ops a.tmps) = true then Oper.wp P o a w K Q else Els :=
  step_append_lies _ hgd sl x t ho B E i z s bytes ht hi hz hsize hby hzs hsz v n xs hs hown ⟨b, 0, none⟩ 1 1 news hx (by omega)
    (fun j u hj => by have h2 := hat j u hj; rw [Nat.zero_add] at h2; unfold Addr.add; split <;> simp_all) h1 (by omega) (by unfold maxLen; omega)
    (Nat.le_trans (Nat.mul_le_mul (by omega : n + 1 ≤ 4194305) hb2) (by omega)) hbase _ rfl (fun g c w' h1 h2 _ _ => h g c w' h1 h2)

/-- the same loop, the slice held in the cell j of box b -/
def GathFld {α : Type} (enc : α → List Value) (s E N : Nat) (out : Nat → List α) (W : World) (b j : Nat) (i : Value) (wr : World) : Prop :=
  ∃ (k : Nat) (v : Value), k ≤ N ∧ i = .int .i64 k ∧ wr.ownsRow (b + 1) E s v (out k).length ((out k).flatMap enc) ∧ Below b W wr ∧ wr.cell? ⟨b, j, none⟩ = some v ∧ wr.frozen? ⟨b, j, none⟩ = false ∧ b + 1 ≤ wr.heap.size
theorem GathFld.next {α : Type} {enc : α → List Value} {s E N k n b j : Nat} {out : Nat → List α} {W w0 w1 : World} {v v' : Value} {xs : List Value} (hk : k < N) (x : α) (ho : out (k + 1) = out k ++ [x])
    (h0 : w0.ownsRow (b + 1) E s v n xs) (hg : w0.grownBy w1 v.ownBlock) (hb : Below b W w0) (hB : b + 1 ≤ w0.heap.size) (hc : ∃ u, w0.cell? ⟨b, j, none⟩ = some u) (hf : w0.frozen? ⟨b, j, none⟩ = false)
    (h1 : w1.ownsRow (b + 1) E s v' ((out k).length + 1) ((out k).flatMap enc ++ enc x)) : GathFld enc s E N out W b j (.int .i64 ((k : Int) + 1)) (w1.setCell ⟨b, j, none⟩ v') := by
  have hne : some b ≠ v.ownBlock := fun e => by have := (h0.lt b e.symm).1; omega
  obtain ⟨u, hu⟩ := hc
  have hc1 : w1.cell? ⟨b, j, none⟩ = some u := (World.cell?_of_block (w := w0) (a := ⟨b, j, none⟩) (hg.block b (by omega) hne)).trans hu
  have hf1 : w1.frozen? ⟨b, j, none⟩ = false := (World.frozen?_of_block (w := w0) (a := ⟨b, j, none⟩) (hg.block b (by omega) hne)).trans hf
  refine ⟨k + 1, v', by omega, by simp, ?_, (below_app hb h0 (by omega) (by omega) hg).setCell (Nat.le_refl _) _, World.cell?_setCell_same _ _ _ hc1, by simpa using hf1, by have := hg.size; simp; omega⟩
  rw [ho]
  refine ownsRow_setCell_below ?_ (by simp) _
  simpa using h1
theorem fld_ready {E s n b j : Nat} {w0 w1 : World} {v : Value} {xs : List Value} (h0 : w0.ownsRow (b + 1) E s v n xs) (hg : w0.grownBy w1 v.ownBlock) (hB : b < w0.heap.size) (hc : ∃ u, w0.cell? ⟨b, j, none⟩ = some u) (hf : w0.frozen? ⟨b, j, none⟩ = false) :
    (∃ u, w1.cell? ⟨b, j, none⟩ = some u) ∧ w1.frozen? ⟨b, j, none⟩ = false := by
  have hne : some b ≠ v.ownBlock := fun e => by have := (h0.lt b e.symm).1; omega
  obtain ⟨u, hu⟩ := hc
  exact ⟨⟨u, (World.cell?_of_block (w := w0) (a := ⟨b, j, none⟩) (hg.block b (by omega) hne)).trans hu⟩, (World.frozen?_of_block (w := w0) (a := ⟨b, j, none⟩) (hg.block b (by omega) hne)).trans hf⟩

/-- v's memory is not block b's -/
def Off (b : Nat) (v : Value) : Prop := v.ownBlock ≠ some b
theorem Off.lt {w : World} {B E s n b : Nat} {v : Value} {xs : List Value} (h : w.ownsRow B E s v n xs) (hb : b < B) : Off b v := fun e => by have := (h.lt b e).1; omega
theorem Off.ge {w : World} {B E s n b : Nat} {v : Value} {xs : List Value} (h : w.ownsRow B E s v n xs) (hb : w.heap.size ≤ b) : Off b v := fun e => by have := (h.lt b e).2; omega
/-- two slices' memories are apart -/
def Apart (v v2 : Value) : Prop := v.ownBlock = none ∨ v.ownBlock ≠ v2.ownBlock
theorem Apart.of {w w2 : World} {B E s n B2 E2 s2 n2 : Nat} {v v2 : Value} {xs xs2 : List Value} (h : w.ownsRow B E s v n xs) (h2 : w2.ownsRow B2 E2 s2 v2 n2 xs2) (hle : w.heap.size ≤ B2) : Apart v v2 := by
  cases hv : v.ownBlock with
  | none => exact Or.inl hv
  | some g =>
    refine Or.inr fun e => ?_
    rw [hv] at e
    have := (h.lt g hv).2
    have := (h2.lt g e.symm).1
    omega
theorem Apart.symm {v v2 : Value} (h : Apart v v2) : Apart v2 v := by
  rcases h with h | h
  · cases hv : v2.ownBlock with
    | none => exact Or.inl hv
    | some g => exact Or.inr (by rw [h, hv]; simp)
  · exact Or.inr (fun e => h e.symm)
/-- what a drawn region keeps: below block B all is as in W -/
def SB (B : Nat) (W w' : World) : Prop := Below B W w' ∧ B ≤ w'.heap.size
theorem SB.cells {B : Nat} {W w' : World} (h : SB B W w') (b o : Nat) (hb : b < B) : w'.cell? ⟨b, o, none⟩ = W.cell? ⟨b, o, none⟩ := h.1.cell (p := ⟨b, o, none⟩) hb
theorem SB.frozen {B : Nat} {W w' : World} (h : SB B W w') (b o : Nat) (hb : b < B) : w'.frozen? ⟨b, o, none⟩ = W.frozen? ⟨b, o, none⟩ := h.1.frozen (p := ⟨b, o, none⟩) hb
abbrev SC (B : Nat) (W w' : World) : Prop := SB B W w' ∧ ∀ b o, b < B → w'.cell? ⟨b, o, none⟩ = W.cell? ⟨b, o, none⟩
theorem SC.beg (B : Nat) (W : World) (hB : B ≤ W.heap.size) : SC B W W.drew := ⟨⟨(Below.refl _ _).drew, hB⟩, fun _ _ _ => rfl⟩
theorem SC.of {B : Nat} {W w' : World} (h : SB B W w') : SC B W w' := ⟨h, fun b o hb => h.cells b o hb⟩
theorem SC.alloc {B : Nat} {W w' : World} (h : SC B W w') (o : Obj) : SC B W (w'.alloc o) := .of ⟨h.1.1.alloc h.1.2 _, by have := h.1.2; simp; omega⟩
theorem SC.set {B : Nat} {W w' : World} (h : SC B W w') {p : Addr} (hp : B ≤ p.block) (u : Value) : SC B W (w'.setCell p u) := .of ⟨h.1.1.setCell hp _, by simpa using h.1.2⟩
theorem SC.ext {B : Nat} {W w' w1 : World} (h : SC B W w') (h2 : Below w'.heap.size w' w1) : SC B W w1 := .of ⟨Below.extB h.1.1 h2 h.1.2, Nat.le_trans h.1.2 h2.size⟩
theorem SC.app {B B2 E s n : Nat} {W w' w1 : World} {v : Value} {xs : List Value} (h : SC B W w') (hown : w'.ownsRow B2 E s v n xs) (hB : B ≤ B2) (hg : w'.grownBy w1 v.ownBlock) : SC B W w1 := .of ⟨below_app h.1.1 hown hB h.1.2 hg, Nat.le_trans h.1.2 hg.size⟩
end Go.Proofs.Ytpameapajhbdnaa

namespace Go.Proofs.Ytpameapajhbdnaa
open Go.RowKit
set_option linter.unusedVariables false
set_option linter.unusedSimpArgs false

/-- the row that may be written through a slice value: none where it has no room at all -/
def foot : Value → Option Nat
  | .slice (some a) _ c => if c = 0 then none else some a.block
  | _ => none
/-- what v must be to own a row -/
def OwnAt (w : World) (B E s : Nat) (a : Option Addr) (n c : Nat) (xs : List Value) : Prop :=
  c = 0 ∨ ∃ g cur, a = some ⟨g, 0, none⟩ ∧ B ≤ g ∧ w.heap[g]? = some (.cells cur E (0, 0)) ∧ c ≤ maxLen ∧ cur.size = c * s ∧ cur.toList.take (n * s) = xs
def Own (w : World) (B E s : Nat) (v : Value) (n : Nat) (xs : List Value) : Prop :=
  xs.length = n * s ∧ ∃ a c, v = .slice a n c ∧ n ≤ c ∧ OwnAt w B E s a n c xs

theorem foot_slice (a : Option Addr) (n c : Nat) (k : Nat) : foot (.slice a n c) = some k ↔ c ≠ 0 ∧ ∃ x, a = some x ∧ x.block = k := by
  cases a with
  | none => simp [foot]
  | some x =>
    by_cases h : c = 0 <;> simp [foot, h]
theorem foot_len (a : Option Addr) (n m c : Nat) : foot (.slice a n c) = foot (.slice a m c) := by cases a <;> rfl
theorem foot_own {v : Value} {k : Nat} (h : foot v = some k) : v.ownBlock = some k := by
  unfold foot at h
  split at h
  · split at h
    · cases h
    · simpa [Value.ownBlock] using h
  · cases h
theorem grown_ext0 {a b : World} (h : Below a.heap.size a b) : a.grownBy b none := grown_ext h
theorem grown_below {a b : World} (h : a.grownBy b none) : Below a.heap.size a b := ⟨h.os, h.tape, h.output, h.size, fun k hk => h.block k hk (by simp)⟩

section
variable {w w' : World} {B B' E s n : Nat} {v : Value} {xs : List Value}

theorem Own.of_row (h : w.ownsRow B E s v n xs) : Own w B E s v n xs := by
  rcases h.2 with ⟨rfl, rfl⟩ | ⟨g, cap, cur, rfl, hb, hg, hnc, hcm, hcs, ht⟩
  · exact ⟨h.1, _, _, rfl, Nat.le_refl _, Or.inl rfl⟩
  · exact ⟨h.1, _, _, rfl, hnc, Or.inr ⟨g, cur, rfl, hb, hg, hcm, hcs, ht⟩⟩
theorem Own.none0 (a : Option Addr) : Own w B E s (.slice a 0 0) 0 [] := ⟨by simp, _, _, rfl, Nat.le_refl _, Or.inl rfl⟩
theorem Own.lt (h : Own w B E s v n xs) : ∀ k, foot v = some k → B ≤ k ∧ k < w.heap.size := fun k hk => by
  obtain ⟨h1, a, c, rfl, hnc, h0 | ⟨g, cur, rfl, hb, hg, _⟩⟩ := h
  · exact absurd h0 ((foot_slice _ _ _ _).1 hk).1
  · obtain ⟨_, x, hx, rfl⟩ := (foot_slice _ _ _ _).1 hk
    simp only [Option.some.injEq] at hx
    subst hx
    exact ⟨hb, (Array.getElem?_eq_some_iff.1 hg).1⟩
theorem Own.kept {row : Option Nat} (h : Own w B E s v n xs) (hg : w.grownBy w' row) (hne : foot v = none ∨ foot v ≠ row) : Own w' B E s v n xs := by
  obtain ⟨h1, a, c, rfl, hnc, h0 | ⟨g, cur, rfl, hb, hgg, hr⟩⟩ := h
  · exact ⟨h1, a, c, rfl, hnc, Or.inl h0⟩
  · by_cases hc : c = 0
    · exact ⟨h1, _, _, rfl, hnc, Or.inl hc⟩
    · refine ⟨h1, _, _, rfl, hnc, Or.inr ⟨g, cur, rfl, hb, ?_, hr⟩⟩
      rw [hg.block g (Array.getElem?_eq_some_iff.1 hgg).1]
      · exact hgg
      · simpa [foot, hc] using hne
theorem Own.ext (h : Own w B E s v n xs) (hb : Below w.heap.size w w') : Own w' B E s v n xs := h.kept (grown_ext0 hb) (by cases hv : foot v <;> simp)
theorem Own.le (h : Own w B E s v n xs) (hb : B' ≤ B) : Own w B' E s v n xs := by
  obtain ⟨h1, a, c, rfl, hnc, h0 | ⟨g, cur, ha, hb', hr⟩⟩ := h
  · exact ⟨h1, a, c, rfl, hnc, Or.inl h0⟩
  · exact ⟨h1, a, c, rfl, hnc, Or.inr ⟨g, cur, ha, Nat.le_trans hb hb', hr⟩⟩
theorem Own.shape (h : Own w B E s v n xs) : ∃ a c, v = .slice a n c := by obtain ⟨_, a, c, rfl, _⟩ := h; exact ⟨a, c, rfl⟩
theorem Rd.own {a : Option Addr} {c : Nat} (h : Own w B E s (.slice a n c) n xs) (hc : c ≤ 9223372036854775807) : Rd w a c s n xs := by
  obtain ⟨h1, a', c', hv, hnc, hr⟩ := h
  simp only [Value.slice.injEq] at hv
  obtain ⟨rfl, _, rfl⟩ := hv
  refine ⟨h1, hnc, hc, fun hn => ?_⟩
  rcases hr with h0 | ⟨g, cur, rfl, hb, hg, hcm, hcs, ht⟩
  · omega
  · refine ⟨g, 0, rfl, (Array.getElem?_eq_some_iff.1 hg).1, fun j u hu => ?_⟩
    have hrow : w.ownsRow B E s (.slice (some ⟨g, 0, none⟩) n c) n xs := ⟨h1, Or.inr ⟨g, c, cur, rfl, hb, hg, hnc, hcm, hcs, ht⟩⟩
    have hj : j < n * s := by
      have := (List.getElem?_eq_some_iff.1 hu).1
      rw [h1] at this; exact this
    have := World.ownsRow.cellAt hrow j hj
    rw [Nat.zero_add, this]; exact hu
theorem Own.cap {a : Option Addr} {c : Nat} (h : Own w B E s (.slice a n c) n xs) : n ≤ c ∧ c ≤ 9223372036854775807 := by
  obtain ⟨h1, a', c', hv, hnc, hr⟩ := h
  simp only [Value.slice.injEq] at hv
  obtain ⟨rfl, _, rfl⟩ := hv
  refine ⟨hnc, ?_⟩
  rcases hr with h0 | ⟨g, cur, rfl, hb, hg, hcm, _⟩
  · omega
  · unfold maxLen at hcm; omega
theorem Rd.of_Own {a : Option Addr} {c : Nat} (h : Own w B E s (.slice a n c) n xs) : Rd w a c s n xs := Rd.own h h.cap.2
/-- where there is room it is a row -/
theorem Own.row {a : Option Addr} {c : Nat} (h : Own w B E s (.slice a n c) n xs) (hc : c ≠ 0) : ∃ g, a = some ⟨g, 0, none⟩ ∧ w.ownsRow B E s (.slice (some ⟨g, 0, none⟩) n c) n xs := by
  obtain ⟨h1, a', c', hv, hnc, hr⟩ := h
  simp only [Value.slice.injEq] at hv
  obtain ⟨rfl, _, rfl⟩ := hv
  rcases hr with h0 | ⟨g, cur, rfl, hb, hg, hcm, hcs, ht⟩
  · exact absurd h0 hc
  · exact ⟨g, rfl, h1, Or.inr ⟨g, c, cur, rfl, hb, hg, hnc, hcm, hcs, ht⟩⟩
/-- the same slice, cut to its first m elements -/
theorem Own.cut {a : Option Addr} {c m : Nat} (h : Own w B E s (.slice a n c) n xs) (hm : m ≤ n) : Own w B E s (.slice a m c) m (xs.take (m * s)) := by
  obtain ⟨h1, a', c', hv, hnc, hr⟩ := h
  simp only [Value.slice.injEq] at hv
  obtain ⟨rfl, _, rfl⟩ := hv
  have hms : m * s ≤ n * s := Nat.mul_le_mul_right s hm
  refine ⟨by rw [List.length_take, h1]; omega, _, _, rfl, Nat.le_trans hm hnc, ?_⟩
  rcases hr with h0 | ⟨g, cur, rfl, hb, hg, hcm, hcs, ht⟩
  · exact Or.inl h0
  · refine Or.inr ⟨g, cur, rfl, hb, hg, hcm, hcs, ?_⟩
    rw [← ht, List.take_take, Nat.min_eq_left hms]
theorem Own.set_below (h : Own w B E s v n xs) {p : Addr} (hp : p.block < B) (u : Value) : Own (w.setCell p u) B E s v n xs := by
  obtain ⟨h1, a, c, rfl, hnc, h0 | ⟨g, cur, rfl, hb, hg, hr⟩⟩ := h
  · exact ⟨h1, a, c, rfl, hnc, Or.inl h0⟩
  · refine ⟨h1, _, _, rfl, hnc, Or.inr ⟨g, cur, rfl, hb, ?_, hr⟩⟩
    rw [Below.heap_setCell _ _ _ _ (by omega)]; exact hg
/-- two slices' memories are apart -/
def Off2 (v v2 : Value) : Prop := foot v = none ∨ foot v ≠ foot v2
theorem Off2.of {w2 : World} {B2 E2 s2 n2 : Nat} {v2 : Value} {xs2 : List Value} (h : Own w B E s v n xs) (h2 : Own w2 B2 E2 s2 v2 n2 xs2) (hle : w.heap.size ≤ B2) : Off2 v v2 := by
  cases hv : foot v with
  | none => exact Or.inl hv
  | some g =>
    refine Or.inr fun e => ?_
    rw [hv] at e
    have := (h.lt g hv).2
    have := (h2.lt g e.symm).1
    omega
theorem Off2.symm {v v2 : Value} (h : Off2 v v2) : Off2 v2 v := by
  rcases h with h | h
  · cases hv : foot v2 with
    | none => exact Or.inl hv
    | some g => exact Or.inr (by rw [h, hv]; simp)
  · exact Or.inr (fun e => h e.symm)
theorem Own.off {v2 : Value} (h : Own w B E s v n xs) (hg : w.grownBy w' (foot v2)) (ha : Off2 v v2) : Own w' B E s v n xs := h.kept hg ha
theorem below_foot {W wr w1 : World} {B0 : Nat} (hb : Below B0 W wr) (hown : Own wr B E s v n xs) (hB : B0 ≤ B) (hsz : B0 ≤ wr.heap.size) (hg : wr.grownBy w1 (foot v)) : Below B0 W w1 :=
  hb.grown hg hsz (fun k hk => Nat.le_trans hB (hown.lt k hk).1)

variable {P : Program}
theorem run_noNews (size m c : Nat) (a : Option Addr) (hm : m * size = 0) : (Builtin.firstCells size m (.slice a m c)).run P w = .ok #[] w := by
  cases a with
  | none => exact run_firstCells_none w size m m c
  | some b => exact run_firstCells_some (P := P) w size m b m c [] (by simp; omega) (fun j v h => by simp at h)

theorem At.add {b o : Nat} {xs : List Value} (h : At w b o xs) : ∀ j u, xs[j]? = some u → w.cell? ((⟨b, o, none⟩ : Addr).add j) = some u := fun j u hu => by
  have h2 := h j u hu
  unfold Addr.add; split
  · simp_all
  · exact h2
/-- append(v, src...): whatever v that the call owns, whatever slice src -/
theorem run_appL (t ty e : TypeId) (i : TypeInfo) (z : Value) (bytes : Nat) (ht : P.underlying t = some (.slice e)) (hi : P.info? e = some i) (hz : i.zero = some z)
    (hsize : i.size = s) (hby : i.bytes = bytes) (hzs : z.cells.size = s) (hsz : 0 < s)
    (h : Own w B e s v n xs) (a : Option Addr) (m c : Nat) (news : List Value) (R : Rd w a c s m news) (h1 : ∀ u ∈ news, u.oneCell' = true)
    (h63 : n + m ≤ maxLen) (hbytes : (n + m) * bytes ≤ 140737488355328) (hbase : B ≤ w.heap.size) :
    ∃ v' w', (Builtin.append_ #[t, t] ty #[v, .slice a m c]).run P w = .ok v' w' ∧ Own w' B e s v' (n + m) (xs ++ news) ∧ w.grownBy w' (foot v) ∧ (∀ k, foot v' = some k → foot v = some k ∨ k = w.heap.size) := by
  obtain ⟨hl, va, vc, rfl, hnc, hr⟩ := h
  by_cases hm : m = 0
  · subst hm
    have hn : news = [] := List.eq_nil_of_length_eq_zero (by rw [R.len]; simp)
    subst hn
    have hf : (Builtin.firstCells s 0 (.slice a 0 c)).run P w = .ok #[] w := run_noNews s 0 c a (by simp)
    refine ⟨.slice va n vc, w, ?_, by rw [Nat.add_zero, List.append_nil]; exact ⟨hl, va, vc, rfl, hnc, hr⟩, World.grownBy.refl _ _, fun k h => Or.inl h⟩
    subst hsize
    cases va with
    | none => simp [Builtin.append_, run_underlying ht, sizeOf, typeInfo, hi, Builtin.lenOf, hf, hnc]
    | some g => simp [Builtin.append_, run_underlying ht, sizeOf, typeInfo, hi, Builtin.lenOf, hf, hnc, storeCells]
  · obtain ⟨b, o, rfl, hb, hat⟩ := R.ptr (by omega)
    by_cases hc : vc = 0
    · subst hc
      obtain rfl : n = 0 := by omega
      obtain rfl : xs = [] := List.eq_nil_of_length_eq_zero (by rw [hl]; simp)
      cases va with
      | none =>
        obtain ⟨v', w', g1, g2, g3, _, g5⟩ := run_append_own_at (P := P) w B t ty e i z s bytes ht hi hz hsize hby hzs hsz (.slice none 0 0) 0 [] (World.ownsRow_nil _ _ _ _) ⟨b, o, none⟩ m c news R.len hat.add h1 h63 hbytes hbase
        refine ⟨v', w', g1, Own.of_row g2, by simpa [foot, Value.ownBlock] using g3, fun k hk => ?_⟩
        have h1 := foot_own hk
        rcases g5 with g5 | g5
        · rw [h1] at g5; simp [Value.ownBlock] at g5
        · rw [h1] at g5; simp at g5; exact Or.inr g5
      | some d =>
        subst hsize
        subst hby
        have h63' : m ≤ 9223372036854775807 := by unfold maxLen at h63; omega
        have hr2 := run_append_grow (P := P) w t ty e i z ht hi hz d 0 0 [] (by simp) (fun j v h => by simp at h) ⟨b, o, none⟩ m c news R.len hat.add (by omega) (by omega) (growslice_fits (by omega) hbytes)
        have hge := grownCap_ge w (0 + m) 0 e
        have hcm : grownCap w (0 + m) 0 e ≤ maxLen := grownCap_le_maxLen w (0 + m) 0 e h63
        refine ⟨_, _, hr2, ⟨?_, _, _, rfl, hge, Or.inr ⟨w.heap.size, _, rfl, hbase, heap_alloc_new w.drew _, hcm, ?_, ?_⟩⟩, ?_⟩
        · simp [R.len]
        · simp only [Array.size_append, List.size_toArray, size_zeroCells, hzs, R.len, List.length_nil, Nat.zero_add, ← Nat.add_mul]
          congr 1
          simp only [Nat.zero_add] at hge
          omega
        · simp only [Array.toList_append, List.append_assoc, List.nil_append, Nat.zero_add]
          rw [← R.len]
          exact List.take_left
        · exact ⟨⟨rfl, rfl, rfl, by simp, fun k hk _ => Below.heap_alloc w.drew _ k hk⟩, fun k hk => Or.inr (by have := foot_own hk; simp [Value.ownBlock] at this; exact this.symm)⟩
    · obtain ⟨g, rfl, hrow⟩ := Own.row (⟨hl, va, vc, rfl, hnc, hr⟩ : Own w B e s (.slice va n vc) n xs) hc
      obtain ⟨v', w', g1, g2, g3, _, g5⟩ := run_append_own_at (P := P) w B t ty e i z s bytes ht hi hz hsize hby hzs hsz _ n xs hrow ⟨b, o, none⟩ m c news R.len hat.add h1 h63 hbytes hbase
      refine ⟨v', w', g1, Own.of_row g2, by simpa [foot, Value.ownBlock, hc] using g3, fun k hk => ?_⟩
      have h1 := foot_own hk
      rcases g5 with g5 | g5
      · rw [h1] at g5; simp [Value.ownBlock] at g5; exact Or.inl (by simp [foot, hc, g5])
      · rw [h1] at g5; simp at g5; exact Or.inr g5
theorem run_app (t ty e : TypeId) (i : TypeInfo) (z : Value) (bytes : Nat) (ht : P.underlying t = some (.slice e)) (hi : P.info? e = some i) (hz : i.zero = some z)
    (hsize : i.size = s) (hby : i.bytes = bytes) (hzs : z.cells.size = s) (hsz : 0 < s)
    (h : Own w B e s v n xs) (a : Option Addr) (m c : Nat) (news : List Value) (R : Rd w a c s m news) (h1 : ∀ u ∈ news, u.oneCell' = true)
    (h63 : n + m ≤ maxLen) (hbytes : (n + m) * bytes ≤ 140737488355328) (hbase : B ≤ w.heap.size) :
    ∃ v' w', (Builtin.append_ #[t, t] ty #[v, .slice a m c]).run P w = .ok v' w' ∧ Own w' B e s v' (n + m) (xs ++ news) ∧ w.grownBy w' (foot v) := by
  obtain ⟨v', w', h1, h2, h3, _⟩ := run_appL t ty e i z bytes ht hi hz hsize hby hzs hsz h a m c news R h1 h63 hbytes hbase
  exact ⟨v', w', h1, h2, h3⟩
/-- append(v, src...) where there is room: in place; src may lie in v's own row -/
theorem run_app_room (t ty e : TypeId) (i : TypeInfo) (ht : P.underlying t = some (.slice e)) (hi : P.info? e = some i)
    (hsize : i.size = s) {va : Option Addr} {vc : Nat} (h : Own w B e s (.slice va n vc) n xs) (a : Option Addr) (m c : Nat) (news : List Value) (R : Rd w a c s m news) (h1 : ∀ u ∈ news, u.oneCell' = true) (hroom : n + m ≤ vc) :
    ∃ w', (Builtin.append_ #[t, t] ty #[.slice va n vc, .slice a m c]).run P w = .ok (.slice va (n + m) vc) w' ∧ Own w' B e s (.slice va (n + m) vc) (n + m) (xs ++ news) ∧ w.grownBy w' (foot (.slice va n vc)) := by
  by_cases hm : m = 0
  · subst hm
    have hn : news = [] := List.eq_nil_of_length_eq_zero (by rw [R.len]; simp)
    subst hn
    have hf : (Builtin.firstCells s 0 (.slice a 0 c)).run P w = .ok #[] w := run_noNews s 0 c a (by simp)
    refine ⟨w, ?_, by rw [Nat.add_zero, List.append_nil]; exact h, World.grownBy.refl _ _⟩
    subst hsize
    have hnc : n ≤ vc := by omega
    cases va with
    | none => simp [Builtin.append_, run_underlying ht, sizeOf, typeInfo, hi, Builtin.lenOf, hf, hnc]
    | some g => simp [Builtin.append_, run_underlying ht, sizeOf, typeInfo, hi, Builtin.lenOf, hf, hnc, storeCells]
  · have hc : vc ≠ 0 := by omega
    obtain ⟨b, o, rfl, hb, hat⟩ := R.ptr (by omega)
    obtain ⟨hl, va', vc', hv, hnc, hr⟩ := h
    simp only [Value.slice.injEq] at hv
    obtain ⟨rfl, _, rfl⟩ := hv
    rcases hr with h0 | ⟨g, cur, rfl, hb, hg, hcm, hcs, htake⟩
    · exact absurd h0 hc
    · subst hsize
      have hfit : n * i.size + news.length ≤ cur.size := by rw [R.len, hcs, ← Nat.add_mul]; exact Nat.mul_le_mul_right _ hroom
      have hr := run_append_room (P := P) w t ty e i ht hi g n vc cur hg ⟨b, o, none⟩ m c news R.len hat.add h1 hroom hfit
      refine ⟨_, hr, ⟨?_, _, _, rfl, hroom, Or.inr ⟨g, _, rfl, hb, setRow_heap w g cur _ e _ hg, hcm, ?_, ?_⟩⟩, ⟨rfl, rfl, rfl, by simp, fun k _ hk => setRow_other w g k _ (fun e => hk (by simp [foot, e, hc]))⟩⟩
      · rw [List.length_append, hl, R.len, Nat.add_mul]
      · simp only [List.size_toArray, List.length_append, List.length_take, List.length_drop, Array.length_toList]
        omega
      · have hlen : (xs ++ news).length = (n + m) * i.size := by rw [List.length_append, hl, R.len, Nat.add_mul]
        rw [htake, ← hlen]
        exact List.take_left
theorem step_app_room {ops : Array Oper} {o : Oper} {a : Act} {K : Act → World → Prop} {Q : Exit → Act → World → Prop} {Els : Prop} (hgd : o.guard = none) (sl x : Operand) (t : TypeId)
    (ho : o.op = .call { callee := .builtin .append, args := #[sl, x], argTypes := #[t, t] })
    (e : TypeId) (i : TypeInfo) (ht : P.underlying t = some (.slice e)) (hi : P.info? e = some i) (hsize : i.size = s)
    {va : Option Addr} {vc : Nat} (hs : a.eval sl = .slice va n vc) (hown : Own w B e s (.slice va n vc) n xs) (ra : Option Addr) (m c : Nat) (news : List Value) (hx : a.eval x = .slice ra m c) (R : Rd w ra c s m news) (h1 : ∀ u ∈ news, u.oneCell' = true) (hroom : n + m ≤ vc)
    (h : ∀ w', Own w' B e s (.slice va (n + m) vc) (n + m) (xs ++ news) → w.grownBy w' (foot (.slice va n vc)) → K (a.put o.dst (.slice va (n + m) vc)) w') :
    if Region.wanted o (yielded ops a.tmps) = true then Oper.wp P o a w K Q else Els := by
  have hw : Region.wanted o (yielded ops a.tmps) = true := by simp [Region.wanted, hgd]
  rw [if_pos hw]
  obtain ⟨w', hr, h2, h3⟩ := run_app_room (P := P) t o.type e i ht hi hsize hown ra m c news R h1 hroom
  unfold Oper.wp execOp
  simp only [ho, resolve, invoke, builtin, Sem.run_bind, Sem.run_pure, Result.andThen_ok, List.map_toArray, List.map_cons, List.map_nil, hs, hx, hr]
  exact h w' h2 h3
/-- clear(v[n:n+k]): behind the first n elements -/
theorem run_clr {k : Nat} (t ty e : TypeId) (z : Value) (ht : P.underlying t = some (.slice e)) (hz : ∀ w, (zeroValue e).run P w = .ok z w) (hzs : z.cells.size = s) (h1 : ∀ u ∈ (Builtin.zeroCells z.cells k).toList, u.oneCell' = true)
    {g vc : Nat} (h : Own w B e s (.slice (some ⟨g, 0, none⟩) n vc) n xs) (o c : Nat) (ho : o = n * s) (hroom : n + k ≤ vc) (hk : 0 < k) :
    ∃ w', (Builtin.clear_ #[t] ty #[.slice (some ⟨g, o, none⟩) k c]).run P w = .ok (.tuple #[]) w' ∧ Own w' B e s (.slice (some ⟨g, 0, none⟩) n vc) n xs ∧ w.grownBy w' (foot (.slice (some ⟨g, 0, none⟩) n vc)) := by
  subst ho
  obtain ⟨hl, va', vc', hv, hnc, hr⟩ := h
  simp only [Value.slice.injEq, Option.some.injEq] at hv
  obtain ⟨rfl, _, rfl⟩ := hv
  have hc : vc ≠ 0 := by omega
  rcases hr with h0 | ⟨g', cur, hg', hb, hg, hcm, hcs, htake⟩
  · exact absurd h0 hc
  · simp only [Option.some.injEq, Addr.mk.injEq, and_true, true_and] at hg'
    subst hg'
    have hlen : (Builtin.zeroCells z.cells k).toList.length = k * s := by rw [Array.length_toList, size_zeroCells, hzs]
    have hfit : n * s + 0 + (Builtin.zeroCells z.cells k).toList.length ≤ cur.size := by
      rw [hlen, hcs, Nat.add_zero, ← Nat.add_mul]; exact Nat.mul_le_mul_right _ hroom
    have hst := run_storeCells_at P g (n * s) e _ 0 cur w hg hfit h1
    have hrun : (Builtin.clear_ #[t] ty #[.slice (some ⟨g, n * s, none⟩) k c]).run P w = .ok (.tuple #[]) (w.setRow g (cur.toList.take (n * s + 0) ++ (Builtin.zeroCells z.cells k).toList ++ cur.toList.drop (n * s + 0 + (Builtin.zeroCells z.cells k).toList.length)).toArray) := by
      obtain ⟨k', rfl⟩ : ∃ k', k = k' + 1 := ⟨k - 1, by omega⟩
      simp [Builtin.clear_, run_underlying ht, hz, hst]
    refine ⟨_, hrun, ⟨hl, _, _, rfl, hnc, Or.inr ⟨g, _, rfl, hb, setRow_heap w g cur _ e _ hg, hcm, ?_, ?_⟩⟩, ⟨rfl, rfl, rfl, by simp, fun k' _ hk' => setRow_other w g k' _ (fun e => hk' (by simp [foot, e, hc]))⟩⟩
    · simp only [List.size_toArray, List.length_append, List.length_take, List.length_drop, Array.length_toList] at hfit ⊢
      omega
    · have hcl : (cur.toList.take (n * s)).length = n * s := by rw [htake, hl]
      simp only [Nat.add_zero, List.append_assoc]
      rw [List.take_append, hcl, Nat.sub_self, List.take_zero, List.append_nil, List.take_take, Nat.min_self]
      exact htake
theorem wpList_clr {ops : Array Oper} {rest : List Oper} {o : Oper} {a : Act} {Q : Exit → Act → World → Prop} (hgd : o.guard = none) (x : Operand) (t : TypeId)
    (ho : o.op = .call { callee := .builtin .clear, args := #[x], argTypes := #[t] })
    (e : TypeId) (z : Value) (ht : P.underlying t = some (.slice e)) (hz : ∀ w, (zeroValue e).run P w = .ok z w) (hzs : z.cells.size = s) {k : Nat} (h1 : ∀ u ∈ (Builtin.zeroCells z.cells k).toList, u.oneCell' = true)
    {g vc : Nat} (hown : Own w B e s (.slice (some ⟨g, 0, none⟩) n vc) n xs) (off c : Nat) (hx : a.eval x = .slice (some ⟨g, off, none⟩) k c) (hoff : off = n * s) (hroom : n + k ≤ vc) (hk : 0 < k)
    (h : ∀ w', Own w' B e s (.slice (some ⟨g, 0, none⟩) n vc) n xs → w.grownBy w' (foot (.slice (some ⟨g, 0, none⟩) n vc)) → wpList P ops Q rest (a.put o.dst (.tuple #[])) w') : wpList P ops Q (o :: rest) a w :=
  wpList_plain hgd fun _ hK => by
    obtain ⟨w', hr, h2, h3⟩ := run_clr (P := P) t o.type e z ht hz hzs h1 hown off c hoff hroom hk
    unfold Oper.wp execOp
    simp only [ho, resolve, invoke, builtin, Sem.run_bind, Sem.run_pure, Result.andThen_ok, List.map_toArray, List.map_cons, List.map_nil, hx, hr]
    exact hK _ _ (h w' h2 h3)
theorem wp_app {o : Oper} {a : Act} {K : Act → World → Prop} {Q : Exit → Act → World → Prop} (sl x : Operand) (t : TypeId)
    (ho : o.op = .call { callee := .builtin .append, args := #[sl, x], argTypes := #[t, t] })
    (e : TypeId) (i : TypeInfo) (z : Value) (bytes : Nat) (ht : P.underlying t = some (.slice e)) (hi : P.info? e = some i) (hz : i.zero = some z)
    (hsize : i.size = s) (hby : i.bytes = bytes) (hzs : z.cells.size = s) (hsz : 0 < s)
    (hs : a.eval sl = v) (hown : Own w B e s v n xs) (ra : Option Addr) (m c : Nat) (news : List Value) (hx : a.eval x = .slice ra m c) (R : Rd w ra c s m news) (h1 : ∀ u ∈ news, u.oneCell' = true)
    (hn : n + m ≤ 4194304) (hb2 : bytes ≤ 1024) (hbase : B ≤ w.heap.size)
    (h : ∀ v' w', Own w' B e s v' (n + m) (xs ++ news) → w.grownBy w' (foot v) → K (a.put o.dst v') w') : o.wp P a w K Q := by
  obtain ⟨v', w', hr, h2, h3⟩ := run_app (P := P) t o.type e i z bytes ht hi hz hsize hby hzs hsz hown ra m c news R h1 (by unfold maxLen; omega)
    (Nat.le_trans (Nat.mul_le_mul hn hb2) (by omega)) hbase
  unfold Oper.wp execOp
  simp only [ho, resolve, invoke, builtin, Sem.run_bind, Sem.run_pure, Result.andThen_ok, List.map_toArray, List.map_cons, List.map_nil, hs, hx, hr]
  exact h v' w' h2 h3
theorem wpList_app {ops : Array Oper} {rest : List Oper} {o : Oper} {a : Act} {Q : Exit → Act → World → Prop} (hgd : o.guard = none) (sl x : Operand) (t : TypeId)
    (ho : o.op = .call { callee := .builtin .append, args := #[sl, x], argTypes := #[t, t] })
    (e : TypeId) (i : TypeInfo) (z : Value) (bytes : Nat) (ht : P.underlying t = some (.slice e)) (hi : P.info? e = some i) (hz : i.zero = some z)
    (hsize : i.size = s) (hby : i.bytes = bytes) (hzs : z.cells.size = s) (hsz : 0 < s)
    (hs : a.eval sl = v) (hown : Own w B e s v n xs) (ra : Option Addr) (m c : Nat) (news : List Value) (hx : a.eval x = .slice ra m c) (R : Rd w ra c s m news) (h1 : ∀ u ∈ news, u.oneCell' = true)
    (hn : n + m ≤ 4194304) (hb2 : bytes ≤ 1024) (hbase : B ≤ w.heap.size)
    (h : ∀ g q w', Own w' B e s (.slice g (n + m) q) (n + m) (xs ++ news) → w.grownBy w' (foot v) → wpList P ops Q rest (a.put o.dst (.slice g (n + m) q)) w') : wpList P ops Q (o :: rest) a w :=
  wpList_plain hgd fun _ hK => wp_app sl x t ho e i z bytes ht hi hz hsize hby hzs hsz hs hown ra m c news hx R h1 hn hb2 hbase fun v' w' h2 h3 => hK _ _ (by obtain ⟨g, q, rfl⟩ := h2.shape; exact h g q w' h2 h3)
/-- the same, and where the new slice lies -/
theorem wpList_appL {ops : Array Oper} {rest : List Oper} {o : Oper} {a : Act} {Q : Exit → Act → World → Prop} (hgd : o.guard = none) (sl x : Operand) (t : TypeId)
    (ho : o.op = .call { callee := .builtin .append, args := #[sl, x], argTypes := #[t, t] })
    (e : TypeId) (i : TypeInfo) (z : Value) (bytes : Nat) (ht : P.underlying t = some (.slice e)) (hi : P.info? e = some i) (hz : i.zero = some z)
    (hsize : i.size = s) (hby : i.bytes = bytes) (hzs : z.cells.size = s) (hsz : 0 < s)
    (hs : a.eval sl = v) (hown : Own w B e s v n xs) (ra : Option Addr) (m c : Nat) (news : List Value) (hx : a.eval x = .slice ra m c) (R : Rd w ra c s m news) (h1 : ∀ u ∈ news, u.oneCell' = true)
    (hn : n + m ≤ 4194304) (hb2 : bytes ≤ 1024) (hbase : B ≤ w.heap.size)
    (h : ∀ g q w', Own w' B e s (.slice g (n + m) q) (n + m) (xs ++ news) → w.grownBy w' (foot v) → (∀ k, foot (.slice g (n + m) q) = some k → foot v = some k ∨ k = w.heap.size) → wpList P ops Q rest (a.put o.dst (.slice g (n + m) q)) w') : wpList P ops Q (o :: rest) a w :=
  wpList_plain hgd fun _ hK => by
    obtain ⟨v', w', hr, h2, h3, h4⟩ := run_appL (P := P) t o.type e i z bytes ht hi hz hsize hby hzs hsz hown ra m c news R h1 (by unfold maxLen; omega)
      (Nat.le_trans (Nat.mul_le_mul hn hb2) (by omega)) hbase
    unfold Oper.wp execOp
    simp only [ho, resolve, invoke, builtin, Sem.run_bind, Sem.run_pure, Result.andThen_ok, List.map_toArray, List.map_cons, List.map_nil, hs, hx, hr]
    obtain ⟨g, q, rfl⟩ := h2.shape
    exact hK _ _ (h g q w' h2 h3 h4)
theorem step_app {ops : Array Oper} {o : Oper} {a : Act} {K : Act → World → Prop} {Q : Exit → Act → World → Prop} {Els : Prop} (hgd : o.guard = none) (sl x : Operand) (t : TypeId)
    (ho : o.op = .call { callee := .builtin .append, args := #[sl, x], argTypes := #[t, t] })
    (e : TypeId) (i : TypeInfo) (z : Value) (bytes : Nat) (ht : P.underlying t = some (.slice e)) (hi : P.info? e = some i) (hz : i.zero = some z)
    (hsize : i.size = s) (hby : i.bytes = bytes) (hzs : z.cells.size = s) (hsz : 0 < s)
    (hs : a.eval sl = v) (hown : Own w B e s v n xs) (ra : Option Addr) (m c : Nat) (news : List Value) (hx : a.eval x = .slice ra m c) (R : Rd w ra c s m news) (h1 : ∀ u ∈ news, u.oneCell' = true)
    (hn : n + m ≤ 4194304) (hb2 : bytes ≤ 1024) (hbase : B ≤ w.heap.size)
    (h : ∀ g q w', Own w' B e s (.slice g (n + m) q) (n + m) (xs ++ news) → w.grownBy w' (foot v) → K (a.put o.dst (.slice g (n + m) q)) w') :
    if Region.wanted o (yielded ops a.tmps) = true then Oper.wp P o a w K Q else Els := by
  have hw : Region.wanted o (yielded ops a.tmps) = true := by simp [Region.wanted, hgd]
  rw [if_pos hw]
  exact wp_app sl x t ho e i z bytes ht hi hz hsize hby hzs hsz hs hown ra m c news hx R h1 hn hb2 hbase fun v' w' h2 h3 => by obtain ⟨g, q, rfl⟩ := h2.shape; exact h g q w' h2 h3
end
theorem one_flat {α : Type} {enc : α → List Value} (h : ∀ x, ∀ u ∈ enc x, u.oneCell' = true) (l : List α) : ∀ u ∈ l.flatMap enc, u.oneCell' = true := fun u hu => by
  obtain ⟨x, _, h2⟩ := List.mem_flatMap.1 hu
  exact h x u h2
theorem Own.alloc1 {w : World} {B E s n : Nat} {v : Value} {xs : List Value} (h : Own w B E s v n xs) (o : Obj) : Own (w.alloc o) B E s v n xs := h.ext ((Below.refl _ _).alloc (Nat.le_refl _) _)
theorem Own.drewN1 {w : World} {B E s n m : Nat} {v : Value} {xs : List Value} (h : Own w B E s v n xs) : Own (w.drewN m) B E s v n xs := h.ext (below_drewN (Below.refl _ _) _)
theorem Own.drew1 {w : World} {B E s n : Nat} {v : Value} {xs : List Value} (h : Own w B E s v n xs) : Own w.drew B E s v n xs := h.ext (Below.refl _ _).drew
theorem Own.set_off {w : World} {B E s n : Nat} {v : Value} {xs : List Value} (h : Own w B E s v n xs) {p : Addr} (hp : foot v ≠ some p.block) (u : Value) : Own (w.setCell p u) B E s v n xs :=
  h.kept (row := some p.block) ⟨rfl, rfl, rfl, by simp [World.setCell], fun k _ hk => Below.heap_setCell _ _ _ _ (fun e => hk (by rw [e]))⟩ (Or.inr hp)
/-- one cell of the row is written -/
theorem Own.cell1 {w : World} {B E s n g c : Nat} {xs : List Value} (h : Own w B E s (.slice (some ⟨g, 0, none⟩) n c) n xs) (hc : c ≠ 0) (p : Nat) (u : Value) :
    Own (w.setCell ⟨g, p, none⟩ u) B E s (.slice (some ⟨g, 0, none⟩) n c) n (xs.set p u) ∧ w.grownBy (w.setCell ⟨g, p, none⟩ u) (foot (.slice (some ⟨g, 0, none⟩) n c)) := by
  obtain ⟨g', hg', hrow⟩ := h.row hc
  simp only [Option.some.injEq, Addr.mk.injEq, and_true] at hg'
  subst hg'
  obtain ⟨h1, h2⟩ := World.ownsRow.stored hrow p u
  exact ⟨Own.of_row h1, by simpa [foot, hc, Value.ownBlock] using h2⟩
theorem Own.put1 {w : World} {B E s n g c p : Nat} {xs ys : List Value} {u : Value} (h : Own w B E s (.slice (some ⟨g, 0, none⟩) n c) n xs) (hc : c ≠ 0) (he : xs.set p u = ys) : Own (w.setCell ⟨g, p, none⟩ u) B E s (.slice (some ⟨g, 0, none⟩) n c) n ys := he ▸ (h.cell1 hc p u).1
theorem Own.slot {w : World} {B E s n g c : Nat} {xs : List Value} (h : Own w B E s (.slice (some ⟨g, 0, none⟩) n c) n xs) (j : Nat) (hj : j < n * s) : (∃ u, w.cell? ⟨g, j, none⟩ = some u) ∧ w.frozen? ⟨g, j, none⟩ = false := by
  have hc : c ≠ 0 := by
    intro h0
    have := h.cap
    have hn : n = 0 := by omega
    subst hn
    simp at hj
  obtain ⟨g', hg', hrow⟩ := h.row hc
  simp only [Option.some.injEq, Addr.mk.injEq, and_true] at hg'
  subst hg'
  exact own_slot hrow j hj
theorem flat_set1 {α : Type} {enc : α → List Value} {s : Nat} (hs : ∀ x, (enc x).length = s) (l : List α) (k j : Nat) (hk : k < l.length) (hj : j < s) (u : Value) (x : α) (hx : (enc l[k]).set j u = enc x) : (l.flatMap enc).set (k * s + j) u = (l.set k x).flatMap enc := by
  have h1 : l = l.take k ++ (l[k] :: l.drop (k + 1)) := by simp
  have h2 : l.set k x = l.take k ++ (x :: l.drop (k + 1)) := by rw [List.set_eq_take_append_cons_drop, if_pos hk]
  have h3 : ((l.take k).flatMap enc).length = k * s := by rw [flat_len hs, List.length_take, Nat.min_eq_left (by omega)]
  rw [h2]
  conv => lhs; rw [h1]
  rw [List.flatMap_append, List.flatMap_append, List.flatMap_cons, List.flatMap_cons, List.set_append_right _ _ (by omega), h3, Nat.add_sub_cancel_left, List.set_append_left _ _ (by rw [hs]; exact hj), hx]
/-- a slice literal's own cells -/
theorem Rd.lit (w : World) (cs : Array Value) (E n s g : Nat) (hg : w.heap.size = g) (hl : cs.toList.length = n * s) (hn : n ≤ 9223372036854775807) : Rd (w.alloc (.cells cs E)) (some ⟨g, 0, none⟩) n s n cs.toList :=
  ⟨hl, Nat.le_refl _, hn, fun _ => ⟨g, 0, rfl, by subst hg; simp, at_alloc hg rfl⟩⟩
theorem keep_set {w : World} {b o b' o' : Nat} {u v : Value} (h : w.cell? ⟨b, o, none⟩ = some v) (hne : b' ≠ b) : (w.setCell ⟨b', o', none⟩ u).cell? ⟨b, o, none⟩ = some v := by
  exact (World.cell?_of_block (w := w) (Below.heap_setCell w _ u b (fun e => hne e.symm))).trans h
theorem keep_alloc {w : World} {b o : Nat} {v : Value} {x : Obj} (h : w.cell? ⟨b, o, none⟩ = some v) : (w.alloc x).cell? ⟨b, o, none⟩ = some v :=
  ((Below.refl w.heap.size w).alloc (Nat.le_refl _) x).cell (p := ⟨b, o, none⟩) (World.block_lt_of_cell? w _ h) |>.trans h
theorem keep_drewN {w : World} {b o n : Nat} {v : Value} (h : w.cell? ⟨b, o, none⟩ = some v) : (w.drewN n).cell? ⟨b, o, none⟩ = some v := h
theorem keepf_drewN {w : World} {b o n : Nat} (h : w.frozen? ⟨b, o, none⟩ = false) : (w.drewN n).frozen? ⟨b, o, none⟩ = false := h
theorem keepf_drew {w : World} {b o : Nat} (h : w.frozen? ⟨b, o, none⟩ = false) : w.drew.frozen? ⟨b, o, none⟩ = false := h
theorem keepf_set {w : World} {b o b' o' : Nat} {u : Value} (h : w.frozen? ⟨b, o, none⟩ = false) (hne : b' ≠ b) : (w.setCell ⟨b', o', none⟩ u).frozen? ⟨b, o, none⟩ = false :=
  (World.frozen?_of_block (w := w) (Below.heap_setCell w _ u b (fun e => hne e.symm))).trans h
theorem keepf_alloc {w : World} {b o : Nat} {x : Obj} (h : w.frozen? ⟨b, o, none⟩ = false) (hb : b < w.heap.size) : (w.alloc x).frozen? ⟨b, o, none⟩ = false :=
  (((Below.refl w.heap.size w).alloc (Nat.le_refl _) x).frozen (p := ⟨b, o, none⟩) hb).trans h
theorem heap_alloc_size (w : World) (o : Obj) : (w.alloc o).heap.size = w.heap.size + 1 := by simp
theorem size_drewN (w : World) (n : Nat) : (w.drewN n).heap.size = w.heap.size := rfl
theorem keep_drew {w : World} {b o : Nat} {v : Value} (h : w.cell? ⟨b, o, none⟩ = some v) : w.drew.cell? ⟨b, o, none⟩ = some v := h
theorem grown_al {a w : World} {row : Option Nat} (h : a.grownBy w row) (o : Obj) : a.grownBy (w.alloc o) row := grown_trans h (World.grownBy_alloc w o row)
theorem grown_dr {a w : World} {row : Option Nat} (h : a.grownBy w row) : a.grownBy w.drew row := grown_trans h (grown_ext (Below.refl _ _).drew)
theorem grown_drN {a w : World} {row : Option Nat} {n : Nat} (h : a.grownBy w row) : a.grownBy (w.drewN n) row := grown_trans h (grown_ext (below_drewN (Below.refl _ _) _))
theorem grown_st {a w : World} {row : Option Nat} (h : a.grownBy w row) {p : Addr} (hp : a.heap.size ≤ p.block) (u : Value) : a.grownBy (w.setCell p u) row :=
  ⟨h.os, h.tape, h.output, by simpa [World.setCell] using h.size, fun k hk hne => (Below.heap_setCell _ _ _ _ (by omega)).trans (h.block k hk hne)⟩
theorem grown_so {a w : World} {row : Option Nat} (h : a.grownBy w row) {p : Addr} (hp : row = some p.block) (u : Value) : a.grownBy (w.setCell p u) row :=
  ⟨h.os, h.tape, h.output, by simpa [World.setCell] using h.size, fun k hk hne => (Below.heap_setCell _ _ _ _ (fun e => hne (by rw [hp, e]))).trans (h.block k hk hne)⟩
/-- v's room is not in block b -/
def FOff (b : Nat) (v : Value) : Prop := foot v ≠ some b
theorem FOff.lt {w : World} {B E s n b : Nat} {v : Value} {xs : List Value} (h : Own w B E s v n xs) (hb : b < B) : FOff b v := fun e => by have := (h.lt b e).1; omega
theorem FOff.ge {w : World} {B E s n b : Nat} {v : Value} {xs : List Value} (h : Own w B E s v n xs) (hb : w.heap.size ≤ b) : FOff b v := fun e => by have := (h.lt b e).2; omega
theorem grown_cell {w w' : World} {row : Option Nat} (hg : w.grownBy w' row) {b o : Nat} {u : Value} (h : w.cell? ⟨b, o, none⟩ = some u) (hne : row ≠ some b) : w'.cell? ⟨b, o, none⟩ = some u := hg.cell h (fun e => hne e.symm)
theorem grown_frz {w w' : World} {row : Option Nat} (hg : w.grownBy w' row) {b o : Nat} (hb : b < w.heap.size) (h : w.frozen? ⟨b, o, none⟩ = false) (hne : row ≠ some b) : w'.frozen? ⟨b, o, none⟩ = false :=
  (World.frozen?_of_block (w := w) (hg.block b hb (fun e => hne e.symm))).trans h
theorem Own.ne_lt {w : World} {B E s n b : Nat} {v : Value} {xs : List Value} (h : Own w B E s v n xs) (hb : b < B) : foot v ≠ some b := fun e => by have := (h.lt b e).1; omega
theorem Own.ne_ge {w : World} {B E s n b : Nat} {v : Value} {xs : List Value} (h : Own w B E s v n xs) (hb : w.heap.size ≤ b) : foot v ≠ some b := fun e => by have := (h.lt b e).2; omega
/-- what a drawn region keeps: below block B all is as in W: cells and marks -/
abbrev SK (B : Nat) (W w' : World) : Prop := SB B W w' ∧ (∀ b o, b < B → w'.cell? ⟨b, o, none⟩ = W.cell? ⟨b, o, none⟩) ∧ (∀ b o, b < B → w'.frozen? ⟨b, o, none⟩ = W.frozen? ⟨b, o, none⟩)
theorem SK.of {B : Nat} {W w' : World} (h : SB B W w') : SK B W w' := ⟨h, fun b o hb => h.cells b o hb, fun b o hb => h.frozen b o hb⟩
theorem SK.beg (B : Nat) (W : World) (hB : B ≤ W.heap.size) : SK B W W.drew := .of ⟨(Below.refl _ _).drew, hB⟩
theorem SK.alloc {B : Nat} {W w' : World} (h : SK B W w') (o : Obj) : SK B W (w'.alloc o) := .of ⟨h.1.1.alloc h.1.2 _, by have := h.1.2; simp; omega⟩
theorem SK.set {B : Nat} {W w' : World} (h : SK B W w') {p : Addr} (hp : B ≤ p.block) (u : Value) : SK B W (w'.setCell p u) := .of ⟨h.1.1.setCell hp _, by simpa using h.1.2⟩
theorem SK.ext {B : Nat} {W w' w1 : World} (h : SK B W w') (h2 : Below w'.heap.size w' w1) : SK B W w1 := .of ⟨Below.extB h.1.1 h2 h.1.2, Nat.le_trans h.1.2 h2.size⟩
theorem SK.foot {B B2 E s n : Nat} {W w' w1 : World} {v : Value} {xs : List Value} (h : SK B W w') (hown : Own w' B2 E s v n xs) (hB : B ≤ B2) (hg : w'.grownBy w1 (foot v)) : SK B W w1 := .of ⟨below_foot h.1.1 hown hB h.1.2 hg, Nat.le_trans h.1.2 hg.size⟩
/-- a slice cut at its end -/
theorem Rd.takeAt {α : Type} {enc : α → List Value} {s : Nat} (hs : ∀ x, (enc x).length = s) {w : World} {a : Option Addr} {c : Nat} {l : List α} (h : Rd w a c s l.length (l.flatMap enc)) (k : Nat) (hk : k ≤ l.length) : Rd w a c s k ((l.take k).flatMap enc) := by
  have := h.pre hs k hk
  rwa [List.length_take, Nat.min_eq_left hk] at this
/-- a slice cut at its front -/
theorem Rd.dropAt {α : Type} {enc : α → List Value} {s : Nat} (hs : ∀ x, (enc x).length = s) {w : World} {b o c : Nat} {l : List α} {A : Option Addr} (h : Rd w (some ⟨b, o, none⟩) c s l.length (l.flatMap enc)) (k : Nat) (hk : k ≤ l.length) (hA : k < l.length → A = some ⟨b, o + k * s, none⟩) (m q : Nat) (hm : m = l.length - k) (hq : q = c - k) :
    Rd w A q s m ((l.drop k).flatMap enc) := by
  subst hm
  subst hq
  have hl : (l.drop k).length = l.length - k := by simp
  refine ⟨by rw [flat_len hs, hl], by have := h.nc; omega, by have := h.cm; omega, fun h0 => ?_⟩
  obtain ⟨b', o', ha, hb, hat⟩ := h.ptr (by omega)
  simp only [Option.some.injEq, Addr.mk.injEq, and_true] at ha
  obtain ⟨rfl, rfl⟩ := ha
  refine ⟨_, _, hA (by omega), hb, ?_⟩
  rw [← flat_drop hs]
  exact hat.drop _
theorem kpx {w : World} {p : Addr} {v : Option Value} (h : w.cell? p = v := by first | (simp [go_sem]; done) | (simp [go_sem, *]; done) | (repeat' (first | with_reducible assumption | with_reducible refine keep_alloc ?_ | with_reducible refine keep_set ?_ (by omega) | with_reducible refine keep_drewN ?_ | with_reducible refine keep_drew ?_))) : w.cell? p = v := h
theorem kfx {w : World} {p : Addr} {v : Bool} (h : w.frozen? p = v := by first | (simp [go_sem]; done) | (simp [go_sem, *]; done) | (repeat' (first | with_reducible assumption | with_reducible refine keepf_alloc ?_ ?_ | with_reducible refine keepf_set ?_ (by omega) | with_reducible refine keepf_drewN ?_ | with_reducible refine keepf_drew ?_ | (simp only [size_drewN]; omega)))) : w.frozen? p = v := h
end Go.Proofs.Ytpameapajhbdnaa

namespace Go.Proofs.Ytpameapajhbdnaa
open Go.RowKit
set_option linter.unusedVariables false
set_option linter.unusedSimpArgs false

/-- of what was there before, only the blocks in S may have changed -/
structure Chg (S : Nat → Prop) (w w' : World) : Prop where
  os : w'.os = w.os
  tape : w'.tape = w.tape
  output : w'.output = w.output
  size : w.heap.size ≤ w'.heap.size
  block : ∀ k, k < w.heap.size → ¬ S k → w'.heap[k]? = w.heap[k]?
theorem Chg.refl (S : Nat → Prop) (w : World) : Chg S w w := ⟨rfl, rfl, rfl, Nat.le_refl _, fun _ _ _ => rfl⟩
theorem Chg.trans {S : Nat → Prop} {a b c : World} (h : Chg S a b) (k : Chg S b c) : Chg S a c :=
  ⟨k.os.trans h.os, k.tape.trans h.tape, k.output.trans h.output, Nat.le_trans h.size k.size, fun x hx hn => (k.block x (Nat.lt_of_lt_of_le hx h.size) hn).trans (h.block x hx hn)⟩
theorem Chg.mono {S T : Nat → Prop} {a b : World} (h : Chg S a b) (hs : ∀ k, S k → T k) : Chg T a b := ⟨h.os, h.tape, h.output, h.size, fun x hx hn => h.block x hx (fun hS => hn (hs x hS))⟩
theorem Chg.ext {S : Nat → Prop} {a b : World} (h : Ext a b) : Chg S a b := ⟨h.os, h.tape, h.output, h.size, fun x hx _ => h.block x hx⟩
theorem Chg.grown {S : Nat → Prop} {a b : World} {row : Option Nat} (h : a.grownBy b row) (hr : ∀ g, row = some g → S g) : Chg S a b :=
  ⟨h.os, h.tape, h.output, h.size, fun x hx hn => h.block x hx (fun e => hn (hr x e.symm))⟩
theorem Chg.below {S : Nat → Prop} {B : Nat} {a b : World} (h : Chg S a b) (hB : ∀ k, S k → B ≤ k) (hs : B ≤ a.heap.size) : Below B a b :=
  ⟨h.os, h.tape, h.output, h.size, fun k hk => h.block k (by omega) (fun hS => by have := hB k hS; omega)⟩
theorem Chg.cell {S : Nat → Prop} {a b : World} (h : Chg S a b) {x o : Nat} (hx : x < a.heap.size) (hn : ¬ S x) : b.cell? ⟨x, o, none⟩ = a.cell? ⟨x, o, none⟩ :=
  World.cell?_of_block (w := a) (h.block x hx hn)
theorem Chg.frozen {S : Nat → Prop} {a b : World} (h : Chg S a b) {x o : Nat} (hx : x < a.heap.size) (hn : ¬ S x) : b.frozen? ⟨x, o, none⟩ = a.frozen? ⟨x, o, none⟩ :=
  World.frozen?_of_block (w := a) (h.block x hx hn)
theorem Own.chg {S : Nat → Prop} {B E s n : Nat} {a b : World} {v : Value} {xs : List Value} (h : Own a B E s v n xs) (hb : Chg S a b) (hf : ∀ k, foot v = some k → ¬ S k) : Own b B E s v n xs := by
  obtain ⟨h1, a', c, rfl, hnc, h0 | ⟨g, cur, rfl, hb', hgg, hr⟩⟩ := h
  · exact ⟨h1, a', c, rfl, hnc, Or.inl h0⟩
  · by_cases hc : c = 0
    · exact ⟨h1, _, _, rfl, hnc, Or.inl hc⟩
    · refine ⟨h1, _, _, rfl, hnc, Or.inr ⟨g, cur, rfl, hb', ?_, hr⟩⟩
      rw [hb.block g (Array.getElem?_eq_some_iff.1 hgg).1 (hf g (by simp [foot, hc]))]
      exact hgg
end Go.Proofs.Ytpameapajhbdnaa

namespace Go.Proofs.Ytpameapajhbdnaa
open Go.RowKit
set_option linter.unusedVariables false

theorem at_nil {w : World} {b o : Nat} : At w b o [] := fun j u hu => by simp at hu
theorem at_cons {w : World} {b o : Nat} {v : Value} {us : List Value} (h : w.cell? ⟨b, o, none⟩ = some v) (ht : At w b (o + 1) us) : At w b o (v :: us) := fun j u hu => by
  cases j with
  | zero => simp at hu; subst hu; exact h
  | succ j =>
    have := ht j u (by simpa using hu)
    rwa [show o + 1 + j = o + (j + 1) from by omega] at this
theorem keep_new {w : World} {o : Nat} {v : Value} {cs : Array Value} {t : TypeId} (h : cs[o]? = some v) : (w.alloc (.cells cs t)).cell? ⟨w.heap.size, o, none⟩ = some v := by simp [go_sem, h]
theorem keep_newd {w : World} {o : Nat} {v : Value} {cs : Array Value} {t : TypeId} (h : cs[o]? = some v) : (w.drew.alloc (.cells cs t)).cell? ⟨w.heap.size, o, none⟩ = some v := by simp [go_sem, h]
theorem keepf_new {w : World} {o : Nat} {cs : Array Value} {t : TypeId} (h : o < cs.size) : (w.alloc (.cells cs t)).frozen? ⟨w.heap.size, o, none⟩ = false := by simp [go_sem]
theorem keepf_newd {w : World} {o : Nat} {cs : Array Value} {t : TypeId} (h : o < cs.size) : (w.drew.alloc (.cells cs t)).frozen? ⟨w.heap.size, o, none⟩ = false := by simp [go_sem]
theorem Own.set_lt {w w0 : World} {B B0 E s n : Nat} {v : Value} {xs xs0 : List Value} {p : Addr} (h : Own w B E s v n xs) (h0 : Own w0 B0 E s v n xs0) (hb : p.block < B0) (u : Value) : Own (w.setCell p u) B E s v n xs := h.set_off (FOff.lt h0 hb) u
theorem wp_world {P : Program} {c : Code} {K : Exit → Act → World → Prop} {a : Act} {W : World} (h : ∀ x, x = W → Code.wp P c K a x) : Code.wp P c K a W := h W rfl
/-- the worlds that have only grown out of W: a class for the regions that draw -/
structure ExtW (W : World) where
  x : World
  h : Ext W x
instance {W : World} : Nonempty (ExtW W) := ⟨⟨W, Below.refl _ _⟩⟩
theorem ExtW.of {w W : World} (h : Ext w W) (y : ExtW W) : Ext w y.x := Below.ext h y.h
theorem ExtW.on {W w1 : World} (y : ExtW W) (h : Ext y.x w1) : ∃ z : ExtW W, w1 = z.x := ⟨⟨w1, Below.ext y.h h⟩, rfl⟩
theorem wp_region_ext {P : Program} {id : Nat} {Q : Exit → Act → World → Prop} {a : Act} {W : World} {l : List Oper} (hm : P.follows .mixedOrders = true) (hB : Region.lexB .any l.toArray = true)
    (h : wpQuiet P l.toArray (fun w' => ∃ y : ExtW W, w' = y.x) (fun a' => ∀ w', (∃ y : ExtW W, w' = y.x) → Q .normal a' w') l a) : (Code.region id l.toArray true).wp P Q a W :=
  wp_region_quiet (C := fun w' => ∃ y : ExtW W, w' = y.x) hm hB ⟨⟨W.drew, (Below.refl _ _).drew⟩, rfl⟩ (by simpa using h)
/-- a box of its own, its cells cs, with a slice of its own among them -/
def CutR (E s n : Nat) (xs : List Value) (cs : Option Addr → Nat → List Value) (W : World) (v : Value) (wx : World) : Prop :=
  ∃ β ga qa, v = .pointer (some ⟨β, 0, none⟩) ∧ W.heap.size ≤ β ∧ β < wx.heap.size ∧ At wx β 0 (cs ga qa) ∧ Own wx W.heap.size E s (.slice ga n qa) n xs ∧ FOff β (.slice ga n qa) ∧ Ext W wx
end Go.Proofs.Ytpameapajhbdnaa

namespace Go.Proofs.Ytpameapajhbdnaa
open Go.RowKit
set_option linter.unusedVariables false
set_option linter.unusedSimpArgs false

theorem set_same {w : World} {b p : Nat} {u v : Value} (h : w.cell? ⟨b, p, none⟩ = some v) : (w.setCell ⟨b, p, none⟩ u).cell? ⟨b, p, none⟩ = some u := by simp [go_sem, h]
theorem set_other {w : World} {b p p' : Nat} {u v : Value} (h : w.cell? ⟨b, p', none⟩ = some v) (hne : p ≠ p') : (w.setCell ⟨b, p, none⟩ u).cell? ⟨b, p', none⟩ = some v := by
  simp [go_sem, h, hne]
theorem setf {w : World} {b o : Nat} {p : Addr} {u : Value} (h : w.frozen? ⟨b, o, none⟩ = false) : (w.setCell p u).frozen? ⟨b, o, none⟩ = false := by simp [go_sem, h]
theorem putW_keep {b b' o : Nat} {v : Value} (hne : b ≠ b') : ∀ (us : List Value) (w : World) (p : Nat), w.cell? ⟨b', o, none⟩ = some v → (putW w b p us).cell? ⟨b', o, none⟩ = some v
  | [], w, p, h => h
  | u :: us, w, p, h => putW_keep hne us _ _ (keep_set h hne)
theorem putW_keep2 {b o : Nat} {v : Value} : ∀ (us : List Value) (w : World) (p : Nat), o < p → w.cell? ⟨b, o, none⟩ = some v → (putW w b p us).cell? ⟨b, o, none⟩ = some v
  | [], w, p, _, h => h
  | u :: us, w, p, ho, h => putW_keep2 us _ _ (by omega) (set_other h (by omega))
theorem putW_frz {b b' o : Nat} : ∀ (us : List Value) (w : World) (p : Nat), w.frozen? ⟨b', o, none⟩ = false → (putW w b p us).frozen? ⟨b', o, none⟩ = false
  | [], w, p, h => h
  | u :: us, w, p, h => putW_frz us _ _ (setf h)
/-- a box that is written anew -/
theorem putW_at {b : Nat} : ∀ (us : List Value) (w : World) (p : Nat), (∀ j, j < us.length → ∃ v, w.cell? ⟨b, p + j, none⟩ = some v) → At (putW w b p us) b p us
  | [], w, p, h => at_nil
  | u :: us, w, p, h => by
    obtain ⟨v, hv⟩ := h 0 (by simp)
    refine at_cons (putW_keep2 us _ _ (by omega) (set_same hv)) (putW_at us _ (p + 1) fun j hj => ?_)
    obtain ⟨v', hv'⟩ := h (j + 1) (by simp; omega)
    exact ⟨v', set_other (by rw [show p + 1 + j = p + (j + 1) from by omega]; exact hv') (by omega)⟩
theorem putW_at_ne {b b' o : Nat} {xs us : List Value} {w : World} {p : Nat} (h : At w b' o xs) (hne : b ≠ b') : At (putW w b p us) b' o xs := fun j u hu => putW_keep hne us w p (h j u hu)
theorem At.some {w : World} {b o : Nat} {xs : List Value} (h : At w b o xs) : ∀ j, j < xs.length → ∃ v, w.cell? ⟨b, o + j, none⟩ = some v := fun j hj => ⟨_, h j _ (List.getElem?_eq_getElem hj)⟩
theorem Own.putW_off {B E s n b : Nat} {v : Value} {xs : List Value} (hne : foot v ≠ Option.some b) : ∀ (us : List Value) (w : World) (p : Nat), Own w B E s v n xs → Own (putW w b p us) B E s v n xs
  | [], w, p, h => h
  | u :: us, w, p, h => Own.putW_off hne us _ _ (h.set_off hne u)
theorem Below.putW {B b : Nat} {W : World} (hb : B ≤ b) : ∀ (us : List Value) (w : World) (p : Nat), Below B W w → Below B W (putW w b p us)
  | [], w, p, h => h
  | u :: us, w, p, h => Below.putW hb us _ _ (h.setCell hb u)
theorem putW_size {b : Nat} : ∀ (us : List Value) (w : World) (p : Nat), (putW w b p us).heap.size = w.heap.size
  | [], w, p => rfl
  | u :: us, w, p => (putW_size us _ _).trans (by simp)
theorem own_lit {w : World} {cs : Array Value} {E n s g : Nat} {xs : List Value} (hg : w.heap.size = g) (hl : cs.toList = xs) (hs : cs.size = n * s) (hn : n ≤ 4194304) : Own (w.alloc (.cells cs E)) w.heap.size E s (.slice (some ⟨g, 0, none⟩) n n) n xs := by
  subst hg
  subst hl
  exact Own.of_row (World.ownsRow_lit w cs n (Nat.le_refl _) (by unfold maxLen; omega) hs)
end Go.Proofs.Ytpameapajhbdnaa

namespace Go.Proofs.Ytpameapajhbdnaa
open Go.RowKit
set_option linter.unusedVariables false

set_option maxHeartbeats 1000000 in
theorem within_any (n lo hi : Int) (w : World) (r : Bool) (Hr : Hid (Tells r (lo ≤ n ∧ n ≤ hi))) :
    Calls Try.prog 98 #[.int .i64 n, .int .i64 lo, .int .i64 hi] w fun e w' => e = .returned (.bool r) ∧ w' = w := by
  by_cases h1 : lo ≤ n
  · have h1' : decide (lo ≤ n) = true := by simpa using h1
    by_cases h2 : n ≤ hi
    · go_enter Try.func98, Try.ntmps98
      go_wp2
      all_goals go_ret
      all_goals exact ⟨ret_yes Hr.out ⟨h1, h2⟩, rfl⟩
    · have h2' : decide (n ≤ hi) = false := by simpa using h2
      go_enter Try.func98, Try.ntmps98
      go_wp2
      all_goals go_ret
      all_goals exact ⟨ret_no Hr.out (fun h => by omega), rfl⟩
  · have h1' : decide (lo ≤ n) = false := by simpa using h1
    go_enter Try.func98, Try.ntmps98
    go_wp2
    all_goals go_ret
    all_goals exact ⟨ret_no Hr.out (fun h => by omega), rfl⟩
set_option maxHeartbeats 1000000 in
theorem l1In_any (n lo hi : Int) (w : World) (r : Bool) (Hr : Hid (Tells r (lo ≤ n ∧ n ≤ hi))) :
    Calls Try.prog 152 #[.int .i64 n, .int .i64 lo, .int .i64 hi] w fun e w' => e = .returned (.bool r) ∧ w' = w := by
  by_cases h1 : lo ≤ n
  · have h1' : decide (lo ≤ n) = true := by simpa using h1
    by_cases h2 : n ≤ hi
    · go_enter Try.func152, Try.ntmps152
      go_wp2
      all_goals go_ret
      all_goals exact ⟨ret_yes Hr.out ⟨h1, h2⟩, rfl⟩
    · have h2' : decide (n ≤ hi) = false := by simpa using h2
      go_enter Try.func152, Try.ntmps152
      go_wp2
      all_goals go_ret
      all_goals exact ⟨ret_no Hr.out (fun h => by omega), rfl⟩
  · have h1' : decide (lo ≤ n) = false := by simpa using h1
    go_enter Try.func152, Try.ntmps152
    go_wp2
    all_goals go_ret
    all_goals exact ⟨ret_no Hr.out (fun h => by omega), rfl⟩
theorem l1In_dec (n lo hi : Int) (w : World) :
    Calls Try.prog 152 #[.int .i64 n, .int .i64 lo, .int .i64 hi] w fun e w' => e = .returned (.bool (decide (lo ≤ n) && decide (n ≤ hi))) ∧ w' = w :=
  l1In_any n lo hi w _ (Lib.hid ⟨fun h => by simpa using h, fun h => by simpa using h⟩)
set_option maxHeartbeats 1000000 in
theorem sFlagsOk_any (n : Int) (w : World) (r : Bool) (Hr : Hid (Tells r (0 ≤ n ∧ n ≤ 31))) :
    Calls Try.prog 153 #[.int .i64 n] w fun e w' => e = .returned (.bool r) ∧ w' = w := by
  go_enter Try.func153, Try.ntmps153
  go_wp2_with ((go_at_call 152; refine (l1In_any n 0 31 _ r Hr).mono ?_; rintro e w1 ⟨rfl, rfl⟩))
  go_ret
  exact ⟨rfl, rfl⟩
theorem sNumber_any (n : Int) (w : World) (r : Bool) (Hr : Hid (Tells r (1 ≤ n ∧ n ≤ 999999999))) :
    Calls Try.prog 151 #[.int .i64 n] w fun e w' => e = .returned (.bool r) ∧ w' = w := by
  go_enter Try.func151, Try.ntmps151
  go_wp2_with ((go_at_call 152; refine (l1In_any _ _ _ _ r Hr).mono ?_; rintro e w1 ⟨rfl, rfl⟩))
  go_ret
  exact ⟨rfl, rfl⟩
end Go.Proofs.Ytpameapajhbdnaa

namespace Go.Proofs.Ytpameapajhbdnaa
open Go.RowKit
set_option linter.unusedVariables false
set_option linter.unusedSimpArgs false

/-- two structs held against each other -/
theorem eqSeenB (x y : DSeen) (d : Bool) (hd : decide (x = y) = d) (w : World) :
    (Op.equalIn 10000 129 (.agg #[.int .i64 x.uid, .int .i64 x.flags]) (.agg #[.int .i64 y.uid, .int .i64 y.flags])).run Try.prog w = .ok d w := by
  have h1 : Try.prog.underlying 129 = some (.struct (Try.prog.fieldsOf 129)) := by kernel_rfl
  have h2 : Try.prog.stoodInHeld 129 = false := by kernel_rfl
  have h3 := Option.some.inj (h1.symm.trans Try.underlying129)
  simp only [TypeDesc.struct.injEq] at h3
  rw [run_equalIn_agg _ _ _ _ _ h1 h2, h3]
  subst hd
  cases x
  cases y
  simp [Op.eqFields, go_sem]
  repeat' split
  all_goals simp_all
theorem eqSeenG : Try.prog.eqGuardType Try.prog.depth 129 = false := by kernel_rfl

set_option maxRecDepth 100000 in
set_option maxHeartbeats 1000000 in
theorem equalSeenS_any (x y : List DSeen) (a1 a2 : Option Addr) (c1 c2 : Nat) (w : World) (R1 : Rd w a1 c1 2 x.length (x.flatMap DSeen.cells)) (R2 : Rd w a2 c2 2 y.length (y.flatMap DSeen.cells)) (r : Bool) (Hr : Hid (decide (x = y) = r)) :
    Calls Try.prog 112 #[.slice a1 x.length c1, .slice a2 y.length c2] w fun e w' => e = .returned (.bool r) ∧ ∃ n, w' = w.drewN n := by
  have hlx : x.length ≤ 9223372036854775807 := Nat.le_trans R1.nc R1.cm
  have H1 := Lib.hid R1
  have H2 := Lib.hid R2
  clear R1 R2
  have h3 := eqSeenG
  by_cases hne : x.length = y.length
  · rw [← hne]
    have HN := Lib.hid hne
    clear hne
    go_enter Try.func112, Try.ntmps112
    go_wp2_with fail
    go_loopw [13] (fun i wr => ∃ k : Nat, k ≤ x.length ∧ i = .int .i64 k ∧ Hid (∀ j, j < k → x[j]? = y[j]?) ∧ Hid (∃ n, wr = w.drewN n)) (fun i _ => x.length - (intOf i).toNat)
    case atStart => exact ⟨0, Nat.zero_le _, rfl, by simp [Hid], ⟨0, rfl⟩⟩
    case round =>
      obtain ⟨k, hk, rfl, HP, HB⟩ := hrel
      obtain ⟨nq0, hw0⟩ := HB.out
      subst hw0
      by_cases hlt : k < x.length
      · have hlty : k < y.length := by have := HN.out; omega
        obtain ⟨b1, o1, rfl, hb1, hat1⟩ := H1.out.ptr (by omega)
        obtain ⟨b2, o2, rfl, hb2, hat2⟩ := H2.out.ptr (by omega)
        obtain ⟨hx0, hx1⟩ := DSeen.at hat1 k hlt
        obtain ⟨hy0, hy1⟩ := DSeen.at hat2 k hlty
        have HA1 := Lib.hid hat1
        have HA2 := Lib.hid hat2
        clear hat1 hat2
        obtain ⟨d, hd⟩ : ∃ d, decide (x[k] = y[k]) = d := ⟨_, rfl⟩
        have hq := eqSeenB x[k] y[k] d hd
        have HD := Lib.hid hd
        clear hd
        go_wp2_with fail
        go_quiet (fail)
        cases d
        · go_wp2_with fail
          go_ret
          refine ⟨ret_bool ?_, _, World.drewN_drewN ..⟩
          rw [← Hr.out]
          simp only [ne_at hlt hlty (of_decide_eq_false HD.out), decide_false]
        · go_wp2_with fail
          go_roundw
          case rel => exact ⟨k + 1, by omega, by go_num, pre_succ HP.out hlt hlty (of_decide_eq_true HD.out), ⟨_, rfl⟩⟩
          case measure => simp [intOf]; omega
      · go_wp2_with fail
        go_ret
        refine ⟨ret_bool ?_, _, rfl⟩
        rw [← Hr.out]
        have hkk : k = x.length := by omega
        subst hkk
        simp only [all_pre HP.out HN.out, decide_true]
  · have hn1 : ((x.length : Int) != (y.length : Int)) = true := by simp; omega
    have HN := Lib.hid hne
    clear hne
    go_enter Try.func112, Try.ntmps112
    go_wp2_with fail
    go_ret
    refine ⟨ret_bool ?_, 0, rfl⟩
    rw [← Hr.out]
    have : x ≠ y := fun h => HN.out (by rw [h])
    simp only [this, decide_false]

theorem info_Seen : (Try.prog.info? 129).map (fun i => (i.zero, i.size, i.bytes)) = some (some (.agg #[.int .i64 0, .int .i64 0]), 2, 16) := by kernel_rfl

end Go.Proofs.Ytpameapajhbdnaa

namespace Go.Proofs.Ytpameapajhbdnaa
open Go.RowKit
set_option linter.unusedVariables false
set_option linter.unusedSimpArgs false
theorem DSeen.one (x : DSeen) : ∀ u ∈ x.cells, u.oneCell' = true := by simp [DSeen.cells, Value.oneCell']

set_option maxRecDepth 100000 in
set_option maxHeartbeats 1000000 in
theorem cloneSeenS_any (l : List DSeen) (a : Option Addr) (c : Nat) (w : World) (R : Rd w a c 2 l.length (l.flatMap DSeen.cells)) (hl : l.length ≤ 4194304) :
    Calls Try.prog 108 #[.slice a l.length c] w fun e w' => ∃ g q, e = .returned (.slice g l.length q) ∧ Own w' w.heap.size 129 2 (.slice g l.length q) l.length (l.flatMap DSeen.cells) ∧ Ext w w' := by
  obtain ⟨i0, hi, hz0, hz1, hz2⟩ := info_parts info_Seen
  have HR := Lib.hid R
  clear R
  have heq := fun (w : World) (a : Option Addr) (n c : Nat) => Lib.run_eql_slice_nil (P := Try.prog) w 58 129 a n c 0 0 Try.underlying58
  cases a with
  | none =>
    have HL : Hid (l = []) := by
      rcases l with _ | ⟨x, l⟩
      · rfl
      · obtain ⟨b, o, h, _⟩ := HR.out.ptr (by simp)
        cases h
    go_enter Try.func108, Try.ntmps108
    go_wp2_with fail
    go_ret
    have hl0 := HL.out
    subst hl0
    exact ⟨_, _, rfl, Own.none0 _, Below.refl _ _⟩
  | some a =>
    go_enter Try.func108, Try.ntmps108
    go_wp2_with ((at_builtin; refine wpList_app (v := .slice (some ⟨w.heap.size, 0, none⟩) 0 0) rfl _ _ _ rfl 129 i0 _ _ Try.underlying58 hi hz0 hz1 hz2 rfl (by decide) rfl (Own.of_row (World.ownsRow_lit w #[] 0 (Nat.le_refl _) (Nat.zero_le _) (by simp))) _ _ _ (l.flatMap DSeen.cells) rfl (HR.out.ext ((Below.refl _ _).alloc (Nat.le_refl _) _)) (one_flat DSeen.one l) (by omega) (by omega) (by simp) ?_; intro g q w1 hown hg))
    simp only [Nat.zero_add, List.nil_append] at hown ⊢
    have HO := Lib.hid hown
    have hb : Below w.heap.size w w1 := ((Below.refl _ _).alloc (Nat.le_refl _) _).grown hg (by simp) (fun k hk => by simp [foot] at hk)
    clear hown
    go_ret
    exact ⟨_, _, rfl, HO.out, hb⟩

set_option maxRecDepth 100000 in
set_option maxHeartbeats 1000000 in
theorem deleteSeenS_any (l : List DSeen) (a : Option Addr) (c B i : Nat) (x y : Int) (w : World) (h : Own w B 129 2 (.slice a l.length c) l.length (l.flatMap DSeen.cells)) (hi : i < l.length) (hx : x = i) (hy : y = (i : Int) + 1) (hl : l.length ≤ 4194304) (r : List DSeen) (Hr : Hid (l.eraseIdx i = r)) :
    Calls Try.prog 118 #[.slice a l.length c, .int .i64 x, .int .i64 y] w fun e w' => e = .returned (.slice a r.length c) ∧ Own w' B 129 2 (.slice a r.length c) r.length (r.flatMap DSeen.cells) ∧ w.grownBy w' (foot (.slice a l.length c)) := by
  obtain ⟨i0, hi0, hz0, hz1, hz2⟩ := info_parts info_Seen
  obtain ⟨hcap, hcm⟩ := h.cap
  obtain ⟨g, rfl, hrow⟩ := h.row (by omega)
  have HO := Lib.hid h
  subst hx
  subst hy
  clear h hrow
  go_enter Try.func118, Try.ntmps118
  go_wp2_with fail
  have h1 : (0 : Int) ≤ (i : Int) := by omega
  have h2 : (0 : Int) ≤ (i : Int) + 1 := by omega
  have h3 : ((i : Int) + 1).toNat = i + 1 := by omega
  have h4 : (i : Int) + 1 ≤ (l.length : Int) := by omega
  have h5 : (l.length : Int) ≤ (c : Int) := by omega
  have h6 : (i : Int) ≤ (l.length : Int) := by omega
  have h7 : (i : Int) ≤ (c : Int) := by omega
  have HC : Hid (Own w.drew B 129 2 (.slice (some ⟨g, 0, none⟩) i c) i ((l.take i).flatMap DSeen.cells)) := by
    rw [← flat_take DSeen.cells_len]
    exact (HO.out.cut (by omega)).ext (Below.refl _ _).drew
  have HD : Hid (Rd w.drew (if c = i + 1 then some ⟨g, 0, none⟩ else some ⟨g, (i + 1) * 2, none⟩) (c - (i + 1)) 2 (l.length - (i + 1)) ((l.drop (i + 1)).flatMap DSeen.cells)) :=
    Rd.dropAt DSeen.cells_len ((Rd.of_Own HO.out).ext (Below.refl _ _).drew) (i + 1) (by omega) (fun hlt => by rw [if_neg (by omega), Nat.zero_add]) _ _ rfl rfl
  go_region_law ((refine step_app_room rfl (.tmp 22) (.tmp 25) 58 rfl 129 i0 Try.underlying58 hi0 hz1 (by simp [Act.eval, Act.put]) HC.out _ _ _ _ (by simp [Act.eval, Act.put]) HD.out (one_flat DSeen.one _) (by omega) ?_; intro w1 hown hg))
  rw [show i + (l.length - (i + 1)) = l.length - 1 from by omega] at hown ⊢
  generalize (if c = i + 1 then (some ⟨g, 0, none⟩ : Option Addr) else some ⟨g, (i + 1) * 2, none⟩) = A
  have hr : (l.take i).flatMap DSeen.cells ++ (l.drop (i + 1)).flatMap DSeen.cells = r.flatMap DSeen.cells := by
    rw [← Hr.out, List.eraseIdx_eq_take_drop_succ, List.flatMap_append]
  rw [hr] at hown
  have hl2 : r.length = l.length - 1 := by rw [← Hr.out, List.length_eraseIdx, if_pos hi]
  have HL := Lib.hid hl2
  have HW := Lib.hid hown
  have HG := Lib.hid hg
  clear hr hl2 hown hg HC HD h1 h2 h3 h4 h5 h6 h7
  have k1 : l.length - 1 ≤ l.length := by omega
  have k2 : l.length ≤ c := by omega
  have k3 : ((l.length - 1 : Nat) : Int) ≤ (l.length : Int) := by omega
  have k4 : (l.length : Int) ≤ (c : Int) := by omega
  have k5 : l.length - (l.length - 1) = 1 := by omega
  have hz : ∀ w, (zeroValue 129).run Try.prog w = .ok (.agg #[.int .i64 0, .int .i64 0]) w := fun w => by kernel_rfl
  have hz1 : ∀ u ∈ (Builtin.zeroCells (Value.agg #[.int .i64 0, .int .i64 0]).cells 1).toList, u.oneCell' = true := of_decide_eq_true (by kernel_rfl)
  have HZ1 := Lib.hid hz1
  have HZ := Lib.hid hz
  clear hz hz1
  go_wp2_with (with_reducible refine wpList_clr rfl (.tmp 31) 58 rfl 129 (.agg #[.int .i64 0, .int .i64 0]) Try.underlying58 HZ.out rfl HZ1.out HW.out ((l.length - 1) * 2) (c - (l.length - 1)) rfl rfl (by omega) (by omega) ?_; intro w2 hown hg)
  have hq : (Value.agg #[.int .i64 0, .int .i64 0]).cells.size = 2 := rfl
  rw [hq] at hown
  rw [← HL.out] at hown ⊢
  have HU := Lib.hid hown
  have HV := Lib.hid hg
  clear hown hg hq
  go_ret
  refine ⟨rfl, HU.out, grown_trans (grown_ext (Below.refl _ _).drew) (grown_trans ?_ HV.out)⟩
  exact HG.out

end Go.Proofs.Ytpameapajhbdnaa

namespace Go.Proofs.Ytpameapajhbdnaa
open Go.RowKit Go.Shelf
set_option maxRecDepth 100000
/-- the library's variable holds a number -/
def MaxLen (w : World) : Prop := ∃ m : Int, w.cell? ⟨0, 0, none⟩ = some (.int .i64 m) ∧ 0 < w.heap.size
theorem MaxLen.ext {w w' : World} (h : MaxLen w) (hb : Below w.heap.size w w') : MaxLen w' := by
  obtain ⟨m, h1, h2⟩ := h
  exact ⟨m, (hb.cell (p := ⟨0, 0, none⟩) h2).trans h1, Nat.lt_of_lt_of_le h2 hb.size⟩

theorem cell_lt {w : World} {b o : Nat} {v : Value} (h : w.cell? ⟨b, o, none⟩ = some v) : b < w.heap.size := by
  apply Nat.lt_of_not_le
  intro hle
  unfold World.cell? at h
  have : w.heap[b]? = none := by simp; omega
  simp [this] at h
end Go.Proofs.Ytpameapajhbdnaa

namespace Go.Proofs.Ytpameapajhbdnaa
open Go.RowKit
set_option linter.unusedVariables false
set_option linter.unusedSimpArgs false

/-- the letter number i -/
def cat (s : ByteArray) (i : Nat) : Nat := if h : i < s.size then s[i].toNat else 0
theorem cat_eq (s : ByteArray) (i : Nat) (h : i < s.size) : cat s i = s[i].toNat := by unfold cat; rw [dif_pos h]
/-- one letter of a name at its place -/
def LetterP (s : ByteArray) (i : Nat) : Prop := (cat s i = 47 → i ≠ 0 ∧ i ≠ s.size - 1 ∧ cat s (i - 1) ≠ 47) ∧ (cat s i ≠ 47 → 97 ≤ cat s i ∧ cat s i ≤ 122)
def NameP (s : ByteArray) : Prop := (∀ i, i < s.size → LetterP s i) ∧ 1 ≤ s.size ∧ s.size ≤ 12

set_option maxHeartbeats 1000000 in
theorem specNameOk_any (s : ByteArray) (w : World) (hs : s.size ≤ 9223372036854775807) (r : Bool) (Hr : Hid (Tells r (NameP s))) :
    Calls Try.prog 150 #[.string s] w fun e w' => e = .returned (.bool r) ∧ w' = w := by
  go_enter Try.func150, Try.ntmps150
  go_wp2_with fail
  go_loop [3] (fun i => ∃ k : Nat, k ≤ s.size ∧ i = .int .i64 k ∧ Hid (∀ j, j < k → LetterP s j)) (fun i => s.size - (intOf i).toNat)
  case atStart => exact ⟨0, Nat.zero_le _, rfl, by simp [Hid]⟩
  case round =>
    obtain ⟨k, hk, rfl, HP⟩ := hrel
    by_cases hlt : k < s.size
    · have hk1 : (k : Int) < (s.size : Int) := by omega
      have HC : Hid (cat s k = s[k].toNat ∧ (1 ≤ k → cat s (k - 1) = s[k - 1].toNat)) := ⟨cat_eq s k hlt, fun _ => cat_eq s (k - 1) (by omega)⟩
      go_wp2_with fail
      all_goals first
        | go_ret
        | go_round
      all_goals have hC := HC.out
      all_goals try simp only [beq_iff_eq, beq_eq_false_iff_ne, ne_eq] at *
      all_goals first
        | (refine ⟨ret_no Hr.out (fun hn => ?_), (by first | rfl | trivial)⟩; have hL := hn.1 _ hlt; unfold LetterP at hL; omega)
        | (refine ⟨k + 1, ?_, ?_, fun j hj => ?_⟩; omega; go_num; rcases Nat.lt_or_ge j k with h | h; exact HP.out j h; obtain rfl : j = k := (by omega); unfold LetterP; omega)
        | (simp [intOf]; omega)
    · obtain ⟨d, hd⟩ := boolOf ((1 : Int) ≤ (s.size : Int) ∧ (s.size : Int) ≤ 12)
      have HD := Lib.hid hd
      clear hd
      go_wp2_with ((go_at_call 152; refine (l1In_any _ _ _ _ d HD).mono ?_; rintro e w1 ⟨rfl, rfl⟩))
      go_ret
      refine ⟨ret_bool ?_, rfl⟩
      have hp : ∀ j, j < s.size → LetterP s j := fun j hj => HP.out j (by omega)
      cases d
      · exact (Hr.out.eq_false (fun hn => no_of HD.out ⟨by have := hn.2.1; omega, by have := hn.2.2; omega⟩)).symm
      · have h := yes_of HD.out
        exact (Hr.out.eq_true ⟨hp, by omega, by omega⟩).symm
end Go.Proofs.Ytpameapajhbdnaa

namespace Go.Proofs.Ytpameapajhbdnaa
open Go.RowKit
set_option linter.unusedVariables false

def seqOf (u : Int) (l : List DSeen) : Int := firstI (fun x => decide (x.uid = u)) l + 1

set_option maxHeartbeats 1000000 in
theorem specSeqIn_any (l : List DSeen) (a : Option Addr) (c : Nat) (u : Int) (w : World) (R : Rd w a c 2 l.length (l.flatMap DSeen.cells)) (r : Int) (Hr : Hid (seqOf u l = r)) :
    Calls Try.prog 122 #[.agg #[.slice a l.length c], .int .i64 u] w fun e w' => e = .returned (.int .i64 r) ∧ Ext w w' := by
  have hl : l.length ≤ 9223372036854775807 := Nat.le_trans R.nc R.cm
  have HR := Lib.hid R
  clear R
  go_enter Try.func122, Try.ntmps122
  go_wp2_with fail
  go_loop [5] (fun i => ∃ k : Nat, k ≤ l.length ∧ i = .int .i64 k ∧ Hid (NoneTo (fun x => decide (x.uid = u)) l k)) (fun i => l.length - (intOf i).toNat)
  case atStart => exact ⟨0, Nat.zero_le _, rfl, NoneTo.zero⟩
  case round =>
    obtain ⟨k, hk, rfl, HP⟩ := hrel
    by_cases hlt : k < l.length
    · obtain ⟨b, o, rfl, hb, hat⟩ := HR.out.ptr (by omega)
      obtain ⟨hx0, hx1⟩ := DSeen.at hat k hlt
      have HA := Lib.hid hat
      clear hat
      obtain ⟨d, hd⟩ : ∃ d, (l[k].uid == u) = d := ⟨_, rfl⟩
      have HD : Hid (decide (l[k].uid = u) = d) := by rw [← hd]; rfl
      cases d
      · go_wp2_with fail
        go_round
        case rel => exact ⟨k + 1, by omega, by go_num, NoneTo.succ HP.out hlt HD.out⟩
        case measure => simp [intOf]; omega
      · go_wp2_with fail
        go_ret
        refine ⟨ret_int ?_, (Below.refl _ _).alloc (Nat.le_refl _) _⟩
        rw [← Hr.out]
        unfold seqOf
        rw [NoneTo.hit HP.out hlt HD.out]
    · go_wp2_with fail
      go_ret
      refine ⟨ret_int ?_, (Below.refl _ _).alloc (Nat.le_refl _) _⟩
      rw [← Hr.out]
      unfold seqOf
      rw [NoneTo.all HP.out hlt]
      rfl

end Go.Proofs.Ytpameapajhbdnaa

namespace Go.Proofs.Ytpameapajhbdnaa
open Go.RowKit
set_option linter.unusedVariables false
set_option linter.unusedSimpArgs false

theorem info_Reply : (Try.prog.info? 131).map (fun i => (i.zero, i.size, i.bytes)) = some (some (.agg #[.int .i64 0, .int .i64 0, .int .i64 0, .int .i64 0, .string ByteArray.empty, .string ByteArray.empty]), 6, 64) := by kernel_rfl

end Go.Proofs.Ytpameapajhbdnaa

namespace Go.Proofs.Ytpameapajhbdnaa
open Go.RowKit
set_option linter.unusedVariables false
set_option linter.unusedSimpArgs false

set_option maxRecDepth 100000 in
set_option maxHeartbeats 4000000 in
theorem specSameView_any (xknown : List DSeen) (xknownA : Option Addr) (xknownC : Nat) (yknown : List DSeen) (yknownA : Option Addr) (yknownC : Nat) (w : World) (xknownR : Rd w xknownA xknownC 2 xknown.length (xknown.flatMap DSeen.cells)) (yknownR : Rd w yknownA yknownC 2 yknown.length (yknown.flatMap DSeen.cells)) (r : Bool) (Hr : Hid (decide (xknown = yknown) = r)) :
    Calls Try.prog 51 #[.agg #[.slice xknownA xknown.length xknownC], .agg #[.slice yknownA yknown.length yknownC]] w fun e w' => e = .returned (.bool r) ∧ Ext w w' := by
  have hlx : xknown.length ≤ 9223372036854775807 := Nat.le_trans xknownR.nc xknownR.cm
  have h3 := eqSeenG
  have Hxknown := Lib.hid xknownR
  clear xknownR
  have Hyknown := Lib.hid yknownR
  clear yknownR
  by_cases hne : xknown.length = yknown.length
  rotate_left
  · have hn1 : ((xknown.length : Int) != (yknown.length : Int)) = true := by simp; omega
    have HN : Hid (xknown ≠ yknown) := fun h => hne (by rw [h])
    clear hne
    go_enter Try.func51, Try.ntmps51
    go_wp2_with fail
    go_ret
    refine ⟨ret_bool ?_, bxt⟩
    rw [← Hr.out]
    simp [HN.out]
  have hn1 : ((xknown.length : Int) != (yknown.length : Int)) = false := by simp; omega
  have HN := Lib.hid hne
  clear hne
  go_enter Try.func51, Try.ntmps51
  go_wp2_with fail
  go_loopw [5] (fun i wr => ∃ k : Nat, k ≤ xknown.length ∧ i = .int .i64 k ∧ Hid (∀ j, j < k → xknown[j]? = yknown[j]?) ∧ Hid (∃ n, wr = ((w.alloc (.cells #[.slice xknownA xknown.length xknownC] 67)).alloc (.cells #[.slice yknownA yknown.length yknownC] 67)).drewN n)) (fun i _ => xknown.length - (intOf i).toNat)
  case atStart => exact ⟨0, Nat.zero_le _, rfl, by simp [Hid], ⟨0, rfl⟩⟩
  case round =>
    obtain ⟨k, hk, rfl, HP, HB⟩ := hrel
    obtain ⟨nq0, hw0⟩ := HB.out
    subst hw0
    by_cases hlt : k < xknown.length
    · have hlty : k < yknown.length := by have := HN.out; omega
      have hlty2 : (k : Int) < (yknown.length : Int) := by omega
      obtain ⟨b1, o1, rfl, hb1, hat1⟩ := Hxknown.out.ptr (by omega)
      obtain ⟨b2, o2, rfl, hb2, hat2⟩ := Hyknown.out.ptr (by omega)
      obtain ⟨hx0, hx1⟩ := DSeen.at hat1 k hlt
      obtain ⟨hy0, hy1⟩ := DSeen.at hat2 k hlty
      have HA1 := Lib.hid hat1
      have HA2 := Lib.hid hat2
      clear hat1 hat2
      have hb1' : b1 < w.heap.size + 1 := by omega
      have hb2' : b2 < w.heap.size + 1 := by omega
      obtain ⟨d, hd⟩ : ∃ d, decide (xknown[k] = yknown[k]) = d := ⟨_, rfl⟩
      have hq := eqSeenB xknown[k] yknown[k] d hd
      have HD := Lib.hid hd
      clear hd
      go_wp2_with fail
      go_quiet (fail)
      cases d
      · go_wp2_with fail
        go_ret
        refine ⟨ret_bool ?_, bxt⟩
        rw [← Hr.out]
        simp [ne_at hlt hlty (of_decide_eq_false HD.out)]
      · go_wp2_with fail
        go_roundw
        case rel => exact ⟨k + 1, by omega, by go_num, pre_succ HP.out hlt hlty (of_decide_eq_true HD.out), ⟨_, rfl⟩⟩
        case measure => simp [intOf]; omega
    · go_wp2_with fail
      go_ret
      refine ⟨ret_bool ?_, bxt⟩
      rw [← Hr.out]
      have hkk : k = xknown.length := by omega
      subst hkk
      simp [all_pre HP.out HN.out]

end Go.Proofs.Ytpameapajhbdnaa
