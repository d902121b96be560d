/-
  Slices that a call gathers: 'append' of one element, and what it leaves.
  Slices of the call's own in a wider sense: an empty slice without any room may lie anywhere. 'append' of a whole slice onto such a one.
  Worlds in which a set of blocks may have changed.
  What a statement of a law leaves that makes a struct's box out of calls whose order is open.
  A box that is written anew, cell by cell.
-/
import Derived.Test.YtadjlfcdjkikgaaDoorTy
import Derived.OwnWalk
import Derived.Deep.AppendLies
import Derived.Maps.AppendAt
import Derived.Deep.DeepCutAuto
import Derived.BigQuiet
namespace Go.Proofs.YtadjlfcdjkikgaaDoor
open Go.RowKit
set_option linter.unusedVariables false
set_option linter.unusedSimpArgs false

theorem below_app {W wr w1 : World} {B0 B E s n : Nat} {v : Value} {xs : List Value} (hb : Below B0 W wr) (hown : wr.ownsRow B E s v n xs) (hB : B0 ≤ B) (hsz : B0 ≤ wr.heap.size) (hg : wr.grownBy w1 v.ownBlock) : Below B0 W w1 :=
  hb.grown hg hsz (fun k hk => Nat.le_trans hB (hown.lt k hk).1)

theorem Below.extB {B0 B : Nat} {a b c : World} (h : Below B0 a b) (k : Below B b c) (hB : B0 ≤ B) : Below B0 a c := h.trans (k.mono hB)

theorem own_shape {w : World} {B E s n : Nat} {v : Value} {xs : List Value} (h : w.ownsRow B E s v n xs) : ∃ a c, v = .slice a n c := by
  rcases h.2 with ⟨rfl, rfl⟩ | ⟨g, c, cur, rfl, _⟩
  · exact ⟨_, _, rfl⟩
  · exact ⟨_, _, rfl⟩

/-- append(out, x): one element of s cells, at the head of block b -/
theorem wpList_app1 {P : Program} {w : World} {ops : Array Oper} {rest : List Oper} {o : Oper} {a : Act} {Q : Exit → Act → World → Prop} (hgd : o.guard = none) (sl x : Operand) (t : TypeId)
    (ho : o.op = .call { callee := .builtin .append, args := #[sl, x], argTypes := #[t, t] })
    (E : TypeId) (i : TypeInfo) (z : Value) (s bytes : Nat) (ht : P.underlying t = some (.slice E)) (hi : P.info? E = some i) (hz : i.zero = some z)
    (hsize : i.size = s) (hby : i.bytes = bytes) (hzs : z.cells.size = s) (hsz : 0 < s)
    (v : Value) (n : Nat) (xs : List Value) (hs : a.eval sl = v) (B : Nat) (hown : w.ownsRow B E s v n xs) (b : Nat) (news : List Value)
    (hx : a.eval x = .slice (some ⟨b, 0, none⟩) 1 1) (hl : news.length = s) (hat : At w b 0 news) (h1 : ∀ u ∈ news, u.oneCell' = true)
    (hn : n ≤ 4194304) (hb2 : bytes ≤ 1024) (hbase : B ≤ w.heap.size)
    (h : ∀ v' w', w'.ownsRow B E s v' (n + 1) (xs ++ news) → w.grownBy w' v.ownBlock → wpList P ops Q rest (a.put o.dst v') w') : wpList P ops Q (o :: rest) a w :=
  wpList_append_own _ hgd sl x t ho B E i z s bytes ht hi hz hsize hby hzs hsz v n xs hs hown ⟨b, 0, none⟩ 1 1 news hx (by omega)
    (fun j u hj => by have h2 := hat j u hj; rw [Nat.zero_add] at h2; unfold Addr.add; split <;> simp_all) h1 (by unfold maxLen; omega)
    (Nat.le_trans (Nat.mul_le_mul (by omega : n + 1 ≤ 4194305) hb2) (by omega)) hbase (fun v' w' h1 h2 _ => h v' w' h1 h2)

theorem at_alloc {w : World} {cs : Array Value} {E : TypeId} {p : Nat × Nat} {g : Nat} {l : List Value} (hg : w.heap.size = g) (hl : cs.toList = l) : At (w.alloc (.cells cs E p)) g 0 l := fun j u hu => by
  subst hg
  subst hl
  have hj : cs[j]? = some u := by simpa using hu
  have := heap_alloc_new w (.cells cs E p)
  unfold World.cell?
  simp only [this]
  simpa using hj

/-- the loop of a function that gathers a slice: after k rounds out k is gathered (out: a def, so that the walk leaves it alone) -/
def GathRel {α : Type} (enc : α → List Value) (s E N : Nat) (out : Nat → List α) (W : World) (B : Nat) (v i : Value) (wr : World) : Prop :=
  ∃ k : Nat, k ≤ N ∧ i = .int .i64 k ∧ wr.ownsRow B E s v (out k).length ((out k).flatMap enc) ∧ Below B W wr

theorem GathRel.start {α : Type} {enc : α → List Value} {s E N : Nat} {out : Nat → List α} (W : World) (g : Nat) (hg : W.heap.size = g) (h0 : out 0 = []) : GathRel enc s E N out W g (.slice (some ⟨g, 0, none⟩) 0 0) (.int .i64 0) (W.alloc (.cells #[] E)) := by
  subst hg
  refine ⟨0, Nat.zero_le _, rfl, ?_, (Below.refl _ _).alloc (Nat.le_refl _) _⟩
  rw [h0]
  exact World.ownsRow_lit W #[] 0 (Nat.le_refl _) (Nat.zero_le _) (by simp)

theorem GathRel.next {α : Type} {enc : α → List Value} {s E N k n B : Nat} {out : Nat → List α} {W w0 w1 : World} {v v' : Value} {xs : List Value} (hk : k < N) (x : α) (ho : out (k + 1) = out k ++ [x]) (h0 : w0.ownsRow B E s v n xs) (hg : w0.grownBy w1 v.ownBlock) (hb : Below B W w0) (hB : B ≤ w0.heap.size)
    (h1 : w1.ownsRow B E s v' ((out k).length + 1) ((out k).flatMap enc ++ enc x)) : GathRel enc s E N out W B v' (.int .i64 ((k : Int) + 1)) w1 := by
  refine ⟨k + 1, by omega, by simp, ?_, below_app hb h0 (Nat.le_refl _) hB hg⟩
  rw [ho]
  simpa using h1
theorem GathRel.skip {α : Type} {enc : α → List Value} {s E N k B : Nat} {out : Nat → List α} {W w1 : World} {v : Value} (hk : k < N) (ho : out (k + 1) = out k)
    (h1 : w1.ownsRow B E s v (out k).length ((out k).flatMap enc)) (hb : Below B W w1) : GathRel enc s E N out W B v (.int .i64 ((k : Int) + 1)) w1 :=
  ⟨k + 1, by omega, by simp, by rw [ho]; exact h1, hb⟩

/-- the same, the new value told: at the head of a block -/
theorem wpList_app1L {P : Program} {w : World} {ops : Array Oper} {rest : List Oper} {o : Oper} {a : Act} {Q : Exit → Act → World → Prop} (hgd : o.guard = none) (sl x : Operand) (t : TypeId)
    (ho : o.op = .call { callee := .builtin .append, args := #[sl, x], argTypes := #[t, t] })
    (E : TypeId) (i : TypeInfo) (z : Value) (s bytes : Nat) (ht : P.underlying t = some (.slice E)) (hi : P.info? E = some i) (hz : i.zero = some z)
    (hsize : i.size = s) (hby : i.bytes = bytes) (hzs : z.cells.size = s) (hsz : 0 < s)
    (v : Value) (n : Nat) (xs : List Value) (hs : a.eval sl = v) (B : Nat) (hown : w.ownsRow B E s v n xs) (b : Nat) (news : List Value)
    (hx : a.eval x = .slice (some ⟨b, 0, none⟩) 1 1) (hl : news.length = s) (hat : At w b 0 news) (h1 : ∀ u ∈ news, u.oneCell' = true)
    (hn : n ≤ 4194304) (hb2 : bytes ≤ 1024) (hbase : B ≤ w.heap.size)
    (h : ∀ g c w', w'.ownsRow B E s (.slice (some ⟨g, 0, none⟩) (n + 1) c) (n + 1) (xs ++ news) → w.grownBy w' v.ownBlock → wpList P ops Q rest (a.put o.dst (.slice (some ⟨g, 0, none⟩) (n + 1) c)) w') : wpList P ops Q (o :: rest) a w :=
  wpList_append_lies _ hgd sl x t ho B E i z s bytes ht hi hz hsize hby hzs hsz v n xs hs hown ⟨b, 0, none⟩ 1 1 news hx (by omega)
    (fun j u hj => by have h2 := hat j u hj; rw [Nat.zero_add] at h2; unfold Addr.add; split <;> simp_all) h1 (by omega) (by unfold maxLen; omega)
    (Nat.le_trans (Nat.mul_le_mul (by omega : n + 1 ≤ 4194305) hb2) (by omega)) hbase _ rfl (fun g c w' h1 h2 _ _ => h g c w' h1 h2)
/-- the same as one step of a region that draws -/
theorem step_app1 {P : Program} {w : World} {ops : Array Oper} {o : Oper} {a : Act} {K : Act → World → Prop} {Q : Exit → Act → World → Prop} {Els : Prop} (hgd : o.guard = none) (sl x : Operand) (t : TypeId)
    (ho : o.op = .call { callee := .builtin .append, args := #[sl, x], argTypes := #[t, t] })
    (E : TypeId) (i : TypeInfo) (z : Value) (s bytes : Nat) (ht : P.underlying t = some (.slice E)) (hi : P.info? E = some i) (hz : i.zero = some z)
    (hsize : i.size = s) (hby : i.bytes = bytes) (hzs : z.cells.size = s) (hsz : 0 < s)
    (v : Value) (n : Nat) (xs : List Value) (hs : a.eval sl = v) (B : Nat) (hown : w.ownsRow B E s v n xs) (b : Nat) (news : List Value)
    (hx : a.eval x = .slice (some ⟨b, 0, none⟩) 1 1) (hl : news.length = s) (hat : At w b 0 news) (h1 : ∀ u ∈ news, u.oneCell' = true)
    (hn : n ≤ 4194304) (hb2 : bytes ≤ 1024) (hbase : B ≤ w.heap.size)
    (h : ∀ g c w', w'.ownsRow B E s (.slice (some ⟨g, 0, none⟩) (n + 1) c) (n + 1) (xs ++ news) → w.grownBy w' v.ownBlock → K (a.put o.dst (.slice (some ⟨g, 0, none⟩) (n + 1) c)) w') :
    if Region.wanted o (yielded ops a.tmps) = true then Oper.wp P o a w K Q else Els :=
  step_append_lies _ hgd sl x t ho B E i z s bytes ht hi hz hsize hby hzs hsz v n xs hs hown ⟨b, 0, none⟩ 1 1 news hx (by omega)
    (fun j u hj => by have h2 := hat j u hj; rw [Nat.zero_add] at h2; unfold Addr.add; split <;> simp_all) h1 (by omega) (by unfold maxLen; omega)
    (Nat.le_trans (Nat.mul_le_mul (by omega : n + 1 ≤ 4194305) hb2) (by omega)) hbase _ rfl (fun g c w' h1 h2 _ _ => h g c w' h1 h2)

/-- the same loop, the slice held in the cell j of box b -/
def GathFld {α : Type} (enc : α → List Value) (s E N : Nat) (out : Nat → List α) (W : World) (b j : Nat) (i : Value) (wr : World) : Prop :=
  ∃ (k : Nat) (v : Value), k ≤ N ∧ i = .int .i64 k ∧ wr.ownsRow (b + 1) E s v (out k).length ((out k).flatMap enc) ∧ Below b W wr ∧ wr.cell? ⟨b, j, none⟩ = some v ∧ wr.frozen? ⟨b, j, none⟩ = false ∧ b + 1 ≤ wr.heap.size
theorem GathFld.next {α : Type} {enc : α → List Value} {s E N k n b j : Nat} {out : Nat → List α} {W w0 w1 : World} {v v' : Value} {xs : List Value} (hk : k < N) (x : α) (ho : out (k + 1) = out k ++ [x])
    (h0 : w0.ownsRow (b + 1) E s v n xs) (hg : w0.grownBy w1 v.ownBlock) (hb : Below b W w0) (hB : b + 1 ≤ w0.heap.size) (hc : ∃ u, w0.cell? ⟨b, j, none⟩ = some u) (hf : w0.frozen? ⟨b, j, none⟩ = false)
    (h1 : w1.ownsRow (b + 1) E s v' ((out k).length + 1) ((out k).flatMap enc ++ enc x)) : GathFld enc s E N out W b j (.int .i64 ((k : Int) + 1)) (w1.setCell ⟨b, j, none⟩ v') := by
  have hne : some b ≠ v.ownBlock := fun e => by have := (h0.lt b e.symm).1; omega
  obtain ⟨u, hu⟩ := hc
  have hc1 : w1.cell? ⟨b, j, none⟩ = some u := (World.cell?_of_block (w := w0) (a := ⟨b, j, none⟩) (hg.block b (by omega) hne)).trans hu
  have hf1 : w1.frozen? ⟨b, j, none⟩ = false := (World.frozen?_of_block (w := w0) (a := ⟨b, j, none⟩) (hg.block b (by omega) hne)).trans hf
  refine ⟨k + 1, v', by omega, by simp, ?_, (below_app hb h0 (by omega) (by omega) hg).setCell (Nat.le_refl _) _, World.cell?_setCell_same _ _ _ hc1, by simpa using hf1, by have := hg.size; simp; omega⟩
  rw [ho]
  refine ownsRow_setCell_below ?_ (by simp) _
  simpa using h1
theorem fld_ready {E s n b j : Nat} {w0 w1 : World} {v : Value} {xs : List Value} (h0 : w0.ownsRow (b + 1) E s v n xs) (hg : w0.grownBy w1 v.ownBlock) (hB : b < w0.heap.size) (hc : ∃ u, w0.cell? ⟨b, j, none⟩ = some u) (hf : w0.frozen? ⟨b, j, none⟩ = false) :
    (∃ u, w1.cell? ⟨b, j, none⟩ = some u) ∧ w1.frozen? ⟨b, j, none⟩ = false := by
  have hne : some b ≠ v.ownBlock := fun e => by have := (h0.lt b e.symm).1; omega
  obtain ⟨u, hu⟩ := hc
  exact ⟨⟨u, (World.cell?_of_block (w := w0) (a := ⟨b, j, none⟩) (hg.block b (by omega) hne)).trans hu⟩, (World.frozen?_of_block (w := w0) (a := ⟨b, j, none⟩) (hg.block b (by omega) hne)).trans hf⟩

/-- v's memory is not block b's -/
def Off (b : Nat) (v : Value) : Prop := v.ownBlock ≠ some b
theorem Off.lt {w : World} {B E s n b : Nat} {v : Value} {xs : List Value} (h : w.ownsRow B E s v n xs) (hb : b < B) : Off b v := fun e => by have := (h.lt b e).1; omega
theorem Off.ge {w : World} {B E s n b : Nat} {v : Value} {xs : List Value} (h : w.ownsRow B E s v n xs) (hb : w.heap.size ≤ b) : Off b v := fun e => by have := (h.lt b e).2; omega
theorem grown_off {w w' : World} {v : Value} (h : w.grownBy w' v.ownBlock) : (∀ b o, b < w.heap.size → Off b v → w'.cell? ⟨b, o, none⟩ = w.cell? ⟨b, o, none⟩) ∧ (∀ b o, b < w.heap.size → Off b v → w'.frozen? ⟨b, o, none⟩ = w.frozen? ⟨b, o, none⟩) :=
  ⟨fun b o hb hne => World.cell?_of_block (w := w) (h.block b hb (fun e => hne e.symm)), fun b o hb hne => World.frozen?_of_block (w := w) (h.block b hb (fun e => hne e.symm))⟩
/-- two slices' memories are apart -/
def Apart (v v2 : Value) : Prop := v.ownBlock = none ∨ v.ownBlock ≠ v2.ownBlock
theorem Apart.of {w w2 : World} {B E s n B2 E2 s2 n2 : Nat} {v v2 : Value} {xs xs2 : List Value} (h : w.ownsRow B E s v n xs) (h2 : w2.ownsRow B2 E2 s2 v2 n2 xs2) (hle : w.heap.size ≤ B2) : Apart v v2 := by
  cases hv : v.ownBlock with
  | none => exact Or.inl hv
  | some g =>
    refine Or.inr fun e => ?_
    rw [hv] at e
    have := (h.lt g hv).2
    have := (h2.lt g e.symm).1
    omega
theorem Apart.symm {v v2 : Value} (h : Apart v v2) : Apart v2 v := by
  rcases h with h | h
  · cases hv : v2.ownBlock with
    | none => exact Or.inl hv
    | some g => exact Or.inr (by rw [h, hv]; simp)
  · exact Or.inr (fun e => h e.symm)
theorem own_apart {w w' : World} {B E s n : Nat} {v v2 : Value} {xs : List Value} (h : w.ownsRow B E s v n xs) (hg : w.grownBy w' v2.ownBlock) (ha : Apart v v2) : w'.ownsRow B E s v n xs := h.kept hg ha

/-- what a drawn region keeps: below block B all is as in W -/
def SB (B : Nat) (W w' : World) : Prop := Below B W w' ∧ B ≤ w'.heap.size
theorem SB.cells {B : Nat} {W w' : World} (h : SB B W w') (b o : Nat) (hb : b < B) : w'.cell? ⟨b, o, none⟩ = W.cell? ⟨b, o, none⟩ := h.1.cell (p := ⟨b, o, none⟩) hb
theorem SB.frozen {B : Nat} {W w' : World} (h : SB B W w') (b o : Nat) (hb : b < B) : w'.frozen? ⟨b, o, none⟩ = W.frozen? ⟨b, o, none⟩ := h.1.frozen (p := ⟨b, o, none⟩) hb
abbrev SC (B : Nat) (W w' : World) : Prop := SB B W w' ∧ ∀ b o, b < B → w'.cell? ⟨b, o, none⟩ = W.cell? ⟨b, o, none⟩
theorem SC.beg (B : Nat) (W : World) (hB : B ≤ W.heap.size) : SC B W W.drew := ⟨⟨(Below.refl _ _).drew, hB⟩, fun _ _ _ => rfl⟩
theorem SC.of {B : Nat} {W w' : World} (h : SB B W w') : SC B W w' := ⟨h, fun b o hb => h.cells b o hb⟩
theorem SC.alloc {B : Nat} {W w' : World} (h : SC B W w') (o : Obj) : SC B W (w'.alloc o) := .of ⟨h.1.1.alloc h.1.2 _, by have := h.1.2; simp; omega⟩
theorem SC.set {B : Nat} {W w' : World} (h : SC B W w') {p : Addr} (hp : B ≤ p.block) (u : Value) : SC B W (w'.setCell p u) := .of ⟨h.1.1.setCell hp _, by simpa using h.1.2⟩
theorem SC.ext {B : Nat} {W w' w1 : World} (h : SC B W w') (h2 : Below w'.heap.size w' w1) : SC B W w1 := .of ⟨Below.extB h.1.1 h2 h.1.2, Nat.le_trans h.1.2 h2.size⟩
theorem SC.app {B B2 E s n : Nat} {W w' w1 : World} {v : Value} {xs : List Value} (h : SC B W w') (hown : w'.ownsRow B2 E s v n xs) (hB : B ≤ B2) (hg : w'.grownBy w1 v.ownBlock) : SC B W w1 := .of ⟨below_app h.1.1 hown hB h.1.2 hg, Nat.le_trans h.1.2 hg.size⟩
end Go.Proofs.YtadjlfcdjkikgaaDoor

namespace Go.Proofs.YtadjlfcdjkikgaaDoor
open Go.RowKit
set_option linter.unusedVariables false
set_option linter.unusedSimpArgs false

/-- the row that may be written through a slice value: none where it has no room at all -/
def foot : Value → Option Nat
  | .slice (some a) _ c => if c = 0 then none else some a.block
  | _ => none
/-- what v must be to own a row -/
def OwnAt (w : World) (B E s : Nat) (a : Option Addr) (n c : Nat) (xs : List Value) : Prop :=
  c = 0 ∨ ∃ g cur, a = some ⟨g, 0, none⟩ ∧ B ≤ g ∧ w.heap[g]? = some (.cells cur E (0, 0)) ∧ c ≤ maxLen ∧ cur.size = c * s ∧ cur.toList.take (n * s) = xs
def Own (w : World) (B E s : Nat) (v : Value) (n : Nat) (xs : List Value) : Prop :=
  xs.length = n * s ∧ ∃ a c, v = .slice a n c ∧ n ≤ c ∧ OwnAt w B E s a n c xs

theorem foot_slice (a : Option Addr) (n c : Nat) (k : Nat) : foot (.slice a n c) = some k ↔ c ≠ 0 ∧ ∃ x, a = some x ∧ x.block = k := by
  cases a with
  | none => simp [foot]
  | some x =>
    by_cases h : c = 0 <;> simp [foot, h]
theorem foot_len (a : Option Addr) (n m c : Nat) : foot (.slice a n c) = foot (.slice a m c) := by cases a <;> rfl
theorem foot_own {v : Value} {k : Nat} (h : foot v = some k) : v.ownBlock = some k := by
  unfold foot at h
  split at h
  · split at h
    · cases h
    · simpa [Value.ownBlock] using h
  · cases h
theorem grown_none {w w' : World} {row : Option Nat} (h : w.grownBy w' none) : w.grownBy w' row := ⟨h.os, h.tape, h.output, h.size, fun k hk _ => h.block k hk (by simp)⟩
theorem grown_ext0 {a b : World} (h : Below a.heap.size a b) : a.grownBy b none := grown_ext h
theorem grown_below {a b : World} (h : a.grownBy b none) : Below a.heap.size a b := ⟨h.os, h.tape, h.output, h.size, fun k hk => h.block k hk (by simp)⟩

section
variable {w w' : World} {B B' E s n : Nat} {v : Value} {xs : List Value}

theorem Own.of_row (h : w.ownsRow B E s v n xs) : Own w B E s v n xs := by
  rcases h.2 with ⟨rfl, rfl⟩ | ⟨g, cap, cur, rfl, hb, hg, hnc, hcm, hcs, ht⟩
  · exact ⟨h.1, _, _, rfl, Nat.le_refl _, Or.inl rfl⟩
  · exact ⟨h.1, _, _, rfl, hnc, Or.inr ⟨g, cur, rfl, hb, hg, hcm, hcs, ht⟩⟩
theorem Own.none0 (a : Option Addr) : Own w B E s (.slice a 0 0) 0 [] := ⟨by simp, _, _, rfl, Nat.le_refl _, Or.inl rfl⟩
theorem Own.lt (h : Own w B E s v n xs) : ∀ k, foot v = some k → B ≤ k ∧ k < w.heap.size := fun k hk => by
  obtain ⟨h1, a, c, rfl, hnc, h0 | ⟨g, cur, rfl, hb, hg, _⟩⟩ := h
  · exact absurd h0 ((foot_slice _ _ _ _).1 hk).1
  · obtain ⟨_, x, hx, rfl⟩ := (foot_slice _ _ _ _).1 hk
    simp only [Option.some.injEq] at hx
    subst hx
    exact ⟨hb, (Array.getElem?_eq_some_iff.1 hg).1⟩
theorem Own.kept {row : Option Nat} (h : Own w B E s v n xs) (hg : w.grownBy w' row) (hne : foot v = none ∨ foot v ≠ row) : Own w' B E s v n xs := by
  obtain ⟨h1, a, c, rfl, hnc, h0 | ⟨g, cur, rfl, hb, hgg, hr⟩⟩ := h
  · exact ⟨h1, a, c, rfl, hnc, Or.inl h0⟩
  · by_cases hc : c = 0
    · exact ⟨h1, _, _, rfl, hnc, Or.inl hc⟩
    · refine ⟨h1, _, _, rfl, hnc, Or.inr ⟨g, cur, rfl, hb, ?_, hr⟩⟩
      rw [hg.block g (Array.getElem?_eq_some_iff.1 hgg).1]
      · exact hgg
      · simpa [foot, hc] using hne
theorem Own.ext (h : Own w B E s v n xs) (hb : Below w.heap.size w w') : Own w' B E s v n xs := h.kept (grown_ext0 hb) (by cases hv : foot v <;> simp)
theorem Own.le (h : Own w B E s v n xs) (hb : B' ≤ B) : Own w B' E s v n xs := by
  obtain ⟨h1, a, c, rfl, hnc, h0 | ⟨g, cur, ha, hb', hr⟩⟩ := h
  · exact ⟨h1, a, c, rfl, hnc, Or.inl h0⟩
  · exact ⟨h1, a, c, rfl, hnc, Or.inr ⟨g, cur, ha, Nat.le_trans hb hb', hr⟩⟩
theorem Own.shape (h : Own w B E s v n xs) : ∃ a c, v = .slice a n c := by obtain ⟨_, a, c, rfl, _⟩ := h; exact ⟨a, c, rfl⟩
theorem Rd.own {a : Option Addr} {c : Nat} (h : Own w B E s (.slice a n c) n xs) (hc : c ≤ 9223372036854775807) : Rd w a c s n xs := by
  obtain ⟨h1, a', c', hv, hnc, hr⟩ := h
  simp only [Value.slice.injEq] at hv
  obtain ⟨rfl, _, rfl⟩ := hv
  refine ⟨h1, hnc, hc, fun hn => ?_⟩
  rcases hr with h0 | ⟨g, cur, rfl, hb, hg, hcm, hcs, ht⟩
  · omega
  · refine ⟨g, 0, rfl, (Array.getElem?_eq_some_iff.1 hg).1, fun j u hu => ?_⟩
    have hrow : w.ownsRow B E s (.slice (some ⟨g, 0, none⟩) n c) n xs := ⟨h1, Or.inr ⟨g, c, cur, rfl, hb, hg, hnc, hcm, hcs, ht⟩⟩
    have hj : j < n * s := by
      have := (List.getElem?_eq_some_iff.1 hu).1
      rw [h1] at this; exact this
    have := World.ownsRow.cellAt hrow j hj
    rw [Nat.zero_add, this]; exact hu
theorem Own.cap {a : Option Addr} {c : Nat} (h : Own w B E s (.slice a n c) n xs) : n ≤ c ∧ c ≤ 9223372036854775807 := by
  obtain ⟨h1, a', c', hv, hnc, hr⟩ := h
  simp only [Value.slice.injEq] at hv
  obtain ⟨rfl, _, rfl⟩ := hv
  refine ⟨hnc, ?_⟩
  rcases hr with h0 | ⟨g, cur, rfl, hb, hg, hcm, _⟩
  · omega
  · unfold maxLen at hcm; omega
theorem Rd.of_Own {a : Option Addr} {c : Nat} (h : Own w B E s (.slice a n c) n xs) : Rd w a c s n xs := Rd.own h h.cap.2
/-- where there is room it is a row -/
theorem Own.row {a : Option Addr} {c : Nat} (h : Own w B E s (.slice a n c) n xs) (hc : c ≠ 0) : ∃ g, a = some ⟨g, 0, none⟩ ∧ w.ownsRow B E s (.slice (some ⟨g, 0, none⟩) n c) n xs := by
  obtain ⟨h1, a', c', hv, hnc, hr⟩ := h
  simp only [Value.slice.injEq] at hv
  obtain ⟨rfl, _, rfl⟩ := hv
  rcases hr with h0 | ⟨g, cur, rfl, hb, hg, hcm, hcs, ht⟩
  · exact absurd h0 hc
  · exact ⟨g, rfl, h1, Or.inr ⟨g, c, cur, rfl, hb, hg, hnc, hcm, hcs, ht⟩⟩
/-- the same slice, cut to its first m elements -/
theorem Own.cut {a : Option Addr} {c m : Nat} (h : Own w B E s (.slice a n c) n xs) (hm : m ≤ n) : Own w B E s (.slice a m c) m (xs.take (m * s)) := by
  obtain ⟨h1, a', c', hv, hnc, hr⟩ := h
  simp only [Value.slice.injEq] at hv
  obtain ⟨rfl, _, rfl⟩ := hv
  have hms : m * s ≤ n * s := Nat.mul_le_mul_right s hm
  refine ⟨by rw [List.length_take, h1]; omega, _, _, rfl, Nat.le_trans hm hnc, ?_⟩
  rcases hr with h0 | ⟨g, cur, rfl, hb, hg, hcm, hcs, ht⟩
  · exact Or.inl h0
  · refine Or.inr ⟨g, cur, rfl, hb, hg, hcm, hcs, ?_⟩
    rw [← ht, List.take_take, Nat.min_eq_left hms]
theorem Own.set_below (h : Own w B E s v n xs) {p : Addr} (hp : p.block < B) (u : Value) : Own (w.setCell p u) B E s v n xs := by
  obtain ⟨h1, a, c, rfl, hnc, h0 | ⟨g, cur, rfl, hb, hg, hr⟩⟩ := h
  · exact ⟨h1, a, c, rfl, hnc, Or.inl h0⟩
  · refine ⟨h1, _, _, rfl, hnc, Or.inr ⟨g, cur, rfl, hb, ?_, hr⟩⟩
    rw [Below.heap_setCell _ _ _ _ (by omega)]; exact hg
/-- two slices' memories are apart -/
def Off2 (v v2 : Value) : Prop := foot v = none ∨ foot v ≠ foot v2
theorem Off2.of {w2 : World} {B2 E2 s2 n2 : Nat} {v2 : Value} {xs2 : List Value} (h : Own w B E s v n xs) (h2 : Own w2 B2 E2 s2 v2 n2 xs2) (hle : w.heap.size ≤ B2) : Off2 v v2 := by
  cases hv : foot v with
  | none => exact Or.inl hv
  | some g =>
    refine Or.inr fun e => ?_
    rw [hv] at e
    have := (h.lt g hv).2
    have := (h2.lt g e.symm).1
    omega
theorem Off2.symm {v v2 : Value} (h : Off2 v v2) : Off2 v2 v := by
  rcases h with h | h
  · cases hv : foot v2 with
    | none => exact Or.inl hv
    | some g => exact Or.inr (by rw [h, hv]; simp)
  · exact Or.inr (fun e => h e.symm)
theorem Own.off {v2 : Value} (h : Own w B E s v n xs) (hg : w.grownBy w' (foot v2)) (ha : Off2 v v2) : Own w' B E s v n xs := h.kept hg ha
theorem below_foot {W wr w1 : World} {B0 : Nat} (hb : Below B0 W wr) (hown : Own wr B E s v n xs) (hB : B0 ≤ B) (hsz : B0 ≤ wr.heap.size) (hg : wr.grownBy w1 (foot v)) : Below B0 W w1 :=
  hb.grown hg hsz (fun k hk => Nat.le_trans hB (hown.lt k hk).1)

variable {P : Program}
theorem run_noNews (size m c : Nat) (a : Option Addr) (hm : m * size = 0) : (Builtin.firstCells size m (.slice a m c)).run P w = .ok #[] w := by
  cases a with
  | none => exact run_firstCells_none w size m m c
  | some b => exact run_firstCells_some (P := P) w size m b m c [] (by simp; omega) (fun j v h => by simp at h)

theorem At.add {b o : Nat} {xs : List Value} (h : At w b o xs) : ∀ j u, xs[j]? = some u → w.cell? ((⟨b, o, none⟩ : Addr).add j) = some u := fun j u hu => by
  have h2 := h j u hu
  unfold Addr.add; split
  · simp_all
  · exact h2
/-- append(v, src...): whatever v that the call owns, whatever slice src -/
theorem run_appL (t ty e : TypeId) (i : TypeInfo) (z : Value) (bytes : Nat) (ht : P.underlying t = some (.slice e)) (hi : P.info? e = some i) (hz : i.zero = some z)
    (hsize : i.size = s) (hby : i.bytes = bytes) (hzs : z.cells.size = s) (hsz : 0 < s)
    (h : Own w B e s v n xs) (a : Option Addr) (m c : Nat) (news : List Value) (R : Rd w a c s m news) (h1 : ∀ u ∈ news, u.oneCell' = true)
    (h63 : n + m ≤ maxLen) (hbytes : (n + m) * bytes ≤ 140737488355328) (hbase : B ≤ w.heap.size) :
    ∃ v' w', (Builtin.append_ #[t, t] ty #[v, .slice a m c]).run P w = .ok v' w' ∧ Own w' B e s v' (n + m) (xs ++ news) ∧ w.grownBy w' (foot v) ∧ (∀ k, foot v' = some k → foot v = some k ∨ k = w.heap.size) := by
  obtain ⟨hl, va, vc, rfl, hnc, hr⟩ := h
  by_cases hm : m = 0
  · subst hm
    have hn : news = [] := List.eq_nil_of_length_eq_zero (by rw [R.len]; simp)
    subst hn
    have hf : (Builtin.firstCells s 0 (.slice a 0 c)).run P w = .ok #[] w := run_noNews s 0 c a (by simp)
    refine ⟨.slice va n vc, w, ?_, by rw [Nat.add_zero, List.append_nil]; exact ⟨hl, va, vc, rfl, hnc, hr⟩, World.grownBy.refl _ _, fun k h => Or.inl h⟩
    subst hsize
    cases va with
    | none => simp [Builtin.append_, run_underlying ht, sizeOf, typeInfo, hi, Builtin.lenOf, hf, hnc]
    | some g => simp [Builtin.append_, run_underlying ht, sizeOf, typeInfo, hi, Builtin.lenOf, hf, hnc, storeCells]
  · obtain ⟨b, o, rfl, hb, hat⟩ := R.ptr (by omega)
    by_cases hc : vc = 0
    · subst hc
      obtain rfl : n = 0 := by omega
      obtain rfl : xs = [] := List.eq_nil_of_length_eq_zero (by rw [hl]; simp)
      cases va with
      | none =>
        obtain ⟨v', w', g1, g2, g3, _, g5⟩ := run_append_own_at (P := P) w B t ty e i z s bytes ht hi hz hsize hby hzs hsz (.slice none 0 0) 0 [] (World.ownsRow_nil _ _ _ _) ⟨b, o, none⟩ m c news R.len hat.add h1 h63 hbytes hbase
        refine ⟨v', w', g1, Own.of_row g2, by simpa [foot, Value.ownBlock] using g3, fun k hk => ?_⟩
        have h1 := foot_own hk
        rcases g5 with g5 | g5
        · rw [h1] at g5; simp [Value.ownBlock] at g5
        · rw [h1] at g5; simp at g5; exact Or.inr g5
      | some d =>
        subst hsize
        subst hby
        have h63' : m ≤ 9223372036854775807 := by unfold maxLen at h63; omega
        have hr2 := run_append_grow (P := P) w t ty e i z ht hi hz d 0 0 [] (by simp) (fun j v h => by simp at h) ⟨b, o, none⟩ m c news R.len hat.add (by omega) (by omega) (growslice_fits (by omega) hbytes)
        have hge := grownCap_ge w (0 + m) 0 e
        have hcm : grownCap w (0 + m) 0 e ≤ maxLen := grownCap_le_maxLen w (0 + m) 0 e h63
        refine ⟨_, _, hr2, ⟨?_, _, _, rfl, hge, Or.inr ⟨w.heap.size, _, rfl, hbase, heap_alloc_new w.drew _, hcm, ?_, ?_⟩⟩, ?_⟩
        · simp [R.len]
        · simp only [Array.size_append, List.size_toArray, size_zeroCells, hzs, R.len, List.length_nil, Nat.zero_add, ← Nat.add_mul]
          congr 1
          simp only [Nat.zero_add] at hge
          omega
        · simp only [Array.toList_append, List.append_assoc, List.nil_append, Nat.zero_add]
          rw [← R.len]
          exact List.take_left
        · exact ⟨⟨rfl, rfl, rfl, by simp, fun k hk _ => Below.heap_alloc w.drew _ k hk⟩, fun k hk => Or.inr (by have := foot_own hk; simp [Value.ownBlock] at this; exact this.symm)⟩
    · obtain ⟨g, rfl, hrow⟩ := Own.row (⟨hl, va, vc, rfl, hnc, hr⟩ : Own w B e s (.slice va n vc) n xs) hc
      obtain ⟨v', w', g1, g2, g3, _, g5⟩ := run_append_own_at (P := P) w B t ty e i z s bytes ht hi hz hsize hby hzs hsz _ n xs hrow ⟨b, o, none⟩ m c news R.len hat.add h1 h63 hbytes hbase
      refine ⟨v', w', g1, Own.of_row g2, by simpa [foot, Value.ownBlock, hc] using g3, fun k hk => ?_⟩
      have h1 := foot_own hk
      rcases g5 with g5 | g5
      · rw [h1] at g5; simp [Value.ownBlock] at g5; exact Or.inl (by simp [foot, hc, g5])
      · rw [h1] at g5; simp at g5; exact Or.inr g5
theorem run_app (t ty e : TypeId) (i : TypeInfo) (z : Value) (bytes : Nat) (ht : P.underlying t = some (.slice e)) (hi : P.info? e = some i) (hz : i.zero = some z)
    (hsize : i.size = s) (hby : i.bytes = bytes) (hzs : z.cells.size = s) (hsz : 0 < s)
    (h : Own w B e s v n xs) (a : Option Addr) (m c : Nat) (news : List Value) (R : Rd w a c s m news) (h1 : ∀ u ∈ news, u.oneCell' = true)
    (h63 : n + m ≤ maxLen) (hbytes : (n + m) * bytes ≤ 140737488355328) (hbase : B ≤ w.heap.size) :
    ∃ v' w', (Builtin.append_ #[t, t] ty #[v, .slice a m c]).run P w = .ok v' w' ∧ Own w' B e s v' (n + m) (xs ++ news) ∧ w.grownBy w' (foot v) := by
  obtain ⟨v', w', h1, h2, h3, _⟩ := run_appL t ty e i z bytes ht hi hz hsize hby hzs hsz h a m c news R h1 h63 hbytes hbase
  exact ⟨v', w', h1, h2, h3⟩
/-- append(v, src...) where there is room: in place; src may lie in v's own row -/
theorem run_app_room (t ty e : TypeId) (i : TypeInfo) (ht : P.underlying t = some (.slice e)) (hi : P.info? e = some i)
    (hsize : i.size = s) {va : Option Addr} {vc : Nat} (h : Own w B e s (.slice va n vc) n xs) (a : Option Addr) (m c : Nat) (news : List Value) (R : Rd w a c s m news) (h1 : ∀ u ∈ news, u.oneCell' = true) (hroom : n + m ≤ vc) :
    ∃ w', (Builtin.append_ #[t, t] ty #[.slice va n vc, .slice a m c]).run P w = .ok (.slice va (n + m) vc) w' ∧ Own w' B e s (.slice va (n + m) vc) (n + m) (xs ++ news) ∧ w.grownBy w' (foot (.slice va n vc)) := by
  by_cases hm : m = 0
  · subst hm
    have hn : news = [] := List.eq_nil_of_length_eq_zero (by rw [R.len]; simp)
    subst hn
    have hf : (Builtin.firstCells s 0 (.slice a 0 c)).run P w = .ok #[] w := run_noNews s 0 c a (by simp)
    refine ⟨w, ?_, by rw [Nat.add_zero, List.append_nil]; exact h, World.grownBy.refl _ _⟩
    subst hsize
    have hnc : n ≤ vc := by omega
    cases va with
    | none => simp [Builtin.append_, run_underlying ht, sizeOf, typeInfo, hi, Builtin.lenOf, hf, hnc]
    | some g => simp [Builtin.append_, run_underlying ht, sizeOf, typeInfo, hi, Builtin.lenOf, hf, hnc, storeCells]
  · have hc : vc ≠ 0 := by omega
    obtain ⟨b, o, rfl, hb, hat⟩ := R.ptr (by omega)
    obtain ⟨hl, va', vc', hv, hnc, hr⟩ := h
    simp only [Value.slice.injEq] at hv
    obtain ⟨rfl, _, rfl⟩ := hv
    rcases hr with h0 | ⟨g, cur, rfl, hb, hg, hcm, hcs, htake⟩
    · exact absurd h0 hc
    · subst hsize
      have hfit : n * i.size + news.length ≤ cur.size := by rw [R.len, hcs, ← Nat.add_mul]; exact Nat.mul_le_mul_right _ hroom
      have hr := run_append_room (P := P) w t ty e i ht hi g n vc cur hg ⟨b, o, none⟩ m c news R.len hat.add h1 hroom hfit
      refine ⟨_, hr, ⟨?_, _, _, rfl, hroom, Or.inr ⟨g, _, rfl, hb, setRow_heap w g cur _ e _ hg, hcm, ?_, ?_⟩⟩, ⟨rfl, rfl, rfl, by simp, fun k _ hk => setRow_other w g k _ (fun e => hk (by simp [foot, e, hc]))⟩⟩
      · rw [List.length_append, hl, R.len, Nat.add_mul]
      · simp only [List.size_toArray, List.length_append, List.length_take, List.length_drop, Array.length_toList]
        omega
      · have hlen : (xs ++ news).length = (n + m) * i.size := by rw [List.length_append, hl, R.len, Nat.add_mul]
        rw [htake, ← hlen]
        exact List.take_left
theorem step_app_room {ops : Array Oper} {o : Oper} {a : Act} {K : Act → World → Prop} {Q : Exit → Act → World → Prop} {Els : Prop} (hgd : o.guard = none) (sl x : Operand) (t : TypeId)
    (ho : o.op = .call { callee := .builtin .append, args := #[sl, x], argTypes := #[t, t] })
    (e : TypeId) (i : TypeInfo) (ht : P.underlying t = some (.slice e)) (hi : P.info? e = some i) (hsize : i.size = s)
    {va : Option Addr} {vc : Nat} (hs : a.eval sl = .slice va n vc) (hown : Own w B e s (.slice va n vc) n xs) (ra : Option Addr) (m c : Nat) (news : List Value) (hx : a.eval x = .slice ra m c) (R : Rd w ra c s m news) (h1 : ∀ u ∈ news, u.oneCell' = true) (hroom : n + m ≤ vc)
    (h : ∀ w', Own w' B e s (.slice va (n + m) vc) (n + m) (xs ++ news) → w.grownBy w' (foot (.slice va n vc)) → K (a.put o.dst (.slice va (n + m) vc)) w') :
    if Region.wanted o (yielded ops a.tmps) = true then Oper.wp P o a w K Q else Els := by
  have hw : Region.wanted o (yielded ops a.tmps) = true := by simp [Region.wanted, hgd]
  rw [if_pos hw]
  obtain ⟨w', hr, h2, h3⟩ := run_app_room (P := P) t o.type e i ht hi hsize hown ra m c news R h1 hroom
  unfold Oper.wp execOp
  simp only [ho, resolve, invoke, builtin, Sem.run_bind, Sem.run_pure, Result.andThen_ok, List.map_toArray, List.map_cons, List.map_nil, hs, hx, hr]
  exact h w' h2 h3
/-- clear(v[n:n+k]): behind the first n elements -/
theorem run_clr {k : Nat} (t ty e : TypeId) (z : Value) (ht : P.underlying t = some (.slice e)) (hz : ∀ w, (zeroValue e).run P w = .ok z w) (hzs : z.cells.size = s) (h1 : ∀ u ∈ (Builtin.zeroCells z.cells k).toList, u.oneCell' = true)
    {g vc : Nat} (h : Own w B e s (.slice (some ⟨g, 0, none⟩) n vc) n xs) (o c : Nat) (ho : o = n * s) (hroom : n + k ≤ vc) (hk : 0 < k) :
    ∃ w', (Builtin.clear_ #[t] ty #[.slice (some ⟨g, o, none⟩) k c]).run P w = .ok (.tuple #[]) w' ∧ Own w' B e s (.slice (some ⟨g, 0, none⟩) n vc) n xs ∧ w.grownBy w' (foot (.slice (some ⟨g, 0, none⟩) n vc)) := by
  subst ho
  obtain ⟨hl, va', vc', hv, hnc, hr⟩ := h
  simp only [Value.slice.injEq, Option.some.injEq] at hv
  obtain ⟨rfl, _, rfl⟩ := hv
  have hc : vc ≠ 0 := by omega
  rcases hr with h0 | ⟨g', cur, hg', hb, hg, hcm, hcs, htake⟩
  · exact absurd h0 hc
  · simp only [Option.some.injEq, Addr.mk.injEq, and_true, true_and] at hg'
    subst hg'
    have hlen : (Builtin.zeroCells z.cells k).toList.length = k * s := by rw [Array.length_toList, size_zeroCells, hzs]
    have hfit : n * s + 0 + (Builtin.zeroCells z.cells k).toList.length ≤ cur.size := by
      rw [hlen, hcs, Nat.add_zero, ← Nat.add_mul]; exact Nat.mul_le_mul_right _ hroom
    have hst := run_storeCells_at P g (n * s) e _ 0 cur w hg hfit h1
    have hrun : (Builtin.clear_ #[t] ty #[.slice (some ⟨g, n * s, none⟩) k c]).run P w = .ok (.tuple #[]) (w.setRow g (cur.toList.take (n * s + 0) ++ (Builtin.zeroCells z.cells k).toList ++ cur.toList.drop (n * s + 0 + (Builtin.zeroCells z.cells k).toList.length)).toArray) := by
      obtain ⟨k', rfl⟩ : ∃ k', k = k' + 1 := ⟨k - 1, by omega⟩
      simp [Builtin.clear_, run_underlying ht, hz, hst]
    refine ⟨_, hrun, ⟨hl, _, _, rfl, hnc, Or.inr ⟨g, _, rfl, hb, setRow_heap w g cur _ e _ hg, hcm, ?_, ?_⟩⟩, ⟨rfl, rfl, rfl, by simp, fun k' _ hk' => setRow_other w g k' _ (fun e => hk' (by simp [foot, e, hc]))⟩⟩
    · simp only [List.size_toArray, List.length_append, List.length_take, List.length_drop, Array.length_toList] at hfit ⊢
      omega
    · have hcl : (cur.toList.take (n * s)).length = n * s := by rw [htake, hl]
      simp only [Nat.add_zero, List.append_assoc]
      rw [List.take_append, hcl, Nat.sub_self, List.take_zero, List.append_nil, List.take_take, Nat.min_self]
      exact htake
theorem wpList_clr {ops : Array Oper} {rest : List Oper} {o : Oper} {a : Act} {Q : Exit → Act → World → Prop} (hgd : o.guard = none) (x : Operand) (t : TypeId)
    (ho : o.op = .call { callee := .builtin .clear, args := #[x], argTypes := #[t] })
    (e : TypeId) (z : Value) (ht : P.underlying t = some (.slice e)) (hz : ∀ w, (zeroValue e).run P w = .ok z w) (hzs : z.cells.size = s) {k : Nat} (h1 : ∀ u ∈ (Builtin.zeroCells z.cells k).toList, u.oneCell' = true)
    {g vc : Nat} (hown : Own w B e s (.slice (some ⟨g, 0, none⟩) n vc) n xs) (off c : Nat) (hx : a.eval x = .slice (some ⟨g, off, none⟩) k c) (hoff : off = n * s) (hroom : n + k ≤ vc) (hk : 0 < k)
    (h : ∀ w', Own w' B e s (.slice (some ⟨g, 0, none⟩) n vc) n xs → w.grownBy w' (foot (.slice (some ⟨g, 0, none⟩) n vc)) → wpList P ops Q rest (a.put o.dst (.tuple #[])) w') : wpList P ops Q (o :: rest) a w :=
  wpList_plain hgd fun _ hK => by
    obtain ⟨w', hr, h2, h3⟩ := run_clr (P := P) t o.type e z ht hz hzs h1 hown off c hoff hroom hk
    unfold Oper.wp execOp
    simp only [ho, resolve, invoke, builtin, Sem.run_bind, Sem.run_pure, Result.andThen_ok, List.map_toArray, List.map_cons, List.map_nil, hx, hr]
    exact hK _ _ (h w' h2 h3)
theorem wp_app {o : Oper} {a : Act} {K : Act → World → Prop} {Q : Exit → Act → World → Prop} (sl x : Operand) (t : TypeId)
    (ho : o.op = .call { callee := .builtin .append, args := #[sl, x], argTypes := #[t, t] })
    (e : TypeId) (i : TypeInfo) (z : Value) (bytes : Nat) (ht : P.underlying t = some (.slice e)) (hi : P.info? e = some i) (hz : i.zero = some z)
    (hsize : i.size = s) (hby : i.bytes = bytes) (hzs : z.cells.size = s) (hsz : 0 < s)
    (hs : a.eval sl = v) (hown : Own w B e s v n xs) (ra : Option Addr) (m c : Nat) (news : List Value) (hx : a.eval x = .slice ra m c) (R : Rd w ra c s m news) (h1 : ∀ u ∈ news, u.oneCell' = true)
    (hn : n + m ≤ 4194304) (hb2 : bytes ≤ 1024) (hbase : B ≤ w.heap.size)
    (h : ∀ v' w', Own w' B e s v' (n + m) (xs ++ news) → w.grownBy w' (foot v) → K (a.put o.dst v') w') : o.wp P a w K Q := by
  obtain ⟨v', w', hr, h2, h3⟩ := run_app (P := P) t o.type e i z bytes ht hi hz hsize hby hzs hsz hown ra m c news R h1 (by unfold maxLen; omega)
    (Nat.le_trans (Nat.mul_le_mul hn hb2) (by omega)) hbase
  unfold Oper.wp execOp
  simp only [ho, resolve, invoke, builtin, Sem.run_bind, Sem.run_pure, Result.andThen_ok, List.map_toArray, List.map_cons, List.map_nil, hs, hx, hr]
  exact h v' w' h2 h3
theorem wpList_app {ops : Array Oper} {rest : List Oper} {o : Oper} {a : Act} {Q : Exit → Act → World → Prop} (hgd : o.guard = none) (sl x : Operand) (t : TypeId)
    (ho : o.op = .call { callee := .builtin .append, args := #[sl, x], argTypes := #[t, t] })
    (e : TypeId) (i : TypeInfo) (z : Value) (bytes : Nat) (ht : P.underlying t = some (.slice e)) (hi : P.info? e = some i) (hz : i.zero = some z)
    (hsize : i.size = s) (hby : i.bytes = bytes) (hzs : z.cells.size = s) (hsz : 0 < s)
    (hs : a.eval sl = v) (hown : Own w B e s v n xs) (ra : Option Addr) (m c : Nat) (news : List Value) (hx : a.eval x = .slice ra m c) (R : Rd w ra c s m news) (h1 : ∀ u ∈ news, u.oneCell' = true)
    (hn : n + m ≤ 4194304) (hb2 : bytes ≤ 1024) (hbase : B ≤ w.heap.size)
    (h : ∀ g q w', Own w' B e s (.slice g (n + m) q) (n + m) (xs ++ news) → w.grownBy w' (foot v) → wpList P ops Q rest (a.put o.dst (.slice g (n + m) q)) w') : wpList P ops Q (o :: rest) a w :=
  wpList_plain hgd fun _ hK => wp_app sl x t ho e i z bytes ht hi hz hsize hby hzs hsz hs hown ra m c news hx R h1 hn hb2 hbase fun v' w' h2 h3 => hK _ _ (by obtain ⟨g, q, rfl⟩ := h2.shape; exact h g q w' h2 h3)
/-- the same, and where the new slice lies -/
theorem wpList_appL {ops : Array Oper} {rest : List Oper} {o : Oper} {a : Act} {Q : Exit → Act → World → Prop} (hgd : o.guard = none) (sl x : Operand) (t : TypeId)
    (ho : o.op = .call { callee := .builtin .append, args := #[sl, x], argTypes := #[t, t] })
    (e : TypeId) (i : TypeInfo) (z : Value) (bytes : Nat) (ht : P.underlying t = some (.slice e)) (hi : P.info? e = some i) (hz : i.zero = some z)
    (hsize : i.size = s) (hby : i.bytes = bytes) (hzs : z.cells.size = s) (hsz : 0 < s)
    (hs : a.eval sl = v) (hown : Own w B e s v n xs) (ra : Option Addr) (m c : Nat) (news : List Value) (hx : a.eval x = .slice ra m c) (R : Rd w ra c s m news) (h1 : ∀ u ∈ news, u.oneCell' = true)
    (hn : n + m ≤ 4194304) (hb2 : bytes ≤ 1024) (hbase : B ≤ w.heap.size)
    (h : ∀ g q w', Own w' B e s (.slice g (n + m) q) (n + m) (xs ++ news) → w.grownBy w' (foot v) → (∀ k, foot (.slice g (n + m) q) = some k → foot v = some k ∨ k = w.heap.size) → wpList P ops Q rest (a.put o.dst (.slice g (n + m) q)) w') : wpList P ops Q (o :: rest) a w :=
  wpList_plain hgd fun _ hK => by
    obtain ⟨v', w', hr, h2, h3, h4⟩ := run_appL (P := P) t o.type e i z bytes ht hi hz hsize hby hzs hsz hown ra m c news R h1 (by unfold maxLen; omega)
      (Nat.le_trans (Nat.mul_le_mul hn hb2) (by omega)) hbase
    unfold Oper.wp execOp
    simp only [ho, resolve, invoke, builtin, Sem.run_bind, Sem.run_pure, Result.andThen_ok, List.map_toArray, List.map_cons, List.map_nil, hs, hx, hr]
    obtain ⟨g, q, rfl⟩ := h2.shape
    exact hK _ _ (h g q w' h2 h3 h4)
theorem step_app {ops : Array Oper} {o : Oper} {a : Act} {K : Act → World → Prop} {Q : Exit → Act → World → Prop} {Els : Prop} (hgd : o.guard = none) (sl x : Operand) (t : TypeId)
    (ho : o.op = .call { callee := .builtin .append, args := #[sl, x], argTypes := #[t, t] })
    (e : TypeId) (i : TypeInfo) (z : Value) (bytes : Nat) (ht : P.underlying t = some (.slice e)) (hi : P.info? e = some i) (hz : i.zero = some z)
    (hsize : i.size = s) (hby : i.bytes = bytes) (hzs : z.cells.size = s) (hsz : 0 < s)
    (hs : a.eval sl = v) (hown : Own w B e s v n xs) (ra : Option Addr) (m c : Nat) (news : List Value) (hx : a.eval x = .slice ra m c) (R : Rd w ra c s m news) (h1 : ∀ u ∈ news, u.oneCell' = true)
    (hn : n + m ≤ 4194304) (hb2 : bytes ≤ 1024) (hbase : B ≤ w.heap.size)
    (h : ∀ g q w', Own w' B e s (.slice g (n + m) q) (n + m) (xs ++ news) → w.grownBy w' (foot v) → K (a.put o.dst (.slice g (n + m) q)) w') :
    if Region.wanted o (yielded ops a.tmps) = true then Oper.wp P o a w K Q else Els := by
  have hw : Region.wanted o (yielded ops a.tmps) = true := by simp [Region.wanted, hgd]
  rw [if_pos hw]
  exact wp_app sl x t ho e i z bytes ht hi hz hsize hby hzs hsz hs hown ra m c news hx R h1 hn hb2 hbase fun v' w' h2 h3 => by obtain ⟨g, q, rfl⟩ := h2.shape; exact h g q w' h2 h3
end
theorem one_flat {α : Type} {enc : α → List Value} (h : ∀ x, ∀ u ∈ enc x, u.oneCell' = true) (l : List α) : ∀ u ∈ l.flatMap enc, u.oneCell' = true := fun u hu => by
  obtain ⟨x, _, h2⟩ := List.mem_flatMap.1 hu
  exact h x u h2
theorem Own.alloc1 {w : World} {B E s n : Nat} {v : Value} {xs : List Value} (h : Own w B E s v n xs) (o : Obj) : Own (w.alloc o) B E s v n xs := h.ext ((Below.refl _ _).alloc (Nat.le_refl _) _)
theorem Own.drewN1 {w : World} {B E s n m : Nat} {v : Value} {xs : List Value} (h : Own w B E s v n xs) : Own (w.drewN m) B E s v n xs := h.ext (below_drewN (Below.refl _ _) _)
theorem Own.drew1 {w : World} {B E s n : Nat} {v : Value} {xs : List Value} (h : Own w B E s v n xs) : Own w.drew B E s v n xs := h.ext (Below.refl _ _).drew
theorem Own.set_off {w : World} {B E s n : Nat} {v : Value} {xs : List Value} (h : Own w B E s v n xs) {p : Addr} (hp : foot v ≠ some p.block) (u : Value) : Own (w.setCell p u) B E s v n xs :=
  h.kept (row := some p.block) ⟨rfl, rfl, rfl, by simp [World.setCell], fun k _ hk => Below.heap_setCell _ _ _ _ (fun e => hk (by rw [e]))⟩ (Or.inr hp)
theorem foot_ne {a : Option Addr} {n m c b : Nat} (h : foot (.slice a n c) ≠ some b) : foot (.slice a m c) ≠ some b := by rw [foot_len a m n c]; exact h
/-- one cell of the row is written -/
theorem Own.cell1 {w : World} {B E s n g c : Nat} {xs : List Value} (h : Own w B E s (.slice (some ⟨g, 0, none⟩) n c) n xs) (hc : c ≠ 0) (p : Nat) (u : Value) :
    Own (w.setCell ⟨g, p, none⟩ u) B E s (.slice (some ⟨g, 0, none⟩) n c) n (xs.set p u) ∧ w.grownBy (w.setCell ⟨g, p, none⟩ u) (foot (.slice (some ⟨g, 0, none⟩) n c)) := by
  obtain ⟨g', hg', hrow⟩ := h.row hc
  simp only [Option.some.injEq, Addr.mk.injEq, and_true] at hg'
  subst hg'
  obtain ⟨h1, h2⟩ := World.ownsRow.stored hrow p u
  exact ⟨Own.of_row h1, by simpa [foot, hc, Value.ownBlock] using h2⟩
theorem Own.put1 {w : World} {B E s n g c p : Nat} {xs ys : List Value} {u : Value} (h : Own w B E s (.slice (some ⟨g, 0, none⟩) n c) n xs) (hc : c ≠ 0) (he : xs.set p u = ys) : Own (w.setCell ⟨g, p, none⟩ u) B E s (.slice (some ⟨g, 0, none⟩) n c) n ys := he ▸ (h.cell1 hc p u).1
theorem Own.slot {w : World} {B E s n g c : Nat} {xs : List Value} (h : Own w B E s (.slice (some ⟨g, 0, none⟩) n c) n xs) (j : Nat) (hj : j < n * s) : (∃ u, w.cell? ⟨g, j, none⟩ = some u) ∧ w.frozen? ⟨g, j, none⟩ = false := by
  have hc : c ≠ 0 := by
    intro h0
    have := h.cap
    have hn : n = 0 := by omega
    subst hn
    simp at hj
  obtain ⟨g', hg', hrow⟩ := h.row hc
  simp only [Option.some.injEq, Addr.mk.injEq, and_true] at hg'
  subst hg'
  exact own_slot hrow j hj
theorem flat_set1 {α : Type} {enc : α → List Value} {s : Nat} (hs : ∀ x, (enc x).length = s) (l : List α) (k j : Nat) (hk : k < l.length) (hj : j < s) (u : Value) (x : α) (hx : (enc l[k]).set j u = enc x) : (l.flatMap enc).set (k * s + j) u = (l.set k x).flatMap enc := by
  have h1 : l = l.take k ++ (l[k] :: l.drop (k + 1)) := by simp
  have h2 : l.set k x = l.take k ++ (x :: l.drop (k + 1)) := by rw [List.set_eq_take_append_cons_drop, if_pos hk]
  have h3 : ((l.take k).flatMap enc).length = k * s := by rw [flat_len hs, List.length_take, Nat.min_eq_left (by omega)]
  rw [h2]
  conv => lhs; rw [h1]
  rw [List.flatMap_append, List.flatMap_append, List.flatMap_cons, List.flatMap_cons, List.set_append_right _ _ (by omega), h3, Nat.add_sub_cancel_left, List.set_append_left _ _ (by rw [hs]; exact hj), hx]
/-- a slice literal's own cells -/
theorem Rd.lit (w : World) (cs : Array Value) (E n s g : Nat) (hg : w.heap.size = g) (hl : cs.toList.length = n * s) (hn : n ≤ 9223372036854775807) : Rd (w.alloc (.cells cs E)) (some ⟨g, 0, none⟩) n s n cs.toList :=
  ⟨hl, Nat.le_refl _, hn, fun _ => ⟨g, 0, rfl, by subst hg; simp, at_alloc hg rfl⟩⟩
theorem keep_set {w : World} {b o b' o' : Nat} {u v : Value} (h : w.cell? ⟨b, o, none⟩ = some v) (hne : b' ≠ b) : (w.setCell ⟨b', o', none⟩ u).cell? ⟨b, o, none⟩ = some v := by
  exact (World.cell?_of_block (w := w) (Below.heap_setCell w _ u b (fun e => hne e.symm))).trans h
theorem keep_alloc {w : World} {b o : Nat} {v : Value} {x : Obj} (h : w.cell? ⟨b, o, none⟩ = some v) : (w.alloc x).cell? ⟨b, o, none⟩ = some v :=
  ((Below.refl w.heap.size w).alloc (Nat.le_refl _) x).cell (p := ⟨b, o, none⟩) (World.block_lt_of_cell? w _ h) |>.trans h
theorem keep_drewN {w : World} {b o n : Nat} {v : Value} (h : w.cell? ⟨b, o, none⟩ = some v) : (w.drewN n).cell? ⟨b, o, none⟩ = some v := h
theorem keepf_drewN {w : World} {b o n : Nat} (h : w.frozen? ⟨b, o, none⟩ = false) : (w.drewN n).frozen? ⟨b, o, none⟩ = false := h
theorem keepf_drew {w : World} {b o : Nat} (h : w.frozen? ⟨b, o, none⟩ = false) : w.drew.frozen? ⟨b, o, none⟩ = false := h
theorem keepf_set {w : World} {b o b' o' : Nat} {u : Value} (h : w.frozen? ⟨b, o, none⟩ = false) (hne : b' ≠ b) : (w.setCell ⟨b', o', none⟩ u).frozen? ⟨b, o, none⟩ = false :=
  (World.frozen?_of_block (w := w) (Below.heap_setCell w _ u b (fun e => hne e.symm))).trans h
theorem keepf_alloc {w : World} {b o : Nat} {x : Obj} (h : w.frozen? ⟨b, o, none⟩ = false) (hb : b < w.heap.size) : (w.alloc x).frozen? ⟨b, o, none⟩ = false :=
  (((Below.refl w.heap.size w).alloc (Nat.le_refl _) x).frozen (p := ⟨b, o, none⟩) hb).trans h
theorem heap_alloc_size (w : World) (o : Obj) : (w.alloc o).heap.size = w.heap.size + 1 := by simp
theorem size_drewN (w : World) (n : Nat) : (w.drewN n).heap.size = w.heap.size := rfl
theorem keep_drew {w : World} {b o : Nat} {v : Value} (h : w.cell? ⟨b, o, none⟩ = some v) : w.drew.cell? ⟨b, o, none⟩ = some v := h
theorem grown_al {a w : World} {row : Option Nat} (h : a.grownBy w row) (o : Obj) : a.grownBy (w.alloc o) row := grown_trans h (World.grownBy_alloc w o row)
theorem grown_dr {a w : World} {row : Option Nat} (h : a.grownBy w row) : a.grownBy w.drew row := grown_trans h (grown_ext (Below.refl _ _).drew)
theorem grown_drN {a w : World} {row : Option Nat} {n : Nat} (h : a.grownBy w row) : a.grownBy (w.drewN n) row := grown_trans h (grown_ext (below_drewN (Below.refl _ _) _))
theorem grown_st {a w : World} {row : Option Nat} (h : a.grownBy w row) {p : Addr} (hp : a.heap.size ≤ p.block) (u : Value) : a.grownBy (w.setCell p u) row :=
  ⟨h.os, h.tape, h.output, by simpa [World.setCell] using h.size, fun k hk hne => (Below.heap_setCell _ _ _ _ (by omega)).trans (h.block k hk hne)⟩
theorem grown_so {a w : World} {row : Option Nat} (h : a.grownBy w row) {p : Addr} (hp : row = some p.block) (u : Value) : a.grownBy (w.setCell p u) row :=
  ⟨h.os, h.tape, h.output, by simpa [World.setCell] using h.size, fun k hk hne => (Below.heap_setCell _ _ _ _ (fun e => hne (by rw [hp, e]))).trans (h.block k hk hne)⟩
/-- v's room is not in block b -/
def FOff (b : Nat) (v : Value) : Prop := foot v ≠ some b
theorem FOff.lt {w : World} {B E s n b : Nat} {v : Value} {xs : List Value} (h : Own w B E s v n xs) (hb : b < B) : FOff b v := fun e => by have := (h.lt b e).1; omega
theorem FOff.ge {w : World} {B E s n b : Nat} {v : Value} {xs : List Value} (h : Own w B E s v n xs) (hb : w.heap.size ≤ b) : FOff b v := fun e => by have := (h.lt b e).2; omega
theorem grown_foff {w w' : World} {v : Value} (h : w.grownBy w' (foot v)) : (∀ b o, b < w.heap.size → FOff b v → w'.cell? ⟨b, o, none⟩ = w.cell? ⟨b, o, none⟩) ∧ (∀ b o, b < w.heap.size → FOff b v → w'.frozen? ⟨b, o, none⟩ = w.frozen? ⟨b, o, none⟩) :=
  ⟨fun b o hb hne => World.cell?_of_block (w := w) (h.block b hb (fun e => hne e.symm)), fun b o hb hne => World.frozen?_of_block (w := w) (h.block b hb (fun e => hne e.symm))⟩
theorem grown_cell {w w' : World} {row : Option Nat} (hg : w.grownBy w' row) {b o : Nat} {u : Value} (h : w.cell? ⟨b, o, none⟩ = some u) (hne : row ≠ some b) : w'.cell? ⟨b, o, none⟩ = some u := hg.cell h (fun e => hne e.symm)
theorem grown_frz {w w' : World} {row : Option Nat} (hg : w.grownBy w' row) {b o : Nat} (hb : b < w.heap.size) (h : w.frozen? ⟨b, o, none⟩ = false) (hne : row ≠ some b) : w'.frozen? ⟨b, o, none⟩ = false :=
  (World.frozen?_of_block (w := w) (hg.block b hb (fun e => hne e.symm))).trans h
theorem Own.ne_lt {w : World} {B E s n b : Nat} {v : Value} {xs : List Value} (h : Own w B E s v n xs) (hb : b < B) : foot v ≠ some b := fun e => by have := (h.lt b e).1; omega
theorem Own.ne_ge {w : World} {B E s n b : Nat} {v : Value} {xs : List Value} (h : Own w B E s v n xs) (hb : w.heap.size ≤ b) : foot v ≠ some b := fun e => by have := (h.lt b e).2; omega
/-- what a drawn region keeps: below block B all is as in W: cells and marks -/
abbrev SK (B : Nat) (W w' : World) : Prop := SB B W w' ∧ (∀ b o, b < B → w'.cell? ⟨b, o, none⟩ = W.cell? ⟨b, o, none⟩) ∧ (∀ b o, b < B → w'.frozen? ⟨b, o, none⟩ = W.frozen? ⟨b, o, none⟩)
theorem SK.of {B : Nat} {W w' : World} (h : SB B W w') : SK B W w' := ⟨h, fun b o hb => h.cells b o hb, fun b o hb => h.frozen b o hb⟩
theorem SK.beg (B : Nat) (W : World) (hB : B ≤ W.heap.size) : SK B W W.drew := .of ⟨(Below.refl _ _).drew, hB⟩
theorem SK.alloc {B : Nat} {W w' : World} (h : SK B W w') (o : Obj) : SK B W (w'.alloc o) := .of ⟨h.1.1.alloc h.1.2 _, by have := h.1.2; simp; omega⟩
theorem SK.set {B : Nat} {W w' : World} (h : SK B W w') {p : Addr} (hp : B ≤ p.block) (u : Value) : SK B W (w'.setCell p u) := .of ⟨h.1.1.setCell hp _, by simpa using h.1.2⟩
theorem SK.ext {B : Nat} {W w' w1 : World} (h : SK B W w') (h2 : Below w'.heap.size w' w1) : SK B W w1 := .of ⟨Below.extB h.1.1 h2 h.1.2, Nat.le_trans h.1.2 h2.size⟩
theorem SK.foot {B B2 E s n : Nat} {W w' w1 : World} {v : Value} {xs : List Value} (h : SK B W w') (hown : Own w' B2 E s v n xs) (hB : B ≤ B2) (hg : w'.grownBy w1 (foot v)) : SK B W w1 := .of ⟨below_foot h.1.1 hown hB h.1.2 hg, Nat.le_trans h.1.2 hg.size⟩
/-- a slice cut at its end -/
theorem Rd.takeAt {α : Type} {enc : α → List Value} {s : Nat} (hs : ∀ x, (enc x).length = s) {w : World} {a : Option Addr} {c : Nat} {l : List α} (h : Rd w a c s l.length (l.flatMap enc)) (k : Nat) (hk : k ≤ l.length) : Rd w a c s k ((l.take k).flatMap enc) := by
  have := h.pre hs k hk
  rwa [List.length_take, Nat.min_eq_left hk] at this
/-- a slice cut at its front -/
theorem Rd.dropAt {α : Type} {enc : α → List Value} {s : Nat} (hs : ∀ x, (enc x).length = s) {w : World} {b o c : Nat} {l : List α} {A : Option Addr} (h : Rd w (some ⟨b, o, none⟩) c s l.length (l.flatMap enc)) (k : Nat) (hk : k ≤ l.length) (hA : k < l.length → A = some ⟨b, o + k * s, none⟩) (m q : Nat) (hm : m = l.length - k) (hq : q = c - k) :
    Rd w A q s m ((l.drop k).flatMap enc) := by
  subst hm
  subst hq
  have hl : (l.drop k).length = l.length - k := by simp
  refine ⟨by rw [flat_len hs, hl], by have := h.nc; omega, by have := h.cm; omega, fun h0 => ?_⟩
  obtain ⟨b', o', ha, hb, hat⟩ := h.ptr (by omega)
  simp only [Option.some.injEq, Addr.mk.injEq, and_true] at ha
  obtain ⟨rfl, rfl⟩ := ha
  refine ⟨_, _, hA (by omega), hb, ?_⟩
  rw [← flat_drop hs]
  exact hat.drop _
theorem kpx {w : World} {p : Addr} {v : Option Value} (h : w.cell? p = v := by first | (simp [go_sem]; done) | (simp [go_sem, *]; done) | (repeat' (first | with_reducible assumption | with_reducible refine keep_alloc ?_ | with_reducible refine keep_set ?_ (by omega) | with_reducible refine keep_drewN ?_ | with_reducible refine keep_drew ?_))) : w.cell? p = v := h
theorem kfx {w : World} {p : Addr} {v : Bool} (h : w.frozen? p = v := by first | (simp [go_sem]; done) | (simp [go_sem, *]; done) | (repeat' (first | with_reducible assumption | with_reducible refine keepf_alloc ?_ ?_ | with_reducible refine keepf_set ?_ (by omega) | with_reducible refine keepf_drewN ?_ | with_reducible refine keepf_drew ?_ | (simp only [size_drewN]; omega)))) : w.frozen? p = v := h
end Go.Proofs.YtadjlfcdjkikgaaDoor

namespace Go.Proofs.YtadjlfcdjkikgaaDoor
open Go.RowKit
set_option linter.unusedVariables false
set_option linter.unusedSimpArgs false

/-- of what was there before, only the blocks in S may have changed -/
structure Chg (S : Nat → Prop) (w w' : World) : Prop where
  os : w'.os = w.os
  tape : w'.tape = w.tape
  output : w'.output = w.output
  size : w.heap.size ≤ w'.heap.size
  block : ∀ k, k < w.heap.size → ¬ S k → w'.heap[k]? = w.heap[k]?
theorem Chg.refl (S : Nat → Prop) (w : World) : Chg S w w := ⟨rfl, rfl, rfl, Nat.le_refl _, fun _ _ _ => rfl⟩
theorem Chg.trans {S : Nat → Prop} {a b c : World} (h : Chg S a b) (k : Chg S b c) : Chg S a c :=
  ⟨k.os.trans h.os, k.tape.trans h.tape, k.output.trans h.output, Nat.le_trans h.size k.size, fun x hx hn => (k.block x (Nat.lt_of_lt_of_le hx h.size) hn).trans (h.block x hx hn)⟩
theorem Chg.mono {S T : Nat → Prop} {a b : World} (h : Chg S a b) (hs : ∀ k, S k → T k) : Chg T a b := ⟨h.os, h.tape, h.output, h.size, fun x hx hn => h.block x hx (fun hS => hn (hs x hS))⟩
theorem Chg.ext {S : Nat → Prop} {a b : World} (h : Ext a b) : Chg S a b := ⟨h.os, h.tape, h.output, h.size, fun x hx _ => h.block x hx⟩
theorem Chg.grown {S : Nat → Prop} {a b : World} {row : Option Nat} (h : a.grownBy b row) (hr : ∀ g, row = some g → S g) : Chg S a b :=
  ⟨h.os, h.tape, h.output, h.size, fun x hx hn => h.block x hx (fun e => hn (hr x e.symm))⟩
theorem Chg.below {S : Nat → Prop} {B : Nat} {a b : World} (h : Chg S a b) (hB : ∀ k, S k → B ≤ k) (hs : B ≤ a.heap.size) : Below B a b :=
  ⟨h.os, h.tape, h.output, h.size, fun k hk => h.block k (by omega) (fun hS => by have := hB k hS; omega)⟩
theorem Chg.cell {S : Nat → Prop} {a b : World} (h : Chg S a b) {x o : Nat} (hx : x < a.heap.size) (hn : ¬ S x) : b.cell? ⟨x, o, none⟩ = a.cell? ⟨x, o, none⟩ :=
  World.cell?_of_block (w := a) (h.block x hx hn)
theorem Chg.frozen {S : Nat → Prop} {a b : World} (h : Chg S a b) {x o : Nat} (hx : x < a.heap.size) (hn : ¬ S x) : b.frozen? ⟨x, o, none⟩ = a.frozen? ⟨x, o, none⟩ :=
  World.frozen?_of_block (w := a) (h.block x hx hn)
theorem Own.chg {S : Nat → Prop} {B E s n : Nat} {a b : World} {v : Value} {xs : List Value} (h : Own a B E s v n xs) (hb : Chg S a b) (hf : ∀ k, foot v = some k → ¬ S k) : Own b B E s v n xs := by
  obtain ⟨h1, a', c, rfl, hnc, h0 | ⟨g, cur, rfl, hb', hgg, hr⟩⟩ := h
  · exact ⟨h1, a', c, rfl, hnc, Or.inl h0⟩
  · by_cases hc : c = 0
    · exact ⟨h1, _, _, rfl, hnc, Or.inl hc⟩
    · refine ⟨h1, _, _, rfl, hnc, Or.inr ⟨g, cur, rfl, hb', ?_, hr⟩⟩
      rw [hb.block g (Array.getElem?_eq_some_iff.1 hgg).1 (hf g (by simp [foot, hc]))]
      exact hgg
end Go.Proofs.YtadjlfcdjkikgaaDoor

namespace Go.Proofs.YtadjlfcdjkikgaaDoor
open Go.RowKit
set_option linter.unusedVariables false

theorem at_nil {w : World} {b o : Nat} : At w b o [] := fun j u hu => by simp at hu
theorem at_cons {w : World} {b o : Nat} {v : Value} {us : List Value} (h : w.cell? ⟨b, o, none⟩ = some v) (ht : At w b (o + 1) us) : At w b o (v :: us) := fun j u hu => by
  cases j with
  | zero => simp at hu; subst hu; exact h
  | succ j =>
    have := ht j u (by simpa using hu)
    rwa [show o + 1 + j = o + (j + 1) from by omega] at this
theorem keep_new {w : World} {o : Nat} {v : Value} {cs : Array Value} {t : TypeId} (h : cs[o]? = some v) : (w.alloc (.cells cs t)).cell? ⟨w.heap.size, o, none⟩ = some v := by simp [go_sem, h]
theorem keep_newd {w : World} {o : Nat} {v : Value} {cs : Array Value} {t : TypeId} (h : cs[o]? = some v) : (w.drew.alloc (.cells cs t)).cell? ⟨w.heap.size, o, none⟩ = some v := by simp [go_sem, h]
theorem keepf_new {w : World} {o : Nat} {cs : Array Value} {t : TypeId} (h : o < cs.size) : (w.alloc (.cells cs t)).frozen? ⟨w.heap.size, o, none⟩ = false := by simp [go_sem]
theorem keepf_newd {w : World} {o : Nat} {cs : Array Value} {t : TypeId} (h : o < cs.size) : (w.drew.alloc (.cells cs t)).frozen? ⟨w.heap.size, o, none⟩ = false := by simp [go_sem]
theorem Own.set_lt {w w0 : World} {B B0 E s n : Nat} {v : Value} {xs xs0 : List Value} {p : Addr} (h : Own w B E s v n xs) (h0 : Own w0 B0 E s v n xs0) (hb : p.block < B0) (u : Value) : Own (w.setCell p u) B E s v n xs := h.set_off (FOff.lt h0 hb) u
theorem wp_world {P : Program} {c : Code} {K : Exit → Act → World → Prop} {a : Act} {W : World} (h : ∀ x, x = W → Code.wp P c K a x) : Code.wp P c K a W := h W rfl
/-- the worlds that have only grown out of W: a class for the regions that draw -/
structure ExtW (W : World) where
  x : World
  h : Ext W x
instance {W : World} : Nonempty (ExtW W) := ⟨⟨W, Below.refl _ _⟩⟩
theorem ExtW.of {w W : World} (h : Ext w W) (y : ExtW W) : Ext w y.x := Below.ext h y.h
theorem ExtW.on {W w1 : World} (y : ExtW W) (h : Ext y.x w1) : ∃ z : ExtW W, w1 = z.x := ⟨⟨w1, Below.ext y.h h⟩, rfl⟩
theorem wp_region_ext {P : Program} {id : Nat} {Q : Exit → Act → World → Prop} {a : Act} {W : World} {l : List Oper} (hm : P.follows .mixedOrders = true) (hB : Region.lexB .any l.toArray = true)
    (h : wpQuiet P l.toArray (fun w' => ∃ y : ExtW W, w' = y.x) (fun a' => ∀ w', (∃ y : ExtW W, w' = y.x) → Q .normal a' w') l a) : (Code.region id l.toArray true).wp P Q a W :=
  wp_region_quiet (C := fun w' => ∃ y : ExtW W, w' = y.x) hm hB ⟨⟨W.drew, (Below.refl _ _).drew⟩, rfl⟩ (by simpa using h)
/-- a box of its own, its cells cs, with a slice of its own among them -/
def CutR (E s n : Nat) (xs : List Value) (cs : Option Addr → Nat → List Value) (W : World) (v : Value) (wx : World) : Prop :=
  ∃ β ga qa, v = .pointer (some ⟨β, 0, none⟩) ∧ W.heap.size ≤ β ∧ β < wx.heap.size ∧ At wx β 0 (cs ga qa) ∧ Own wx W.heap.size E s (.slice ga n qa) n xs ∧ FOff β (.slice ga n qa) ∧ Ext W wx
end Go.Proofs.YtadjlfcdjkikgaaDoor

namespace Go.Proofs.YtadjlfcdjkikgaaDoor
open Go.RowKit
set_option linter.unusedVariables false
set_option linter.unusedSimpArgs false

theorem set_same {w : World} {b p : Nat} {u v : Value} (h : w.cell? ⟨b, p, none⟩ = some v) : (w.setCell ⟨b, p, none⟩ u).cell? ⟨b, p, none⟩ = some u := by simp [go_sem, h]
theorem set_other {w : World} {b p p' : Nat} {u v : Value} (h : w.cell? ⟨b, p', none⟩ = some v) (hne : p ≠ p') : (w.setCell ⟨b, p, none⟩ u).cell? ⟨b, p', none⟩ = some v := by
  simp [go_sem, h, hne]
theorem setf {w : World} {b o : Nat} {p : Addr} {u : Value} (h : w.frozen? ⟨b, o, none⟩ = false) : (w.setCell p u).frozen? ⟨b, o, none⟩ = false := by simp [go_sem, h]
theorem putW_keep {b b' o : Nat} {v : Value} (hne : b ≠ b') : ∀ (us : List Value) (w : World) (p : Nat), w.cell? ⟨b', o, none⟩ = some v → (putW w b p us).cell? ⟨b', o, none⟩ = some v
  | [], w, p, h => h
  | u :: us, w, p, h => putW_keep hne us _ _ (keep_set h hne)
theorem putW_keep2 {b o : Nat} {v : Value} : ∀ (us : List Value) (w : World) (p : Nat), o < p → w.cell? ⟨b, o, none⟩ = some v → (putW w b p us).cell? ⟨b, o, none⟩ = some v
  | [], w, p, _, h => h
  | u :: us, w, p, ho, h => putW_keep2 us _ _ (by omega) (set_other h (by omega))
theorem putW_frz {b b' o : Nat} : ∀ (us : List Value) (w : World) (p : Nat), w.frozen? ⟨b', o, none⟩ = false → (putW w b p us).frozen? ⟨b', o, none⟩ = false
  | [], w, p, h => h
  | u :: us, w, p, h => putW_frz us _ _ (setf h)
/-- a box that is written anew -/
theorem putW_at {b : Nat} : ∀ (us : List Value) (w : World) (p : Nat), (∀ j, j < us.length → ∃ v, w.cell? ⟨b, p + j, none⟩ = some v) → At (putW w b p us) b p us
  | [], w, p, h => at_nil
  | u :: us, w, p, h => by
    obtain ⟨v, hv⟩ := h 0 (by simp)
    refine at_cons (putW_keep2 us _ _ (by omega) (set_same hv)) (putW_at us _ (p + 1) fun j hj => ?_)
    obtain ⟨v', hv'⟩ := h (j + 1) (by simp; omega)
    exact ⟨v', set_other (by rw [show p + 1 + j = p + (j + 1) from by omega]; exact hv') (by omega)⟩
theorem putW_at_ne {b b' o : Nat} {xs us : List Value} {w : World} {p : Nat} (h : At w b' o xs) (hne : b ≠ b') : At (putW w b p us) b' o xs := fun j u hu => putW_keep hne us w p (h j u hu)
theorem At.some {w : World} {b o : Nat} {xs : List Value} (h : At w b o xs) : ∀ j, j < xs.length → ∃ v, w.cell? ⟨b, o + j, none⟩ = some v := fun j hj => ⟨_, h j _ (List.getElem?_eq_getElem hj)⟩
theorem Own.putW_off {B E s n b : Nat} {v : Value} {xs : List Value} (hne : foot v ≠ Option.some b) : ∀ (us : List Value) (w : World) (p : Nat), Own w B E s v n xs → Own (putW w b p us) B E s v n xs
  | [], w, p, h => h
  | u :: us, w, p, h => Own.putW_off hne us _ _ (h.set_off hne u)
theorem Below.putW {B b : Nat} {W : World} (hb : B ≤ b) : ∀ (us : List Value) (w : World) (p : Nat), Below B W w → Below B W (putW w b p us)
  | [], w, p, h => h
  | u :: us, w, p, h => Below.putW hb us _ _ (h.setCell hb u)
theorem putW_size {b : Nat} : ∀ (us : List Value) (w : World) (p : Nat), (putW w b p us).heap.size = w.heap.size
  | [], w, p => rfl
  | u :: us, w, p => (putW_size us _ _).trans (by simp)
theorem own_lit {w : World} {cs : Array Value} {E n s g : Nat} {xs : List Value} (hg : w.heap.size = g) (hl : cs.toList = xs) (hs : cs.size = n * s) (hn : n ≤ 4194304) : Own (w.alloc (.cells cs E)) w.heap.size E s (.slice (some ⟨g, 0, none⟩) n n) n xs := by
  subst hg
  subst hl
  exact Own.of_row (World.ownsRow_lit w cs n (Nat.le_refl _) (by unfold maxLen; omega) hs)
end Go.Proofs.YtadjlfcdjkikgaaDoor
