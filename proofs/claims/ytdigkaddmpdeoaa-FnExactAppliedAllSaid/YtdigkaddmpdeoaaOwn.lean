/-
  Slices that a call gathers: 'append' of one element, and what it leaves.
-/
import Derived.Test.YtdigkaddmpdeoaaTy
import Derived.OwnWalk
import Derived.Deep.AppendLies
namespace Go.Proofs.Ytdigkaddmpdeoaa
open Go.RowKit
set_option linter.unusedVariables false
set_option linter.unusedSimpArgs false

theorem below_app {W wr w1 : World} {B0 B E s n : Nat} {v : Value} {xs : List Value} (hb : Below B0 W wr) (hown : wr.ownsRow B E s v n xs) (hB : B0 ≤ B) (hsz : B0 ≤ wr.heap.size) (hg : wr.grownBy w1 v.ownBlock) : Below B0 W w1 :=
  hb.grown hg hsz (fun k hk => Nat.le_trans hB (hown.lt k hk).1)

theorem Below.extB {B0 B : Nat} {a b c : World} (h : Below B0 a b) (k : Below B b c) (hB : B0 ≤ B) : Below B0 a c := h.trans (k.mono hB)

theorem own_shape {w : World} {B E s n : Nat} {v : Value} {xs : List Value} (h : w.ownsRow B E s v n xs) : ∃ a c, v = .slice a n c := by
  rcases h.2 with ⟨rfl, rfl⟩ | ⟨g, c, cur, rfl, _⟩
  · exact ⟨_, _, rfl⟩
  · exact ⟨_, _, rfl⟩

/-- append(out, x): one element of s cells, at the head of block b -/
theorem wpList_app1 {P : Program} {w : World} {ops : Array Oper} {rest : List Oper} {o : Oper} {a : Act} {Q : Exit → Act → World → Prop} (hgd : o.guard = none) (sl x : Operand) (t : TypeId)
    (ho : o.op = .call { callee := .builtin .append, args := #[sl, x], argTypes := #[t, t] })
    (E : TypeId) (i : TypeInfo) (z : Value) (s bytes : Nat) (ht : P.underlying t = some (.slice E)) (hi : P.info? E = some i) (hz : i.zero = some z)
    (hsize : i.size = s) (hby : i.bytes = bytes) (hzs : z.cells.size = s) (hsz : 0 < s)
    (v : Value) (n : Nat) (xs : List Value) (hs : a.eval sl = v) (B : Nat) (hown : w.ownsRow B E s v n xs) (b : Nat) (news : List Value)
    (hx : a.eval x = .slice (some ⟨b, 0, none⟩) 1 1) (hl : news.length = s) (hat : At w b 0 news) (h1 : ∀ u ∈ news, u.oneCell' = true)
    (hn : n ≤ 4194304) (hb2 : bytes ≤ 1024) (hbase : B ≤ w.heap.size)
    (h : ∀ v' w', w'.ownsRow B E s v' (n + 1) (xs ++ news) → w.grownBy w' v.ownBlock → wpList P ops Q rest (a.put o.dst v') w') : wpList P ops Q (o :: rest) a w :=
  wpList_append_own _ hgd sl x t ho B E i z s bytes ht hi hz hsize hby hzs hsz v n xs hs hown ⟨b, 0, none⟩ 1 1 news hx (by omega)
    (fun j u hj => by have h2 := hat j u hj; rw [Nat.zero_add] at h2; unfold Addr.add; split <;> simp_all) h1 (by unfold maxLen; omega)
    (Nat.le_trans (Nat.mul_le_mul (by omega : n + 1 ≤ 4194305) hb2) (by omega)) hbase (fun v' w' h1 h2 _ => h v' w' h1 h2)

theorem at_alloc {w : World} {cs : Array Value} {E : TypeId} {p : Nat × Nat} {g : Nat} {l : List Value} (hg : w.heap.size = g) (hl : cs.toList = l) : At (w.alloc (.cells cs E p)) g 0 l := fun j u hu => by
  subst hg
  subst hl
  have hj : cs[j]? = some u := by simpa using hu
  have := heap_alloc_new w (.cells cs E p)
  unfold World.cell?
  simp only [this]
  simpa using hj

/-- the loop of a function that gathers a slice: after k rounds out k is gathered (out: a def, so that the walk leaves it alone) -/
def GathRel {α : Type} (enc : α → List Value) (s E N : Nat) (out : Nat → List α) (W : World) (B : Nat) (v i : Value) (wr : World) : Prop :=
  ∃ k : Nat, k ≤ N ∧ i = .int .i64 k ∧ wr.ownsRow B E s v (out k).length ((out k).flatMap enc) ∧ Below B W wr

theorem GathRel.start {α : Type} {enc : α → List Value} {s E N : Nat} {out : Nat → List α} (W : World) (g : Nat) (hg : W.heap.size = g) (h0 : out 0 = []) : GathRel enc s E N out W g (.slice (some ⟨g, 0, none⟩) 0 0) (.int .i64 0) (W.alloc (.cells #[] E)) := by
  subst hg
  refine ⟨0, Nat.zero_le _, rfl, ?_, (Below.refl _ _).alloc (Nat.le_refl _) _⟩
  rw [h0]
  exact World.ownsRow_lit W #[] 0 (Nat.le_refl _) (Nat.zero_le _) (by simp)

theorem GathRel.next {α : Type} {enc : α → List Value} {s E N k n B : Nat} {out : Nat → List α} {W w0 w1 : World} {v v' : Value} {xs : List Value} (hk : k < N) (x : α) (ho : out (k + 1) = out k ++ [x]) (h0 : w0.ownsRow B E s v n xs) (hg : w0.grownBy w1 v.ownBlock) (hb : Below B W w0) (hB : B ≤ w0.heap.size)
    (h1 : w1.ownsRow B E s v' ((out k).length + 1) ((out k).flatMap enc ++ enc x)) : GathRel enc s E N out W B v' (.int .i64 ((k : Int) + 1)) w1 := by
  refine ⟨k + 1, by omega, by simp, ?_, below_app hb h0 (Nat.le_refl _) hB hg⟩
  rw [ho]
  simpa using h1
theorem GathRel.skip {α : Type} {enc : α → List Value} {s E N k B : Nat} {out : Nat → List α} {W w1 : World} {v : Value} (hk : k < N) (ho : out (k + 1) = out k)
    (h1 : w1.ownsRow B E s v (out k).length ((out k).flatMap enc)) (hb : Below B W w1) : GathRel enc s E N out W B v (.int .i64 ((k : Int) + 1)) w1 :=
  ⟨k + 1, by omega, by simp, by rw [ho]; exact h1, hb⟩

/-- the same, the new value told: at the head of a block -/
theorem wpList_app1L {P : Program} {w : World} {ops : Array Oper} {rest : List Oper} {o : Oper} {a : Act} {Q : Exit → Act → World → Prop} (hgd : o.guard = none) (sl x : Operand) (t : TypeId)
    (ho : o.op = .call { callee := .builtin .append, args := #[sl, x], argTypes := #[t, t] })
    (E : TypeId) (i : TypeInfo) (z : Value) (s bytes : Nat) (ht : P.underlying t = some (.slice E)) (hi : P.info? E = some i) (hz : i.zero = some z)
    (hsize : i.size = s) (hby : i.bytes = bytes) (hzs : z.cells.size = s) (hsz : 0 < s)
    (v : Value) (n : Nat) (xs : List Value) (hs : a.eval sl = v) (B : Nat) (hown : w.ownsRow B E s v n xs) (b : Nat) (news : List Value)
    (hx : a.eval x = .slice (some ⟨b, 0, none⟩) 1 1) (hl : news.length = s) (hat : At w b 0 news) (h1 : ∀ u ∈ news, u.oneCell' = true)
    (hn : n ≤ 4194304) (hb2 : bytes ≤ 1024) (hbase : B ≤ w.heap.size)
    (h : ∀ g c w', w'.ownsRow B E s (.slice (some ⟨g, 0, none⟩) (n + 1) c) (n + 1) (xs ++ news) → w.grownBy w' v.ownBlock → wpList P ops Q rest (a.put o.dst (.slice (some ⟨g, 0, none⟩) (n + 1) c)) w') : wpList P ops Q (o :: rest) a w :=
  wpList_append_lies _ hgd sl x t ho B E i z s bytes ht hi hz hsize hby hzs hsz v n xs hs hown ⟨b, 0, none⟩ 1 1 news hx (by omega)
    (fun j u hj => by have h2 := hat j u hj; rw [Nat.zero_add] at h2; unfold Addr.add; split <;> simp_all) h1 (by omega) (by unfold maxLen; omega)
    (Nat.le_trans (Nat.mul_le_mul (by omega : n + 1 ≤ 4194305) hb2) (by omega)) hbase _ rfl (fun g c w' h1 h2 _ _ => h g c w' h1 h2)
/-- the same as one step of a region that draws -/
theorem step_app1 {P : Program} {w : World} {ops : Array Oper} {o : Oper} {a : Act} {K : Act → World → Prop} {Q : Exit → Act → World → Prop} {Els : Prop} (hgd : o.guard = none) (sl x : Operand) (t : TypeId)
    (ho : o.op = .call { callee := .builtin .append, args := #[sl, x], argTypes := #[t, t] })
    (E : TypeId) (i : TypeInfo) (z : Value) (s bytes : Nat) (ht : P.underlying t = some (.slice E)) (hi : P.info? E = some i) (hz : i.zero = some z)
    (hsize : i.size = s) (hby : i.bytes = bytes) (hzs : z.cells.size = s) (hsz : 0 < s)
    (v : Value) (n : Nat) (xs : List Value) (hs : a.eval sl = v) (B : Nat) (hown : w.ownsRow B E s v n xs) (b : Nat) (news : List Value)
    (hx : a.eval x = .slice (some ⟨b, 0, none⟩) 1 1) (hl : news.length = s) (hat : At w b 0 news) (h1 : ∀ u ∈ news, u.oneCell' = true)
    (hn : n ≤ 4194304) (hb2 : bytes ≤ 1024) (hbase : B ≤ w.heap.size)
    (h : ∀ g c w', w'.ownsRow B E s (.slice (some ⟨g, 0, none⟩) (n + 1) c) (n + 1) (xs ++ news) → w.grownBy w' v.ownBlock → K (a.put o.dst (.slice (some ⟨g, 0, none⟩) (n + 1) c)) w') :
    if Region.wanted o (yielded ops a.tmps) = true then Oper.wp P o a w K Q else Els :=
  step_append_lies _ hgd sl x t ho B E i z s bytes ht hi hz hsize hby hzs hsz v n xs hs hown ⟨b, 0, none⟩ 1 1 news hx (by omega)
    (fun j u hj => by have h2 := hat j u hj; rw [Nat.zero_add] at h2; unfold Addr.add; split <;> simp_all) h1 (by omega) (by unfold maxLen; omega)
    (Nat.le_trans (Nat.mul_le_mul (by omega : n + 1 ≤ 4194305) hb2) (by omega)) hbase _ rfl (fun g c w' h1 h2 _ _ => h g c w' h1 h2)

/-- the same loop, the slice held in the cell j of box b -/
def GathFld {α : Type} (enc : α → List Value) (s E N : Nat) (out : Nat → List α) (W : World) (b j : Nat) (i : Value) (wr : World) : Prop :=
  ∃ (k : Nat) (v : Value), k ≤ N ∧ i = .int .i64 k ∧ wr.ownsRow (b + 1) E s v (out k).length ((out k).flatMap enc) ∧ Below b W wr ∧ wr.cell? ⟨b, j, none⟩ = some v ∧ wr.frozen? ⟨b, j, none⟩ = false ∧ b + 1 ≤ wr.heap.size
theorem GathFld.next {α : Type} {enc : α → List Value} {s E N k n b j : Nat} {out : Nat → List α} {W w0 w1 : World} {v v' : Value} {xs : List Value} (hk : k < N) (x : α) (ho : out (k + 1) = out k ++ [x])
    (h0 : w0.ownsRow (b + 1) E s v n xs) (hg : w0.grownBy w1 v.ownBlock) (hb : Below b W w0) (hB : b + 1 ≤ w0.heap.size) (hc : ∃ u, w0.cell? ⟨b, j, none⟩ = some u) (hf : w0.frozen? ⟨b, j, none⟩ = false)
    (h1 : w1.ownsRow (b + 1) E s v' ((out k).length + 1) ((out k).flatMap enc ++ enc x)) : GathFld enc s E N out W b j (.int .i64 ((k : Int) + 1)) (w1.setCell ⟨b, j, none⟩ v') := by
  have hne : some b ≠ v.ownBlock := fun e => by have := (h0.lt b e.symm).1; omega
  obtain ⟨u, hu⟩ := hc
  have hc1 : w1.cell? ⟨b, j, none⟩ = some u := (World.cell?_of_block (w := w0) (a := ⟨b, j, none⟩) (hg.block b (by omega) hne)).trans hu
  have hf1 : w1.frozen? ⟨b, j, none⟩ = false := (World.frozen?_of_block (w := w0) (a := ⟨b, j, none⟩) (hg.block b (by omega) hne)).trans hf
  refine ⟨k + 1, v', by omega, by simp, ?_, (below_app hb h0 (by omega) (by omega) hg).setCell (Nat.le_refl _) _, World.cell?_setCell_same _ _ _ hc1, by simpa using hf1, by have := hg.size; simp; omega⟩
  rw [ho]
  refine ownsRow_setCell_below ?_ (by simp) _
  simpa using h1
theorem fld_ready {E s n b j : Nat} {w0 w1 : World} {v : Value} {xs : List Value} (h0 : w0.ownsRow (b + 1) E s v n xs) (hg : w0.grownBy w1 v.ownBlock) (hB : b < w0.heap.size) (hc : ∃ u, w0.cell? ⟨b, j, none⟩ = some u) (hf : w0.frozen? ⟨b, j, none⟩ = false) :
    (∃ u, w1.cell? ⟨b, j, none⟩ = some u) ∧ w1.frozen? ⟨b, j, none⟩ = false := by
  have hne : some b ≠ v.ownBlock := fun e => by have := (h0.lt b e.symm).1; omega
  obtain ⟨u, hu⟩ := hc
  exact ⟨⟨u, (World.cell?_of_block (w := w0) (a := ⟨b, j, none⟩) (hg.block b (by omega) hne)).trans hu⟩, (World.frozen?_of_block (w := w0) (a := ⟨b, j, none⟩) (hg.block b (by omega) hne)).trans hf⟩

/-- v's memory is not block b's -/
def Off (b : Nat) (v : Value) : Prop := v.ownBlock ≠ some b
theorem Off.lt {w : World} {B E s n b : Nat} {v : Value} {xs : List Value} (h : w.ownsRow B E s v n xs) (hb : b < B) : Off b v := fun e => by have := (h.lt b e).1; omega
theorem Off.ge {w : World} {B E s n b : Nat} {v : Value} {xs : List Value} (h : w.ownsRow B E s v n xs) (hb : w.heap.size ≤ b) : Off b v := fun e => by have := (h.lt b e).2; omega
theorem grown_off {w w' : World} {v : Value} (h : w.grownBy w' v.ownBlock) : (∀ b o, b < w.heap.size → Off b v → w'.cell? ⟨b, o, none⟩ = w.cell? ⟨b, o, none⟩) ∧ (∀ b o, b < w.heap.size → Off b v → w'.frozen? ⟨b, o, none⟩ = w.frozen? ⟨b, o, none⟩) :=
  ⟨fun b o hb hne => World.cell?_of_block (w := w) (h.block b hb (fun e => hne e.symm)), fun b o hb hne => World.frozen?_of_block (w := w) (h.block b hb (fun e => hne e.symm))⟩
/-- two slices' memories are apart -/
def Apart (v v2 : Value) : Prop := v.ownBlock = none ∨ v.ownBlock ≠ v2.ownBlock
theorem Apart.of {w w2 : World} {B E s n B2 E2 s2 n2 : Nat} {v v2 : Value} {xs xs2 : List Value} (h : w.ownsRow B E s v n xs) (h2 : w2.ownsRow B2 E2 s2 v2 n2 xs2) (hle : w.heap.size ≤ B2) : Apart v v2 := by
  cases hv : v.ownBlock with
  | none => exact Or.inl hv
  | some g =>
    refine Or.inr fun e => ?_
    rw [hv] at e
    have := (h.lt g hv).2
    have := (h2.lt g e.symm).1
    omega
theorem Apart.symm {v v2 : Value} (h : Apart v v2) : Apart v2 v := by
  rcases h with h | h
  · cases hv : v2.ownBlock with
    | none => exact Or.inl hv
    | some g => exact Or.inr (by rw [h, hv]; simp)
  · exact Or.inr (fun e => h e.symm)
theorem own_apart {w w' : World} {B E s n : Nat} {v v2 : Value} {xs : List Value} (h : w.ownsRow B E s v n xs) (hg : w.grownBy w' v2.ownBlock) (ha : Apart v v2) : w'.ownsRow B E s v n xs := h.kept hg ha

/-- what a drawn region keeps: below block B all is as in W -/
def SB (B : Nat) (W w' : World) : Prop := Below B W w' ∧ B ≤ w'.heap.size
theorem SB.cells {B : Nat} {W w' : World} (h : SB B W w') (b o : Nat) (hb : b < B) : w'.cell? ⟨b, o, none⟩ = W.cell? ⟨b, o, none⟩ := h.1.cell (p := ⟨b, o, none⟩) hb
theorem SB.frozen {B : Nat} {W w' : World} (h : SB B W w') (b o : Nat) (hb : b < B) : w'.frozen? ⟨b, o, none⟩ = W.frozen? ⟨b, o, none⟩ := h.1.frozen (p := ⟨b, o, none⟩) hb
abbrev SC (B : Nat) (W w' : World) : Prop := SB B W w' ∧ ∀ b o, b < B → w'.cell? ⟨b, o, none⟩ = W.cell? ⟨b, o, none⟩
theorem SC.beg (B : Nat) (W : World) (hB : B ≤ W.heap.size) : SC B W W.drew := ⟨⟨(Below.refl _ _).drew, hB⟩, fun _ _ _ => rfl⟩
theorem SC.of {B : Nat} {W w' : World} (h : SB B W w') : SC B W w' := ⟨h, fun b o hb => h.cells b o hb⟩
theorem SC.alloc {B : Nat} {W w' : World} (h : SC B W w') (o : Obj) : SC B W (w'.alloc o) := .of ⟨h.1.1.alloc h.1.2 _, by have := h.1.2; simp; omega⟩
theorem SC.set {B : Nat} {W w' : World} (h : SC B W w') {p : Addr} (hp : B ≤ p.block) (u : Value) : SC B W (w'.setCell p u) := .of ⟨h.1.1.setCell hp _, by simpa using h.1.2⟩
theorem SC.ext {B : Nat} {W w' w1 : World} (h : SC B W w') (h2 : Below w'.heap.size w' w1) : SC B W w1 := .of ⟨Below.extB h.1.1 h2 h.1.2, Nat.le_trans h.1.2 h2.size⟩
theorem SC.app {B B2 E s n : Nat} {W w' w1 : World} {v : Value} {xs : List Value} (h : SC B W w') (hown : w'.ownsRow B2 E s v n xs) (hB : B ≤ B2) (hg : w'.grownBy w1 v.ownBlock) : SC B W w1 := .of ⟨below_app h.1.1 hown hB h.1.2 hg, Nat.le_trans h.1.2 hg.size⟩
end Go.Proofs.Ytdigkaddmpdeoaa
