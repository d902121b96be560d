/-
  What a statement of a law leaves that makes a struct's box out of calls whose order is open.
-/
import Derived.Test.YtdigkaddmpdeoaaOwn2
import Derived.Deep.DeepCutAuto
import Derived.BigQuiet
namespace Go.Proofs.Ytdigkaddmpdeoaa
open Go.RowKit
set_option linter.unusedVariables false

theorem at_nil {w : World} {b o : Nat} : At w b o [] := fun j u hu => by simp at hu
theorem at_cons {w : World} {b o : Nat} {v : Value} {us : List Value} (h : w.cell? ⟨b, o, none⟩ = some v) (ht : At w b (o + 1) us) : At w b o (v :: us) := fun j u hu => by
  cases j with
  | zero => simp at hu; subst hu; exact h
  | succ j =>
    have := ht j u (by simpa using hu)
    rwa [show o + 1 + j = o + (j + 1) from by omega] at this
theorem keep_new {w : World} {o : Nat} {v : Value} {cs : Array Value} {t : TypeId} (h : cs[o]? = some v) : (w.alloc (.cells cs t)).cell? ⟨w.heap.size, o, none⟩ = some v := by simp [go_sem, h]
theorem keep_newd {w : World} {o : Nat} {v : Value} {cs : Array Value} {t : TypeId} (h : cs[o]? = some v) : (w.drew.alloc (.cells cs t)).cell? ⟨w.heap.size, o, none⟩ = some v := by simp [go_sem, h]
theorem keepf_new {w : World} {o : Nat} {cs : Array Value} {t : TypeId} (h : o < cs.size) : (w.alloc (.cells cs t)).frozen? ⟨w.heap.size, o, none⟩ = false := by simp [go_sem]
theorem keepf_newd {w : World} {o : Nat} {cs : Array Value} {t : TypeId} (h : o < cs.size) : (w.drew.alloc (.cells cs t)).frozen? ⟨w.heap.size, o, none⟩ = false := by simp [go_sem]
theorem Own.set_lt {w w0 : World} {B B0 E s n : Nat} {v : Value} {xs xs0 : List Value} {p : Addr} (h : Own w B E s v n xs) (h0 : Own w0 B0 E s v n xs0) (hb : p.block < B0) (u : Value) : Own (w.setCell p u) B E s v n xs := h.set_off (FOff.lt h0 hb) u
theorem wp_world {P : Program} {c : Code} {K : Exit → Act → World → Prop} {a : Act} {W : World} (h : ∀ x, x = W → Code.wp P c K a x) : Code.wp P c K a W := h W rfl
/-- the worlds that have only grown out of W: a class for the regions that draw -/
structure ExtW (W : World) where
  x : World
  h : Ext W x
instance {W : World} : Nonempty (ExtW W) := ⟨⟨W, Below.refl _ _⟩⟩
theorem ExtW.of {w W : World} (h : Ext w W) (y : ExtW W) : Ext w y.x := Below.ext h y.h
theorem ExtW.on {W w1 : World} (y : ExtW W) (h : Ext y.x w1) : ∃ z : ExtW W, w1 = z.x := ⟨⟨w1, Below.ext y.h h⟩, rfl⟩
theorem wp_region_ext {P : Program} {id : Nat} {Q : Exit → Act → World → Prop} {a : Act} {W : World} {l : List Oper} (hm : P.follows .mixedOrders = true) (hB : Region.lexB .any l.toArray = true)
    (h : wpQuiet P l.toArray (fun w' => ∃ y : ExtW W, w' = y.x) (fun a' => ∀ w', (∃ y : ExtW W, w' = y.x) → Q .normal a' w') l a) : (Code.region id l.toArray true).wp P Q a W :=
  wp_region_quiet (C := fun w' => ∃ y : ExtW W, w' = y.x) hm hB ⟨⟨W.drew, (Below.refl _ _).drew⟩, rfl⟩ (by simpa using h)
/-- a box of its own, its cells cs, with a slice of its own among them -/
def CutR (E s n : Nat) (xs : List Value) (cs : Option Addr → Nat → List Value) (W : World) (v : Value) (wx : World) : Prop :=
  ∃ β ga qa, v = .pointer (some ⟨β, 0, none⟩) ∧ W.heap.size ≤ β ∧ β < wx.heap.size ∧ At wx β 0 (cs ga qa) ∧ Own wx W.heap.size E s (.slice ga n qa) n xs ∧ FOff β (.slice ga n qa) ∧ Ext W wx
end Go.Proofs.Ytdigkaddmpdeoaa
