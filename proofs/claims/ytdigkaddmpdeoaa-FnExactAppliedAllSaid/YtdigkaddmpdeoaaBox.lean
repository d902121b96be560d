/-
  A box that is written anew, cell by cell.
-/
import Derived.Test.YtdigkaddmpdeoaaCut
namespace Go.Proofs.Ytdigkaddmpdeoaa
open Go.RowKit
set_option linter.unusedVariables false
set_option linter.unusedSimpArgs false

theorem set_same {w : World} {b p : Nat} {u v : Value} (h : w.cell? ⟨b, p, none⟩ = some v) : (w.setCell ⟨b, p, none⟩ u).cell? ⟨b, p, none⟩ = some u := by simp [go_sem, h]
theorem set_other {w : World} {b p p' : Nat} {u v : Value} (h : w.cell? ⟨b, p', none⟩ = some v) (hne : p ≠ p') : (w.setCell ⟨b, p, none⟩ u).cell? ⟨b, p', none⟩ = some v := by
  simp [go_sem, h, hne]
theorem setf {w : World} {b o : Nat} {p : Addr} {u : Value} (h : w.frozen? ⟨b, o, none⟩ = false) : (w.setCell p u).frozen? ⟨b, o, none⟩ = false := by simp [go_sem, h]
theorem putW_keep {b b' o : Nat} {v : Value} (hne : b ≠ b') : ∀ (us : List Value) (w : World) (p : Nat), w.cell? ⟨b', o, none⟩ = some v → (putW w b p us).cell? ⟨b', o, none⟩ = some v
  | [], w, p, h => h
  | u :: us, w, p, h => putW_keep hne us _ _ (keep_set h hne)
theorem putW_keep2 {b o : Nat} {v : Value} : ∀ (us : List Value) (w : World) (p : Nat), o < p → w.cell? ⟨b, o, none⟩ = some v → (putW w b p us).cell? ⟨b, o, none⟩ = some v
  | [], w, p, _, h => h
  | u :: us, w, p, ho, h => putW_keep2 us _ _ (by omega) (set_other h (by omega))
theorem putW_frz {b b' o : Nat} : ∀ (us : List Value) (w : World) (p : Nat), w.frozen? ⟨b', o, none⟩ = false → (putW w b p us).frozen? ⟨b', o, none⟩ = false
  | [], w, p, h => h
  | u :: us, w, p, h => putW_frz us _ _ (setf h)
/-- a box that is written anew -/
theorem putW_at {b : Nat} : ∀ (us : List Value) (w : World) (p : Nat), (∀ j, j < us.length → ∃ v, w.cell? ⟨b, p + j, none⟩ = some v) → At (putW w b p us) b p us
  | [], w, p, h => at_nil
  | u :: us, w, p, h => by
    obtain ⟨v, hv⟩ := h 0 (by simp)
    refine at_cons (putW_keep2 us _ _ (by omega) (set_same hv)) (putW_at us _ (p + 1) fun j hj => ?_)
    obtain ⟨v', hv'⟩ := h (j + 1) (by simp; omega)
    exact ⟨v', set_other (by rw [show p + 1 + j = p + (j + 1) from by omega]; exact hv') (by omega)⟩
theorem putW_at_ne {b b' o : Nat} {xs us : List Value} {w : World} {p : Nat} (h : At w b' o xs) (hne : b ≠ b') : At (putW w b p us) b' o xs := fun j u hu => putW_keep hne us w p (h j u hu)
theorem At.some {w : World} {b o : Nat} {xs : List Value} (h : At w b o xs) : ∀ j, j < xs.length → ∃ v, w.cell? ⟨b, o + j, none⟩ = some v := fun j hj => ⟨_, h j _ (List.getElem?_eq_getElem hj)⟩
theorem Own.putW_off {B E s n b : Nat} {v : Value} {xs : List Value} (hne : foot v ≠ Option.some b) : ∀ (us : List Value) (w : World) (p : Nat), Own w B E s v n xs → Own (putW w b p us) B E s v n xs
  | [], w, p, h => h
  | u :: us, w, p, h => Own.putW_off hne us _ _ (h.set_off hne u)
theorem Below.putW {B b : Nat} {W : World} (hb : B ≤ b) : ∀ (us : List Value) (w : World) (p : Nat), Below B W w → Below B W (putW w b p us)
  | [], w, p, h => h
  | u :: us, w, p, h => Below.putW hb us _ _ (h.setCell hb u)
theorem putW_size {b : Nat} : ∀ (us : List Value) (w : World) (p : Nat), (putW w b p us).heap.size = w.heap.size
  | [], w, p => rfl
  | u :: us, w, p => (putW_size us _ _).trans (by simp)
theorem own_lit {w : World} {cs : Array Value} {E n s g : Nat} {xs : List Value} (hg : w.heap.size = g) (hl : cs.toList = xs) (hs : cs.size = n * s) (hn : n ≤ 4194304) : Own (w.alloc (.cells cs E)) w.heap.size E s (.slice (some ⟨g, 0, none⟩) n n) n xs := by
  subst hg
  subst hl
  exact Own.of_row (World.ownsRow_lit w cs n (Nat.le_refl _) (by unfold maxLen; omega) hs)
end Go.Proofs.Ytdigkaddmpdeoaa
