/-
  A box of its own that holds a store of the call's own.
-/
import Derived.Test.YtemgabekckhckaaGreatXCom
import Derived.Test.YtemgabekckhckaaGreatXMarkS
namespace Go.Proofs.YtemgabekckhckaaGreat
open Go.RowKit
set_option linter.unusedVariables false
set_option linter.unusedSimpArgs false

def CutS (E EM EC : Nat) (rs : DStore) (W : World) (v : Value) (wx : World) : Prop :=
  ∃ β g q zs g2 q2, v = .pointer (some ⟨β, 0, none⟩) ∧ W.heap.size ≤ β ∧ β < wx.heap.size ∧ At wx β 0 [.slice g zs.length q, .slice g2 rs.log.length q2, .int .i64 rs.given] ∧ OwnSt wx W.heap.size E EM EC g q zs g2 q2 rs.log ∧ (∀ k, rowsS g q zs g2 q2 rs.log.length k → k ≠ β) ∧ zs.map PBox.box = rs.boxes ∧ Ext W wx
theorem OwnSt.alloc1 {w : World} {B E EM EC bc lc : Nat} {ba la : Option Addr} {zs : List PBox} {l : List DCommit} (h : OwnSt w B E EM EC ba bc zs la lc l) (o : Obj) : OwnSt (w.alloc o) B E EM EC ba bc zs la lc l := h.ext ((Below.refl _ _).alloc (Nat.le_refl _) _)
theorem OwnSt.drew1 {w : World} {B E EM EC bc lc : Nat} {ba la : Option Addr} {zs : List PBox} {l : List DCommit} (h : OwnSt w B E EM EC ba bc zs la lc l) : OwnSt w.drew B E EM EC ba bc zs la lc l := h.ext (Below.refl _ _).drew
/-- written to a block that is none of the rows, as they lay in an earlier world -/
theorem OwnSt.set_at {w w0 : World} {B B0 E EM EC bc lc b : Nat} {o : Nat} {ba la : Option Addr} {zs : List PBox} {l : List DCommit} (h : OwnSt w B E EM EC ba bc zs la lc l) (h0 : OwnSt w0 B0 E EM EC ba bc zs la lc l) (hb : b < B0 ∨ w0.heap.size ≤ b) (u : Value) : OwnSt (w.setCell ⟨b, o, none⟩ u) B E EM EC ba bc zs la lc l :=
  h.set_ne (fun k hk e => by
    have h1 := h0.rows_lt k hk
    have h2 : k = b := e
    omega) u
theorem OwnSt.ne_at {w0 : World} {B0 E EM EC bc lc b : Nat} {ba la : Option Addr} {zs : List PBox} {l : List DCommit} (h0 : OwnSt w0 B0 E EM EC ba bc zs la lc l) (hb : b < B0 ∨ w0.heap.size ≤ b) : ∀ k, rowsS ba bc zs la lc l.length k → k ≠ b := fun k hk e => by
  have h1 := h0.rows_lt k hk
  omega
/-- a marked store, read -/
theorem OwnSt.heldR {w : World} {B E EM EC bc lc n : Nat} {ba la : Option Addr} {zs : List PBox} {k K : Int} (h : OwnSt w B E EM EC ba bc (markTo zs k zs.length) la lc (markN DCommit.mark 6 n K)) :
    Rd w ba bc 4 zs.length ((markTo zs k zs.length).flatMap PBox.cells) ∧ RdM w (markTo zs k zs.length) ∧ Rd w la lc 6 n ((markN DCommit.mark 6 n K).flatMap DCommit.cells) := by
  refine ⟨?_, h.box.rdm, ?_⟩
  · have := h.box.rd; rwa [markTo_len] at this
  · have := Rd.of_Own h.log; rwa [markN_len] at this
end Go.Proofs.YtemgabekckhckaaGreat
