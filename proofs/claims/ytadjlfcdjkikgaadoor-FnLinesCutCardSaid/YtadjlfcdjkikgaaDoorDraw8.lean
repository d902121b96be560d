/-
  The draws of mailboxes in a slice.
-/
import Derived.Test.YtadjlfcdjkikgaaDoorDraw6
import Derived.Test.YtadjlfcdjkikgaaDoorWCopies
import Derived.Test.YtadjlfcdjkikgaaDoorWPerf
namespace Go.Proofs.YtadjlfcdjkikgaaDoor
open Go.RowKit
set_option linter.unusedVariables false
set_option linter.unusedSimpArgs false

/-- mailboxes that are small -/
def SmB (M : Nat) (l : List PBox) : Prop := ∀ y ∈ l, y.name.size ≤ 41 ∧ y.msgs.length ≤ M ∧ ∀ t ∈ y.msgs, t.text.size ≤ 41
theorem SmB.mono {M N : Nat} {l : List PBox} (h : SmB M l) (hn : M ≤ N) : SmB N l := fun y hy => ⟨(h y hy).1, Nat.le_trans (h y hy).2.1 hn, (h y hy).2.2⟩
theorem SmB.app {M : Nat} {l : List PBox} {x : PBox} (h : SmB M l) (h1 : x.name.size ≤ 41) (h2 : x.msgs.length ≤ M) (h3 : ∀ t ∈ x.msgs, t.text.size ≤ 41) : SmB M (l ++ [x]) := fun y hy => by
  rcases List.mem_append.1 hy with hy | hy
  · exact h y hy
  · rw [List.mem_singleton.1 hy]; exact ⟨h1, h2, h3⟩
theorem SmB.set {M : Nat} {l : List PBox} {x : PBox} {k : Nat} (h : SmB M l) (h1 : x.name.size ≤ 41) (h2 : x.msgs.length ≤ M) (h3 : ∀ t ∈ x.msgs, t.text.size ≤ 41) : SmB M (l.set k x) := fun y hy => by
  rcases List.mem_or_eq_of_mem_set hy with hy | hy
  · exact h y hy
  · rw [hy]; exact ⟨h1, h2, h3⟩
/-- mailboxes of the call's own, some of which may share their messages -/
structure OwnRs (w : World) (B E EM : Nat) (a : Option Addr) (c : Nat) (l : List PBox) : Prop where
  row : Own w B E 4 (.slice a l.length c) l.length (l.flatMap PBox.cells)
  msg : ∀ z ∈ l, Own w B EM 3 (.slice z.ma z.msgs.length z.mc) z.msgs.length (z.msgs.flatMap DMsg.cells)
theorem OwnBs.rs {w : World} {B E EM c : Nat} {a : Option Addr} {l : List PBox} (h : OwnBs w B E EM a c l) : OwnRs w B E EM a c l := ⟨h.row, h.msg⟩
theorem OwnRs.ext {w w' : World} {B E EM c : Nat} {a : Option Addr} {l : List PBox} (h : OwnRs w B E EM a c l) (hb : Below w.heap.size w w') : OwnRs w' B E EM a c l := ⟨h.row.ext hb, fun z hz => (h.msg z hz).ext hb⟩
theorem OwnRs.le {w : World} {B B' E EM c : Nat} {a : Option Addr} {l : List PBox} (h : OwnRs w B E EM a c l) (hb : B' ≤ B) : OwnRs w B' E EM a c l := ⟨h.row.le hb, fun z hz => (h.msg z hz).le hb⟩
theorem OwnRs.rd {w : World} {B E EM c : Nat} {a : Option Addr} {l : List PBox} (h : OwnRs w B E EM a c l) : Rd w a c 4 l.length (l.flatMap PBox.cells) := Rd.of_Own h.row
theorem OwnRs.rdm {w : World} {B E EM c : Nat} {a : Option Addr} {l : List PBox} (h : OwnRs w B E EM a c l) : RdM w l := fun z hz => Rd.of_Own (h.msg z hz)
theorem OwnRs.dr {w w' : World} {cb B E EM c : Nat} {a : Option Addr} {l : List PBox} (h : OwnRs w B E EM a c l) (hd : Dr cb w w') (hB : cb < B) : OwnRs w' B E EM a c l := ⟨h.row.dr hd hB, fun z hz => (h.msg z hz).dr hd hB⟩
theorem OwnRs.set_below {w : World} {B E EM c : Nat} {a : Option Addr} {l : List PBox} (h : OwnRs w B E EM a c l) {p : Addr} (hp : p.block < B) (u : Value) : OwnRs (w.setCell p u) B E EM a c l := ⟨h.row.set_below hp u, fun z hz => (h.msg z hz).set_below hp u⟩
theorem OwnRs.nil (w : World) (B E EM : Nat) (a : Option Addr) : OwnRs w B E EM a 0 [] := (OwnBs.nil w B E EM a).rs
theorem OwnBs.dr {w w' : World} {cb B E EM c : Nat} {a : Option Addr} {l : List PBox} (h : OwnBs w B E EM a c l) (hd : Dr cb w w') (hB : cb < B) : OwnBs w' B E EM a c l :=
  h.chg hd.chg (fun k hk e => by have := (h.rows_lt k hk).1; omega)
/-- one mailbox laid over another -/
theorem OwnBs.dup {w : World} {B E EM g c j i : Nat} {m : List PBox} (h : OwnBs w B E EM (some ⟨g, 0, none⟩) c m) (hc : c ≠ 0) (hj : j < m.length) (hi : i < m.length) :
    OwnRs (putW w g (j * 4) m[i].cells) B E EM (some ⟨g, 0, none⟩) c (m.set j m[i]) := by
  obtain ⟨g', hg', hrow⟩ := h.row.row hc
  cases hg'
  obtain ⟨h1, g1⟩ := own_put m[i].cells w (j * 4) _ hrow
  rw [putAt_flat PBox.cells_len m j hj] at h1
  have ho : ∀ (y : PBox), y ∈ m → foot y.key ≠ some g := fun y hy e => by
    rcases h.off y.key (List.mem_map_of_mem hy) with h2 | h2
    · rw [h2] at e; cases e
    · exact h2 (by rw [e]; simp [foot, hc])
  refine ⟨by rw [List.length_set]; exact Own.of_row h1, fun z hz => ?_⟩
  have hz' : z ∈ m := by
    rcases List.mem_or_eq_of_mem_set hz with h2 | h2
    · exact h2
    · rw [h2]; exact List.getElem_mem hi
  exact Own.putW_off (ho z hz') _ _ _ (h.msg z hz')
theorem msgs_app {l : List DMsg} {x : DMsg} {n : Nat} (h : ∀ t ∈ l, t.text.size ≤ n) (hx : x.text.size ≤ n) : ∀ t ∈ l ++ [x], t.text.size ≤ n := fun y hy => by
  rcases List.mem_append.1 hy with hy | hy
  · exact h y hy
  · rw [List.mem_singleton.1 hy]; exact hx
def DrBs (N : Nat) (cb : Nat) (w : World) (e : Ending) (w' : World) : Prop := ∃ (g : Option Addr) (q : Nat) (zs : List PBox), zs.length ≤ N ∧ SmB 5 zs ∧ e = .returned (.slice g zs.length q) ∧ OwnBs w' w.heap.size 85 111 g q zs ∧ Dr cb w w'
def DrRs (N : Nat) (cb : Nat) (w : World) (e : Ending) (w' : World) : Prop := ∃ (g : Option Addr) (q : Nat) (zs : List PBox), zs.length ≤ N ∧ SmB 6 zs ∧ e = .returned (.slice g zs.length q) ∧ OwnRs w' w.heap.size 85 111 g q zs ∧ Dr cb w w'
def RRel (cb : Nat) (w : World) (v nv i : Value) (wr : World) : Prop :=
  ∃ (k nn : Nat) (g : Option Addr) (q : Nat) (zs : List PBox), k ≤ 4 ∧ nn ≤ k ∧ i = .int .i64 k ∧ nv = .int .i64 nn ∧ v = .slice g zs.length q ∧ zs.length ≤ k ∧ Hid (SmB 5 zs) ∧ Hid (OwnBs wr (w.heap.size + 2) 85 111 g q zs) ∧ Hid (Bx wr (w.heap.size + 1) [.string ⟨#[97]⟩, .string ⟨#[97, 47, 98]⟩, .string ⟨#[97, 98]⟩, .string ⟨#[105, 110, 98, 111, 120]⟩]) ∧ Dr cb w wr ∧ w.heap.size + 2 ≤ wr.heap.size
theorem names_at (k : Nat) (hk : k < 4) : ∃ nm : ByteArray, nm.size ≤ 5 ∧ ([.string ⟨#[97]⟩, .string ⟨#[97, 47, 98]⟩, .string ⟨#[97, 98]⟩, .string ⟨#[105, 110, 98, 111, 120]⟩] : List Value)[k]? = some (.string nm) := by
  obtain rfl | rfl | rfl | rfl : k = 0 ∨ k = 1 ∨ k = 2 ∨ k = 3 := by omega
  · exact ⟨_, by decide, rfl⟩
  · exact ⟨_, by decide, rfl⟩
  · exact ⟨_, by decide, rfl⟩
  · exact ⟨_, by decide, rfl⟩
end Go.Proofs.YtadjlfcdjkikgaaDoor
