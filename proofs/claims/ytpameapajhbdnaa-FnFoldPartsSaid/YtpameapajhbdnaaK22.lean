/-
  The draws of mailboxes in a slice.
-/
import Derived.Test.YtpameapajhbdnaaK07
import Derived.Test.YtpameapajhbdnaaK21
import Derived.Test.YtpameapajhbdnaaK06
namespace Go.Proofs.Ytpameapajhbdnaa
open Go.RowKit
set_option linter.unusedVariables false
set_option linter.unusedSimpArgs false

/-- mailboxes that are small -/
def SmB (M : Nat) (l : List PBox) : Prop := ∀ y ∈ l, y.name.size ≤ 41 ∧ y.msgs.length ≤ M ∧ ∀ t ∈ y.msgs, t.text.size ≤ 41
theorem SmB.mono {M N : Nat} {l : List PBox} (h : SmB M l) (hn : M ≤ N) : SmB N l := fun y hy => ⟨(h y hy).1, Nat.le_trans (h y hy).2.1 hn, (h y hy).2.2⟩
theorem SmB.app {M : Nat} {l : List PBox} {x : PBox} (h : SmB M l) (h1 : x.name.size ≤ 41) (h2 : x.msgs.length ≤ M) (h3 : ∀ t ∈ x.msgs, t.text.size ≤ 41) : SmB M (l ++ [x]) := fun y hy => by
  rcases List.mem_append.1 hy with hy | hy
  · exact h y hy
  · rw [List.mem_singleton.1 hy]; exact ⟨h1, h2, h3⟩
theorem SmB.set {M : Nat} {l : List PBox} {x : PBox} {k : Nat} (h : SmB M l) (h1 : x.name.size ≤ 41) (h2 : x.msgs.length ≤ M) (h3 : ∀ t ∈ x.msgs, t.text.size ≤ 41) : SmB M (l.set k x) := fun y hy => by
  rcases List.mem_or_eq_of_mem_set hy with hy | hy
  · exact h y hy
  · rw [hy]; exact ⟨h1, h2, h3⟩
/-- mailboxes of the call's own, some of which may share their messages -/
structure OwnRs (w : World) (B E EM : Nat) (a : Option Addr) (c : Nat) (l : List PBox) : Prop where
  row : Own w B E 4 (.slice a l.length c) l.length (l.flatMap PBox.cells)
  msg : ∀ z ∈ l, Own w B EM 3 (.slice z.ma z.msgs.length z.mc) z.msgs.length (z.msgs.flatMap DMsg.cells)
theorem OwnBs.rs {w : World} {B E EM c : Nat} {a : Option Addr} {l : List PBox} (h : OwnBs w B E EM a c l) : OwnRs w B E EM a c l := ⟨h.row, h.msg⟩
theorem OwnRs.ext {w w' : World} {B E EM c : Nat} {a : Option Addr} {l : List PBox} (h : OwnRs w B E EM a c l) (hb : Below w.heap.size w w') : OwnRs w' B E EM a c l := ⟨h.row.ext hb, fun z hz => (h.msg z hz).ext hb⟩
theorem OwnRs.le {w : World} {B B' E EM c : Nat} {a : Option Addr} {l : List PBox} (h : OwnRs w B E EM a c l) (hb : B' ≤ B) : OwnRs w B' E EM a c l := ⟨h.row.le hb, fun z hz => (h.msg z hz).le hb⟩
theorem OwnRs.rd {w : World} {B E EM c : Nat} {a : Option Addr} {l : List PBox} (h : OwnRs w B E EM a c l) : Rd w a c 4 l.length (l.flatMap PBox.cells) := Rd.of_Own h.row
theorem OwnRs.rdm {w : World} {B E EM c : Nat} {a : Option Addr} {l : List PBox} (h : OwnRs w B E EM a c l) : RdM w l := fun z hz => Rd.of_Own (h.msg z hz)
theorem OwnRs.dr {w w' : World} {cb B E EM c : Nat} {a : Option Addr} {l : List PBox} (h : OwnRs w B E EM a c l) (hd : Dr cb w w') (hB : cb < B) : OwnRs w' B E EM a c l := ⟨h.row.dr hd hB, fun z hz => (h.msg z hz).dr hd hB⟩
theorem OwnRs.set_below {w : World} {B E EM c : Nat} {a : Option Addr} {l : List PBox} (h : OwnRs w B E EM a c l) {p : Addr} (hp : p.block < B) (u : Value) : OwnRs (w.setCell p u) B E EM a c l := ⟨h.row.set_below hp u, fun z hz => (h.msg z hz).set_below hp u⟩
theorem OwnRs.nil (w : World) (B E EM : Nat) (a : Option Addr) : OwnRs w B E EM a 0 [] := (OwnBs.nil w B E EM a).rs
theorem OwnBs.dr {w w' : World} {cb B E EM c : Nat} {a : Option Addr} {l : List PBox} (h : OwnBs w B E EM a c l) (hd : Dr cb w w') (hB : cb < B) : OwnBs w' B E EM a c l :=
  h.chg hd.chg (fun k hk e => by have := (h.rows_lt k hk).1; omega)
end Go.Proofs.Ytpameapajhbdnaa
