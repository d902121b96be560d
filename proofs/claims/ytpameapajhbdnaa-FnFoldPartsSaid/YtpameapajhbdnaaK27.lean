/-
  Applied and AppliedAll: what they leave, bounded; the contracts in the law's words.
  AppliedAll: the program's function and the reference's.
  A commit on a store: the plain law, and the rows that it leaves.
  The program's commit on a store behind a pointer: what it leaves.
  Several commits on a store: the plain law.
  A commit that applies leaves valid mailboxes; the mailboxes of a valid store are valid: the plain law.
  What commits keep of mailboxes and of a store: the plain law.
  A commit keeps a store valid and its earlier states: the plain law.
  The contracts of commits, in the words of drawn mailboxes.
  The lines that are drawn: the loop's state.
-/
import Derived.Test.YtpameapajhbdnaaK06
import Derived.Test.YtpameapajhbdnaaK25
import Derived.Test.YtpameapajhbdnaaK24
import Derived.Test.YtpameapajhbdnaaK00
import Derived.Test.YtpameapajhbdnaaK05
import Derived.Test.YtpameapajhbdnaaK22
import Derived.Test.YtpameapajhbdnaaK18
import Derived.Test.YtpameapajhbdnaaK11
import Derived.Test.YtpameapajhbdnaaK26
import Derived.Test.YtpameapajhbdnaaK15
import Derived.Test.YtpameapajhbdnaaK14
namespace Go.Proofs.Ytpameapajhbdnaa
open Go.RowKit
set_option linter.unusedVariables false
set_option linter.unusedSimpArgs false

/-- one commit: what is left, and whether it applied -/
def AppRel (l : List DBox) (m : DCommit) (rr : List DBox) (rok : Bool) : Prop := Tells rok (AppliesP l m) ∧ (if rok then appD l m else l) = rr
theorem appRel_ex (l : List DBox) (m : DCommit) : ∃ rr rok, AppRel l m rr rok := by
  obtain ⟨b, hb⟩ := boolOf (AppliesP l m)
  exact ⟨_, b, hb, rfl⟩
theorem specApplied_law (l : List PBox) (a : Option Addr) (c : Nat) (m : DCommit) (w : World) (R : Rd w a c 4 l.length (l.flatMap PBox.cells)) (M : RdM w l) (hl : l.length ≤ 1048576) (hlm : ∀ y ∈ l, y.msgs.length ≤ 1048576) (gn : ∀ y ∈ l, y.name.size ≤ 9223372036854775807) (gt : ∀ y ∈ l, ∀ m ∈ y.msgs, m.text.size ≤ 9223372036854775807) (g1 : m.name.size ≤ 9223372036854775807) (g2 : m.text.size ≤ 9223372036854775807) (rr : List DBox) (rok : Bool) (H : Hid (AppRel (l.map PBox.box) m rr rok)) :
    Calls Try.prog 22 #[.slice a l.length c, .agg #[.int .i64 m.kind, .int .i64 m.validity, .int .i64 m.uid, .int .i64 m.flags, .string m.name, .string m.text]] w fun e w' => ∃ g q l', e = .returned (.tuple #[.slice g l'.length q, .bool rok]) ∧ OwnBs w' w.heap.size 52 111 g q l' ∧ l'.map PBox.box = rr ∧ Ext w w' := by
  obtain ⟨h1, rfl⟩ := H.out
  exact specApplied_any l a c m w R M hl hlm gn gt g1 g2 rok h1
end Go.Proofs.Ytpameapajhbdnaa

namespace Go.Proofs.Ytpameapajhbdnaa
open Go.RowKit
set_option linter.unusedVariables false
set_option linter.unusedSimpArgs false

end Go.Proofs.Ytpameapajhbdnaa

namespace Go.Proofs.Ytpameapajhbdnaa
open Go.RowKit
set_option linter.unusedVariables false
set_option linter.unusedSimpArgs false

structure DStore where
  boxes : List DBox
  log : List DCommit
  given : Int
theorem OwnBs.set_ne {w : World} {B E EM c : Nat} {a : Option Addr} {l : List PBox} (h : OwnBs w B E EM a c l) {p : Addr} (hp : ∀ k, rowsB a c l k → k ≠ p.block) (u : Value) : OwnBs (w.setCell p u) B E EM a c l :=
  h.chg (S := fun k => k = p.block) (Chg.set (S := fun k => k = p.block) (Chg.refl _ w) rfl u) (fun k hk e => hp k hk e)
theorem OwnSt.set_ne {w : World} {B E EM EC : Nat} {ba la : Option Addr} {bc lc : Nat} {zs : List PBox} {l : List DCommit} (h : OwnSt w B E EM EC ba bc zs la lc l) {p : Addr} (hp : ∀ k, rowsS ba bc zs la lc l.length k → k ≠ p.block) (u : Value) : OwnSt (w.setCell p u) B E EM EC ba bc zs la lc l :=
  h.chg (S := fun k => k = p.block) (Chg.set (S := fun k => k = p.block) (Chg.refl _ w) rfl u) (fun k hk e => hp k hk e)
end Go.Proofs.Ytpameapajhbdnaa

namespace Go.Proofs.Ytpameapajhbdnaa
open Go.RowKit
set_option linter.unusedVariables false
set_option linter.unusedSimpArgs false

/-- a store of the call's own behind a pointer to block b -/
structure StB (w : World) (b B E EM EC : Nat) (ga : Option Addr) (q : Nat) (zs : List PBox) (la : Option Addr) (lc : Nat) (l : List DCommit) (gv : Int) : Prop where
  own : OwnSt w B E EM EC ga q zs la lc l
  lt : b < w.heap.size
  off : ∀ k, rowsS ga q zs la lc l.length k → k ≠ b
  c0 : w.cell? ⟨b, 0, none⟩ = some (.slice ga zs.length q)
  c1 : w.cell? ⟨b, 1, none⟩ = some (.slice la l.length lc)
  c2 : w.cell? ⟨b, 2, none⟩ = some (.int .i64 gv)
  f0 : w.frozen? ⟨b, 0, none⟩ = false
  f1 : w.frozen? ⟨b, 1, none⟩ = false
  f2 : w.frozen? ⟨b, 2, none⟩ = false
theorem StB.chg {S : Nat → Prop} {w w' : World} {b B E EM EC q lc : Nat} {ga la : Option Addr} {zs : List PBox} {l : List DCommit} {gv : Int} (h : StB w b B E EM EC ga q zs la lc l gv) (hb : Chg S w w') (h1 : ¬ S b) (h2 : ∀ k, rowsS ga q zs la lc l.length k → ¬ S k) : StB w' b B E EM EC ga q zs la lc l gv :=
  ⟨h.own.chg hb h2, Nat.lt_of_lt_of_le h.lt hb.size, h.off, (hb.cell h.lt h1).trans h.c0, (hb.cell h.lt h1).trans h.c1, (hb.cell h.lt h1).trans h.c2, (hb.frozen h.lt h1).trans h.f0, (hb.frozen h.lt h1).trans h.f1, (hb.frozen h.lt h1).trans h.f2⟩
theorem StB.ext {w w' : World} {b B E EM EC q lc : Nat} {ga la : Option Addr} {zs : List PBox} {l : List DCommit} {gv : Int} (h : StB w b B E EM EC ga q zs la lc l gv) (hb : Ext w w') : StB w' b B E EM EC ga q zs la lc l gv :=
  h.chg (S := fun _ => False) (Chg.ext hb) (fun h => h) (fun _ _ h => h)
/-- a store behind the pointer, come out of the world w in which only the blocks in S may have changed -/
def StTo (S : Nat → Prop) (w : World) (b B E EM EC : Nat) (rs : DStore) (w' : World) : Prop :=
  ∃ ga q zs la lc, StB w' b B E EM EC ga q zs la lc rs.log rs.given ∧ zs.map PBox.box = rs.boxes ∧ Chg S w w' ∧ ∀ k, rowsS ga q zs la lc rs.log.length k → S k ∨ w.heap.size < k
theorem StB.boxes {S : Nat → Prop} {w w3 w5 : World} {b B E EM EC q lc q5 : Nat} {ga la g5 : Option Addr} {zs l5 : List PBox} {l : List DCommit} {gv : Int} {D : List DBox} (h : StB w3 b B E EM EC ga q zs la lc l gv) (hw : Ext w w3) (hlt : w.heap.size < w3.heap.size) (hS : ∀ k, (k = b ∨ rowsS ga q zs la lc l.length k) → S k)
    (hc : Chg (rowsB ga q zs) w3 w5) (ho : OwnBs w5 B E EM g5 q5 l5) (hn : NewR (rowsB ga q zs) w3 g5 q5 l5) (hd : l5.map PBox.box = D) : StTo S w b B E EM EC ⟨D, l, gv⟩ (w5.setCell ⟨b, 0, none⟩ (.slice g5 l5.length q5)) := by
  have hnb : ¬ rowsB ga q zs b := fun hk => h.off b (Or.inl hk) rfl
  have hnl : ∀ k, foot (.slice la l.length lc) = some k → ¬ rowsB ga q zs k := fun k hk hr => h.own.apart hr hk
  have hnr : ∀ k, rowsB g5 q5 l5 k → k ≠ b := fun k hk e => by
    rcases hn k hk with h1 | h1
    · exact h.off k (Or.inl h1) e
    · have := h.lt; omega
  have hnr2 : ∀ k, rowsB g5 q5 l5 k → foot (.slice la l.length lc) ≠ some k := fun k hk e => by
    rcases hn k hk with h1 | h1
    · exact hnl k e h1
    · have := (h.own.log.lt k e).2; omega
  have hoff : ∀ v : Value, (∀ k, foot v = some k → rowsB g5 q5 l5 k) → Off2 v (.slice la l.length lc) := fun v hv => by
    cases hf : foot v with
    | none => exact Or.inl hf
    | some k => exact Or.inr (fun e => hnr2 k (hv k hf) (by rw [← e, hf]))
  have c0 := (hc.cell (o := 0) h.lt hnb).trans h.c0
  have c1 := (hc.cell (o := 1) h.lt hnb).trans h.c1
  have c2 := (hc.cell (o := 2) h.lt hnb).trans h.c2
  have f0 := (hc.frozen (o := 0) h.lt hnb).trans h.f0
  have f1 := (hc.frozen (o := 1) h.lt hnb).trans h.f1
  have f2 := (hc.frozen (o := 2) h.lt hnb).trans h.f2
  refine ⟨g5, q5, l5, la, lc, ⟨⟨ho.set_ne hnr _, ?_, hoff _ (fun k hk => Or.inl hk), fun z hz => hoff _ (fun k hk => Or.inr ⟨z.key, List.mem_map_of_mem hz, hk⟩)⟩, ?_, ?_, set_same c0, set_other c1 (by omega), set_other c2 (by omega), setf f0, setf f1, setf f2⟩, hd, ?_, ?_⟩
  · exact (h.own.log.chg hc hnl).set_off (fun e => h.off b (Or.inr e) rfl) _
  · have h1 := h.lt
    have h2 := hc.size
    simp [World.setCell]; omega
  · intro k hk
    rcases hk with hk | hk
    · exact hnr k hk
    · exact h.off k (Or.inr hk)
  · exact Chg.set ((Chg.ext hw).trans (hc.mono (fun k hk => hS k (Or.inr (Or.inl hk))))) (hS b (Or.inl rfl)) _
  · intro k hk
    rcases hk with hk | hk
    · rcases hn k hk with h1 | h1
      · exact Or.inl (hS k (Or.inr (Or.inl h1)))
      · exact Or.inr (by omega)
    · exact Or.inl (hS k (Or.inr (Or.inr hk)))
theorem StTo.log {S : Nat → Prop} {w w3 w6 : World} {b B E EM EC q lc q6 n6 : Nat} {ga la g6 : Option Addr} {zs : List PBox} {rs : DStore} {m : DCommit} (h : StB w3 b B E EM EC ga q zs la lc rs.log rs.given) (hd : zs.map PBox.box = rs.boxes) (hch : Chg S w w3) (hr : ∀ k, rowsS ga q zs la lc rs.log.length k → S k ∨ w.heap.size < k) (hlt : w.heap.size < w3.heap.size) (hb : S b)
    {w4 : World} (h34 : Ext w3 w4) (hn : n6 = rs.log.length + 1) (ho : Own w6 B EC 6 (.slice g6 n6 q6) n6 (rs.log.flatMap DCommit.cells ++ m.cells)) (hg : w4.grownBy w6 (foot (.slice la rs.log.length lc))) (hw : ∀ k, foot (.slice g6 n6 q6) = some k → foot (.slice la rs.log.length lc) = some k ∨ k = w4.heap.size) :
    StTo S w b B E EM EC ⟨rs.boxes, rs.log ++ [m], rs.given⟩ (w6.setCell ⟨b, 1, none⟩ (.slice g6 n6 q6)) := by
  subst hn
  have hlen : (rs.log ++ [m]).length = rs.log.length + 1 := by simp
  have hc : Chg (fun k => foot (.slice la rs.log.length lc) = some k) w3 w6 := (Chg.ext h34).trans (Chg.grown hg (fun k e => e))
  have hnb : foot (.slice la rs.log.length lc) ≠ some b := fun e => h.off b (Or.inr e) rfl
  have hs34 := h34.size
  have hnw : ∀ k, foot (.slice g6 (rs.log.length + 1) q6) = some k → foot (.slice la rs.log.length lc) = some k ∨ w3.heap.size ≤ k := fun k hk => (hw k hk).imp_right (fun e => by omega)
  have hne : ∀ k, rowsB ga q zs k → foot (.slice g6 (rs.log.length + 1) q6) ≠ some k := fun k hk e => by
    rcases hnw k e with h2 | h2
    · exact h.own.apart hk h2
    · have := (h.own.box.rows_lt k hk).2; omega
  have hnb6 : foot (.slice g6 (rs.log.length + 1) q6) ≠ some b := fun e => by
    rcases hnw b e with h2 | h2
    · exact hnb h2
    · have := h.lt; omega
  have hoff : ∀ v : Value, (∀ k, foot v = some k → rowsB ga q zs k) → Off2 v (.slice g6 (rs.log ++ [m]).length q6) := fun v hv => by
    rw [hlen]
    cases hf : foot v with
    | none => exact Or.inl hf
    | some k => exact Or.inr (fun e => hne k (hv k hf) (by rw [← e, hf]))
  have c0 := (hc.cell (o := 0) h.lt hnb).trans h.c0
  have c1 := (hc.cell (o := 1) h.lt hnb).trans h.c1
  have c2 := (hc.cell (o := 2) h.lt hnb).trans h.c2
  have f0 := (hc.frozen (o := 0) h.lt hnb).trans h.f0
  have f1 := (hc.frozen (o := 1) h.lt hnb).trans h.f1
  have f2 := (hc.frozen (o := 2) h.lt hnb).trans h.f2
  refine ⟨ga, q, zs, g6, q6, ⟨⟨(h.own.box.chg hc (fun k hk e => h.own.apart hk e)).set_ne (fun k hk => h.off k (Or.inl hk)) _, ?_, hoff _ (fun k hk => Or.inl hk), fun z hz => hoff _ (fun k hk => Or.inr ⟨z.key, List.mem_map_of_mem hz, hk⟩)⟩, ?_, ?_, set_other c0 (by omega), ?_, set_other c2 (by omega), setf f0, setf f1, setf f2⟩, hd, ?_, ?_⟩
  · show Own _ B EC 6 (.slice g6 (rs.log ++ [m]).length q6) (rs.log ++ [m]).length ((rs.log ++ [m]).flatMap DCommit.cells)
    rw [hlen, List.flatMap_append]
    exact (by simpa using ho.set_off hnb6 _)
  · have h1 := h.lt
    have h2 := hc.size
    simp [World.setCell]; omega
  · intro k hk
    rcases hk with hk | hk
    · exact h.off k (Or.inl hk)
    · intro e
      subst e
      exact hnb6 (by rw [← hk]; exact foot_len _ _ _ _)
  · show _ = some (Value.slice g6 (rs.log ++ [m]).length q6)
    rw [hlen]; exact set_same c1
  · refine Chg.set (w1 := w6) ⟨hc.os.trans hch.os, hc.tape.trans hch.tape, hc.output.trans hch.output, Nat.le_trans hch.size hc.size, fun k hk hnS => ?_⟩ hb _
    have h1 := hch.size
    exact (hc.block k (by omega) (fun e => (hr k (Or.inr e)).elim hnS (fun h => by omega))).trans (hch.block k hk hnS)
  · intro k hk
    rcases hk with hk | hk
    · exact hr k (Or.inl hk)
    · rcases hnw k ((foot_len _ _ _ _).trans hk) with h1 | h1
      · exact hr k (Or.inr h1)
      · exact Or.inr (by omega)
theorem StTo.given {S : Nat → Prop} {w w3 w4 : World} {b B E EM EC q lc : Nat} {ga la : Option Addr} {zs : List PBox} {rs : DStore} (h : StB w3 b B E EM EC ga q zs la lc rs.log rs.given) (hd : zs.map PBox.box = rs.boxes) (hch : Chg S w w3) (hr : ∀ k, rowsS ga q zs la lc rs.log.length k → S k ∨ w.heap.size < k) (hb : S b) (h34 : Ext w3 w4) (v : Int) :
    StTo S w b B E EM EC ⟨rs.boxes, rs.log, v⟩ (w4.setCell ⟨b, 2, none⟩ (.int .i64 v)) := by
  have h4 := h.ext h34
  exact ⟨ga, q, zs, la, lc, ⟨h4.own.set_ne h4.off _, by simpa [World.setCell] using h4.lt, h4.off, set_other h4.c0 (by omega), set_other h4.c1 (by omega), set_same h4.c2, setf h4.f0, setf h4.f1, setf h4.f2⟩, hd, Chg.set (hch.trans (Chg.ext h34)) hb _, hr⟩
theorem StB.same {w w' : World} {b B E EM EC q lc : Nat} {ga la : Option Addr} {zs : List PBox} {l : List DCommit} {gv : Int} (h : StB w b B E EM EC ga q zs la lc l gv) (hb : Ext w w') : StTo (fun k => k = b ∨ rowsS ga q zs la lc l.length k) w b B E EM EC ⟨zs.map PBox.box, l, gv⟩ w' :=
  ⟨ga, q, zs, la, lc, h.ext hb, rfl, Chg.ext hb, fun k hk => Or.inl (Or.inr hk)⟩
/-- a commit lies in block M -/
structure MB (w : World) (M : Nat) (m : DCommit) : Prop where
  lt : M < w.heap.size
  c0 : w.cell? ⟨M, 0, none⟩ = some (.int .i64 m.kind)
  c1 : w.cell? ⟨M, 1, none⟩ = some (.int .i64 m.validity)
  c2 : w.cell? ⟨M, 2, none⟩ = some (.int .i64 m.uid)
  c3 : w.cell? ⟨M, 3, none⟩ = some (.int .i64 m.flags)
  c4 : w.cell? ⟨M, 4, none⟩ = some (.string m.name)
  c5 : w.cell? ⟨M, 5, none⟩ = some (.string m.text)
theorem MB.chg {S : Nat → Prop} {w w' : World} {M : Nat} {m : DCommit} (h : MB w M m) (hb : Chg S w w') (hn : ¬ S M) : MB w' M m :=
  ⟨Nat.lt_of_lt_of_le h.lt hb.size, (hb.cell h.lt hn).trans h.c0, (hb.cell h.lt hn).trans h.c1, (hb.cell h.lt hn).trans h.c2, (hb.cell h.lt hn).trans h.c3, (hb.cell h.lt hn).trans h.c4, (hb.cell h.lt hn).trans h.c5⟩
theorem MB.ext {w w' : World} {M : Nat} {m : DCommit} (h : MB w M m) (hb : Ext w w') : MB w' M m := h.chg (S := fun _ => False) (Chg.ext hb) (fun h => h)
theorem MB.set {w : World} {M : Nat} {m : DCommit} (h : MB w M m) {p : Addr} (hp : p.block ≠ M) (u : Value) : MB (w.setCell p u) M m := h.chg (S := fun k => k = p.block) (Chg.set (S := fun k => k = p.block) (Chg.refl _ w) rfl u) (fun e => hp e.symm)
theorem StTo.ext {S : Nat → Prop} {w w3 w4 : World} {b B E EM EC : Nat} {rs : DStore} (h : StTo S w b B E EM EC rs w3) (hb : Ext w3 w4) : StTo S w b B E EM EC rs w4 := by
  obtain ⟨ga, q, zs, la, lc, h1, h2, h3, h4⟩ := h
  exact ⟨ga, q, zs, la, lc, h1.ext hb, h2, h3.trans (Chg.ext hb), h4⟩
/-- between two statements of commit -/
def QC (S : Nat → Prop) (w : World) (b B E EM EC : Nat) (rs : DStore) (m : DCommit) (wc : World) : Prop := StTo S w b B E EM EC rs wc ∧ MB wc w.heap.size m
theorem QC.ext {S : Nat → Prop} {w w3 w4 : World} {b B E EM EC : Nat} {rs : DStore} {m : DCommit} (h : QC S w b B E EM EC rs m w3) (hb : Ext w3 w4) : QC S w b B E EM EC rs m w4 := ⟨h.1.ext hb, h.2.ext hb⟩
end Go.Proofs.Ytpameapajhbdnaa

namespace Go.Proofs.Ytpameapajhbdnaa
open Go.RowKit
set_option linter.unusedVariables false
set_option linter.unusedSimpArgs false

/-- a fresh box with the copied store -/
theorem StB.new {w4 : World} {B E EM EC q lc t : Nat} {ga la : Option Addr} {zs : List PBox} {l : List DCommit} {gv : Int} (h : OwnSt w4 B E EM EC ga q zs la lc l) : StB (w4.alloc (.cells #[.slice ga zs.length q, .slice la l.length lc, .int .i64 gv] t)) w4.heap.size B E EM EC ga q zs la lc l gv :=
  ⟨h.ext ((Below.refl _ _).alloc (Nat.le_refl _) _), by simp, fun k hk e => by have := (h.rows_lt k hk).2; omega, by simp [go_sem], by simp [go_sem], by simp [go_sem], by simp [go_sem], by simp [go_sem], by simp [go_sem]⟩
end Go.Proofs.Ytpameapajhbdnaa

namespace Go.Proofs.Ytpameapajhbdnaa
open Go.RowKit
set_option linter.unusedVariables false
set_option linter.unusedSimpArgs false

/-- messages that are right below nx, in the words of lists -/
def MsgsQ (nx : Int) (l : List DMsg) : Prop := (∀ m ∈ l, (1 ≤ m.uid ∧ m.uid ≤ nx - 1) ∧ (0 ≤ m.flags ∧ m.flags ≤ 31) ∧ m.text.size ≤ 40) ∧ l.Pairwise fun a b => a.uid < b.uid
theorem wrap_pred {nx : Int} (h1 : 1 ≤ nx) (h2 : nx ≤ 999999999) : wrap64 (nx - 1) = nx - 1 := by
  unfold wrap64
  omega
theorem pair_step {α : Type} {R : α → α → Prop} (ht : ∀ a b c, R a b → R b c → R a c) : ∀ (l : List α), (∀ k (h : k < l.length), 0 < k → R l[k - 1] l[k]) → l.Pairwise R := fun l h => by
  rw [List.pairwise_iff_getElem]
  intro i j hi hj hij
  obtain ⟨d, rfl⟩ : ∃ d, j = i + 1 + d := ⟨j - (i + 1), by omega⟩
  clear hij
  induction d with
  | zero => have := h (i + 1) hj (by omega); simpa using this
  | succ d ih => exact ht _ _ _ (ih (by omega)) (by have := h (i + 1 + (d + 1)) hj (by omega); simpa using this)
theorem msgs_iff {nx : Int} (h1 : 1 ≤ nx) (h2 : nx ≤ 999999999) (l : List DMsg) : (∀ k, k < l.length → MsgAt nx l k) ↔ MsgsQ nx l := by
  have hw := wrap_pred h1 h2
  constructor
  · intro h
    refine ⟨fun m hm => ?_, pair_step (R := fun a b : DMsg => a.uid < b.uid) (fun a b c => Int.lt_trans) l fun k hk hk0 => ?_⟩
    · obtain ⟨k, hk, rfl⟩ := List.mem_iff_getElem.1 hm
      obtain ⟨h0, h3, h4, h5, -⟩ := h k hk
      rw [hw] at h3
      exact ⟨h3, h4, h5⟩
    · obtain ⟨h0, -, -, -, h6⟩ := h k hk
      exact h6 hk0
  · rintro ⟨ha, hp⟩ k hk
    obtain ⟨h3, h4, h5⟩ := ha _ (List.getElem_mem hk)
    refine ⟨hk, by rw [hw]; exact h3, h4, h5, fun h0 => ?_⟩
    exact List.pairwise_iff_getElem.1 hp (k - 1) k (by omega) hk (by omega)
/-- a mailbox that is right, in the words of lists -/
def BoxQ (b : DBox) : Prop := NameP b.name ∧ (1 ≤ b.validity ∧ b.validity ≤ 999999999) ∧ (1 ≤ b.next ∧ b.next ≤ 999999999) ∧ b.msgs.length ≤ 6 ∧ MsgsQ b.next b.msgs
theorem box_iff (b : DBox) : BoxP b.name b.validity b.next b.msgs ↔ BoxQ b := by
  unfold BoxP BoxQ
  constructor
  · rintro ⟨h1, h2, h3, h4, h5⟩
    exact ⟨h1, h2, h3, h4, (msgs_iff h3.1 h3.2 _).1 h5⟩
  · rintro ⟨h1, h2, h3, h4, h5⟩
    exact ⟨h1, h2, h3, h4, (msgs_iff h3.1 h3.2 _).2 h5⟩
/-- mailboxes that are right, in the words of lists -/
def BoxesQ (l : List DBox) : Prop := (∀ b ∈ l, BoxQ b) ∧ Rise l ∧ (l.map DBox.validity).Nodup ∧ l.length ≤ 4
theorem boxes_iff (l : List DBox) : BoxesP l ↔ BoxesQ l := by
  constructor
  · intro h
    refine ⟨fun b hb => ?_, boxesP_rise h, ?_, h.2⟩
    · obtain ⟨k, hk, rfl⟩ := List.mem_iff_getElem.1 hb
      obtain ⟨h0, h1, -, -⟩ := h.1 k hk
      exact (box_iff _).1 h1
    · rw [List.nodup_iff_pairwise_ne, List.pairwise_map, List.pairwise_iff_getElem]
      intro i j hi hj hij e
      obtain ⟨h0, -, -, h3⟩ := h.1 j hj
      have h4 := (firstI_first (fun b : DBox => decide (b.validity = l[j].validity)) l i hi (by simpa using e)).2
      have h5 : boxWith l[j].validity l ≤ i := h4
      omega
  · rintro ⟨h1, h2, h3, h4⟩
    refine ⟨fun k hk => ⟨hk, (box_iff _).2 (h1 _ (List.getElem_mem hk)), fun h0 => ?_, ?_⟩, h4⟩
    · exact List.pairwise_iff_getElem.1 h2 (k - 1) k (by omega) hk (by omega)
    · refine firstI_hit hk (by simp) fun j hj hjk => ?_
      rw [List.nodup_iff_pairwise_ne, List.pairwise_map, List.pairwise_iff_getElem] at h3
      exact decide_eq_false (h3 j k hj hk hjk)
theorem msgsQ_sub {nx : Int} {l k : List DMsg} (h : MsgsQ nx l) (hs : k.Sublist l) : MsgsQ nx k :=
  ⟨fun m hm => h.1 m (hs.subset hm), h.2.sublist hs⟩
theorem msgsQ_add {nx : Int} {l : List DMsg} {f : Int} {t : ByteArray} (h : MsgsQ nx l) (h1 : 1 ≤ nx) (hf : 0 ≤ f ∧ f ≤ 31) (ht : t.size ≤ 40) : MsgsQ (nx + 1) (l ++ [⟨nx, f, t⟩]) := by
  refine ⟨fun m hm => ?_, ?_⟩
  · rcases List.mem_append.1 hm with h2 | h2
    · obtain ⟨h3, h4⟩ := h.1 m h2
      exact ⟨⟨h3.1, by omega⟩, h4⟩
    · rw [List.mem_singleton.1 h2]
      exact ⟨⟨h1, by show nx ≤ nx + 1 - 1; omega⟩, hf, ht⟩
  · rw [List.pairwise_append]
    refine ⟨h.2, by simp, fun a ha b hb => ?_⟩
    rw [List.mem_singleton.1 hb]
    have := (h.1 a ha).1.2
    show a.uid < nx
    omega
theorem msgsQ_set {nx : Int} {l : List DMsg} {i : Nat} (h : MsgsQ nx l) (hi : i < l.length) {f : Int} (hf : 0 ≤ f ∧ f ≤ 31) : MsgsQ nx (l.set i ⟨l[i].uid, f, l[i].text⟩) := by
  refine ⟨fun m hm => ?_, ?_⟩
  · rcases List.mem_or_eq_of_mem_set hm with h2 | h2
    · exact h.1 m h2
    · obtain ⟨h3, -, h5⟩ := h.1 _ (List.getElem_mem hi)
      rw [h2]
      exact ⟨h3, hf, h5⟩
  · have e : (l.set i ⟨l[i].uid, f, l[i].text⟩).map DMsg.uid = l.map DMsg.uid := by
      refine List.ext_getElem (by simp) fun k h1 h2 => ?_
      rw [List.getElem_map, List.getElem_set, List.getElem_map]
      by_cases hk : i = k
      · subst hk; simp
      · rw [if_neg hk]
    have h3 : ((l.set i ⟨l[i].uid, f, l[i].text⟩).map DMsg.uid).Pairwise fun a b => a < b := by
      rw [e]; exact List.pairwise_map.2 h.2
    exact List.pairwise_map.1 h3
theorem pl_lt {u : Int} {l : List DMsg} (h : 0 ≤ placeOf u l) : pl u l < l.length := by
  have h2 := (firstI_range (fun m : DMsg => decide (m.uid = u)) l).2
  have h3 : placeOf u l < l.length := h2
  unfold pl
  omega
/-- what a commit makes of its mailbox is right -/
theorem newD_ok {b : DBox} {m : DCommit} (h : BoxQ b) (hm : CommitP m) (h1 : m.kind ≠ 1) (h2 : m.kind ≠ 2) (h4 : m.kind = 4 → m.uid = b.next ∧ b.msgs.length < 6) (h56 : m.kind = 5 ∨ m.kind = 6 → 0 ≤ placeOf m.uid b.msgs) : BoxQ (newD b m) := by
  obtain ⟨q1, q2, q3, q4, q5⟩ := h
  obtain ⟨hv, hk⟩ := hm
  rcases hk with hk | hk | ⟨e, hn, -⟩ | ⟨e, ⟨hu, hf, ht⟩, -⟩ | ⟨e, ⟨hu, hf⟩, -⟩ | ⟨e, hu, -⟩
  · exact absurd hk.1 h1
  · exact absurd hk.1 h2
  · have : newD b m = ⟨m.name, b.validity, b.next, b.msgs⟩ := by simp [newD, e]
    rw [this]
    exact ⟨hn, q2, q3, q4, q5⟩
  · obtain ⟨g1, g2⟩ := h4 e
    have : newD b m = ⟨b.name, b.validity, b.next + 1, b.msgs ++ [⟨m.uid, m.flags, m.text⟩]⟩ := by simp [newD, e]
    rw [this]
    refine ⟨q1, q2, ⟨by show 1 ≤ b.next + 1; omega, by show b.next + 1 ≤ 999999999; omega⟩, by simp; omega, ?_⟩
    show MsgsQ (b.next + 1) (b.msgs ++ [⟨m.uid, m.flags, m.text⟩])
    rw [g1]
    exact msgsQ_add q5 q3.1 hf ht
  · have hp := pl_lt (h56 (Or.inl e))
    have : newD b m = ⟨b.name, b.validity, b.next, b.msgs.set (pl m.uid b.msgs) ⟨b.msgs[pl m.uid b.msgs].uid, m.flags, b.msgs[pl m.uid b.msgs].text⟩⟩ := by
      simp [newD, e, theM_of hp]
    rw [this]
    exact ⟨q1, q2, q3, by simpa using q4, msgsQ_set q5 hp hf⟩
  · have : newD b m = ⟨b.name, b.validity, b.next, b.msgs.eraseIdx (pl m.uid b.msgs)⟩ := by simp [newD, e]
    rw [this]
    refine ⟨q1, q2, q3, ?_, msgsQ_sub q5 (List.eraseIdx_sublist ..)⟩
    have := List.length_eraseIdx_le b.msgs (pl m.uid b.msgs)
    show (b.msgs.eraseIdx _).length ≤ 6
    omega
theorem map_set_same {l : List DBox} {i : Nat} (hi : i < l.length) {x : DBox} (hx : x.validity = l[i].validity) : (l.set i x).map DBox.validity = l.map DBox.validity := by
  rw [List.map_set, hx]
  refine List.ext_getElem (by simp) fun k h1 h2 => ?_
  rw [List.getElem_set]
  by_cases hk : i = k
  · subst hk; simp
  · rw [if_neg hk]
theorem newD_valid (b : DBox) (m : DCommit) : (newD b m).validity = b.validity := by
  unfold newD
  (repeat' split) <;> rfl
theorem with_none {v : Int} {l : List DBox} (h : boxWith v l < 0) : ∀ y ∈ l, y.validity ≠ v := fun y hy => of_decide_eq_false (firstI_none h y hy)
/-- the changed mailboxes are right -/
theorem appD_ok {l : List DBox} {m : DCommit} (h : AppliesP l m) : BoxesP (appD l m) := by
  obtain ⟨hb, hm, hf⟩ := h
  obtain ⟨hp, hr⟩ := appD_perm hb hf
  rw [boxes_iff]
  obtain ⟨b1, b2, b3, b4⟩ := (boxes_iff l).1 hb
  suffices hq : (∀ b ∈ perfD l m, BoxQ b) ∧ ((perfD l m).map DBox.validity).Nodup ∧ (perfD l m).length ≤ 4 from
    ⟨fun b hbm => hq.1 b (hp.symm.subset hbm), hr, (hp.map DBox.validity).nodup_iff.1 hq.2.1, by rw [← hp.length_eq]; exact hq.2.2⟩
  unfold perfD
  by_cases h1 : m.kind = 1
  · rw [if_pos h1]
    obtain ⟨g1, g2, g3⟩ := hf.1 h1
    have hn : NameP m.name := by
      obtain ⟨-, hk⟩ := hm
      rcases hk with ⟨-, hn, -⟩ | hk | hk | hk | hk | hk
      · exact hn
      all_goals exact absurd hk.1 (by omega)
    refine ⟨fun b hbm => ?_, ?_, by simp; omega⟩
    · rcases List.mem_append.1 hbm with h2 | h2
      · exact b1 b h2
      · rw [List.mem_singleton.1 h2]
        exact ⟨hn, hm.1, ⟨Int.le_refl 1, by show (1 : Int) ≤ 999999999; decide⟩, Nat.zero_le _, ⟨fun x hx => absurd hx (by simp), List.Pairwise.nil⟩⟩
    · rw [List.map_append, List.nodup_append]
      refine ⟨b3, by simp, fun a ha c hc => ?_⟩
      obtain ⟨y, hy, rfl⟩ := List.mem_map.1 ha
      have : c = m.validity := by simpa using hc
      rw [this]
      exact with_none g2 y hy
  rw [if_neg h1]
  obtain ⟨i, hi, hz, h3, h4, h5⟩ := hf.2 h1
  have ha : atD l m = i := by unfold atD; omega
  rw [ha]
  by_cases h2 : m.kind = 2
  · rw [if_pos h2]
    have hs := List.eraseIdx_sublist l i
    exact ⟨fun b hbm => b1 b (hs.subset hbm), b3.sublist (hs.map _), Nat.le_trans hs.length_le b4⟩
  · rw [if_neg h2, theD_of hi]
    refine ⟨fun b hbm => ?_, by rw [map_set_same hi (newD_valid _ _)]; exact b3, by simpa using b4⟩
    rcases List.mem_or_eq_of_mem_set hbm with h6 | h6
    · exact b1 b h6
    · rw [h6]
      exact newD_ok (b1 _ (List.getElem_mem hi)) hm h1 h2 h4 h5
end Go.Proofs.Ytpameapajhbdnaa

namespace Go.Proofs.Ytpameapajhbdnaa
open Go.RowKit
set_option linter.unusedVariables false
set_option linter.unusedSimpArgs false

end Go.Proofs.Ytpameapajhbdnaa

namespace Go.Proofs.Ytpameapajhbdnaa
open Go.RowKit
set_option linter.unusedVariables false
set_option linter.unusedSimpArgs false

end Go.Proofs.Ytpameapajhbdnaa

namespace Go.Proofs.Ytpameapajhbdnaa
open Go.RowKit
set_option linter.unusedVariables false
set_option linter.unusedSimpArgs false

/-- mailboxes that can be read, and are small -/
structure Bq (w : World) (a : Option Addr) (c : Nat) (zs : List PBox) : Prop where
  rd : Rd w a c 4 zs.length (zs.flatMap PBox.cells)
  rdm : RdM w zs
  len : zs.length ≤ 5
  sm : SmB 6 zs
theorem Bq.ext {w w' : World} {a : Option Addr} {c : Nat} {zs : List PBox} (h : Bq w a c zs) (hb : Ext w w') : Bq w' a c zs := ⟨h.rd.ext hb, h.rdm.ext hb, h.len, h.sm⟩
theorem OwnRs.bq {w : World} {B E EM c : Nat} {a : Option Addr} {zs : List PBox} (h : OwnRs w B E EM a c zs) (hl : zs.length ≤ 5) (hs : SmB 6 zs) : Bq w a c zs := ⟨h.rd, h.rdm, hl, hs⟩
theorem smB_of {l : List PBox} {D : List DBox} (h : l.map PBox.box = D) (hD : ∀ y ∈ D, y.name.size ≤ 41 ∧ y.msgs.length ≤ 6 ∧ ∀ t ∈ y.msgs, t.text.size ≤ 41) : SmB 6 l := fun y hy => hD y.box (h ▸ List.mem_map_of_mem hy)
theorem bxs_small {l' : List PBox} {D : List DBox} (hl' : l'.map PBox.box = D) (hD : BoxesP D) : l'.length ≤ 5 ∧ SmB 6 l' := by
  have hq := (boxes_iff _).1 hD
  refine ⟨by have h := congrArg List.length hl'; have := hq.2.2.2; simp at h; omega, smB_of hl' fun y hy => ?_⟩
  obtain ⟨q1, q2, q3, q4, q5⟩ := hq.1 y hy
  exact ⟨Nat.le_trans q1.2.2 (by omega), q4, fun t ht => Nat.le_trans (q5.1 t ht).2.2 (by omega)⟩
theorem same_small {zs l' : List PBox} (hl' : l'.map PBox.box = zs.map PBox.box) (hz : zs.length ≤ 5) (hs : SmB 6 zs) : l'.length ≤ 5 ∧ SmB 6 l' := by
  refine ⟨by have h := congrArg List.length hl'; simp at h; omega, smB_of hl' fun y hy => ?_⟩
  obtain ⟨z, hz2, rfl⟩ := List.mem_map.1 hy
  exact hs z hz2
theorem app_smallB {zs l' : List PBox} {m : DCommit} {rr : List DBox} {rok : Bool} (h : AppRel (zs.map PBox.box) m rr rok) (hl' : l'.map PBox.box = rr) (hz : zs.length ≤ 5) (hs : SmB 6 zs) : l'.length ≤ 5 ∧ SmB 6 l' := by
  obtain ⟨ht, rfl⟩ := h
  cases rok with
  | false => exact same_small hl' hz hs
  | true => exact bxs_small hl' (appD_ok (yes_of ht))
theorem OwnBs.bq {w : World} {B E EM c : Nat} {a : Option Addr} {zs : List PBox} (h : OwnBs w B E EM a c zs) (hs : zs.length ≤ 5 ∧ SmB 6 zs) : Bq w a c zs := ⟨h.rd, h.rdm, hs.1, hs.2⟩
theorem specApplied_bq (zs : List PBox) (a : Option Addr) (c : Nat) (w : World) (h : Bq w a c zs) (m : DCommit) (g1 : m.name.size ≤ 41) (g2 : m.text.size ≤ 41) (rr : List DBox) (rok : Bool) (H : Hid (AppRel (zs.map PBox.box) m rr rok)) :
    Calls Try.prog 22 #[.slice a zs.length c, .agg #[.int .i64 m.kind, .int .i64 m.validity, .int .i64 m.uid, .int .i64 m.flags, .string m.name, .string m.text]] w (fun e w' => ∃ g q l', e = .returned (.tuple #[.slice g l'.length q, .bool rok]) ∧ OwnBs w' w.heap.size 52 111 g q l' ∧ l'.map PBox.box = rr ∧ Ext w w') :=
  specApplied_law zs a c m w h.rd h.rdm (by have := h.len; omega) (fun y hy => by have := (h.sm y hy).2.1; omega) (fun y hy => by have := (h.sm y hy).1; omega) (fun y hy t ht => by have := (h.sm y hy).2.2 t ht; omega) (by omega) (by omega) rr rok H
end Go.Proofs.Ytpameapajhbdnaa

namespace Go.Proofs.Ytpameapajhbdnaa
open Go.RowKit
set_option linter.unusedVariables false
set_option linter.unusedSimpArgs false

/-- the loop's state: the mailbox in the block b3, the view in the block b5, and three rows of the call's own -/
structure LSt (w : World) (B cb b3 b5 : Nat) (nm : ByteArray) (va nx : Int) (ga : Option Addr) (qa : Nat) (ms : List DMsg) (gv : Option Addr) (qv : Nat) (vs : List DSeen) (go : Option Addr) (qo : Nat) (os : List DReply) : Prop where
  bx : Bx w b3 [.string nm, .int .i64 va, .int .i64 nx, .slice ga ms.length qa]
  bv : Bx w b5 [.slice gv vs.length qv]
  om : Own w B 111 3 (.slice ga ms.length qa) ms.length (ms.flatMap DMsg.cells)
  ov : Own w B 129 2 (.slice gv vs.length qv) vs.length (vs.flatMap DSeen.cells)
  oo : Own w B 131 6 (.slice go os.length qo) os.length (os.flatMap DReply.cells)
  hB : cb < B
  h3 : B ≤ b3
  h5 : B ≤ b5
  h35 : b3 ≠ b5
  m3 : foot (.slice ga ms.length qa) ≠ some b3
  m5 : foot (.slice ga ms.length qa) ≠ some b5
  v3 : foot (.slice gv vs.length qv) ≠ some b3
  v5 : foot (.slice gv vs.length qv) ≠ some b5
  o3 : foot (.slice go os.length qo) ≠ some b3
  o5 : foot (.slice go os.length qo) ≠ some b5
  mo : ∀ k, foot (.slice ga ms.length qa) = some k → foot (.slice go os.length qo) ≠ some k
  vo : ∀ k, foot (.slice gv vs.length qv) = some k → foot (.slice go os.length qo) ≠ some k
theorem off2_of {v v2 : Value} (h : ∀ k, foot v = some k → foot v2 ≠ some k) : Off2 v v2 := by
  cases hv : foot v with
  | none => exact Or.inl hv
  | some k => exact Or.inr (by rw [hv]; exact fun e => h k hv e.symm)
section
variable {w w' : World} {B cb b3 b5 : Nat} {nm : ByteArray} {va nx : Int} {ga : Option Addr} {qa : Nat} {ms : List DMsg} {gv : Option Addr} {qv : Nat} {vs : List DSeen} {go : Option Addr} {qo : Nat} {os : List DReply}
theorem LSt.ext (h : LSt w B cb b3 b5 nm va nx ga qa ms gv qv vs go qo os) (hw : Ext w w') : LSt w' B cb b3 b5 nm va nx ga qa ms gv qv vs go qo os :=
  ⟨h.bx.ext hw, h.bv.ext hw, h.om.ext hw, h.ov.ext hw, h.oo.ext hw, h.hB, h.h3, h.h5, h.h35, h.m3, h.m5, h.v3, h.v5, h.o3, h.o5, h.mo, h.vo⟩
theorem LSt.dr (h : LSt w B cb b3 b5 nm va nx ga qa ms gv qv vs go qo os) (hd : Dr cb w w') : LSt w' B cb b3 b5 nm va nx ga qa ms gv qv vs go qo os :=
  ⟨h.bx.dr hd (by have := h.h3; have := h.hB; omega), h.bv.dr hd (by have := h.h5; have := h.hB; omega), h.om.dr hd h.hB, h.ov.dr hd h.hB, h.oo.dr hd h.hB, h.hB, h.h3, h.h5, h.h35, h.m3, h.m5, h.v3, h.v5, h.o3, h.o5, h.mo, h.vo⟩
/-- another row of replies: it is the old one, or fresh -/
theorem LSt.app (h : LSt w B cb b3 b5 nm va nx ga qa ms gv qv vs go qo os) {g2 : Option Addr} {q2 : Nat} {os2 : List DReply} (hg : w.grownBy w' (foot (.slice go os.length qo))) (hn : Own w' B 131 6 (.slice g2 os2.length q2) os2.length (os2.flatMap DReply.cells))
    (hf : ∀ k, foot (.slice g2 os2.length q2) = some k → foot (.slice go os.length qo) = some k ∨ w.heap.size ≤ k) : LSt w' B cb b3 b5 nm va nx ga qa ms gv qv vs g2 q2 os2 := by
  have l3 := h.bx.lt
  have l5 := h.bv.lt
  refine ⟨h.bx.grown hg h.o3, h.bv.grown hg h.o5, h.om.off hg (off2_of h.mo), h.ov.off hg (off2_of h.vo), hn, h.hB, h.h3, h.h5, h.h35, h.m3, h.m5, h.v3, h.v5, fun e => ?_, fun e => ?_, fun k hk e => ?_, fun k hk e => ?_⟩
  · rcases hf _ e with h1 | h1
    · exact h.o3 h1
    · omega
  · rcases hf _ e with h1 | h1
    · exact h.o5 h1
    · omega
  · rcases hf _ e with h1 | h1
    · exact h.mo k hk h1
    · have := (h.om.lt k hk).2; omega
  · rcases hf _ e with h1 | h1
    · exact h.vo k hk h1
    · have := (h.ov.lt k hk).2; omega
/-- another view, with a fresh row -/
theorem LSt.setView (h : LSt w B cb b3 b5 nm va nx ga qa ms gv qv vs go qo os) {g2 : Option Addr} {q2 N : Nat} {vs2 : List DSeen} (hn : Own w B 129 2 (.slice g2 vs2.length q2) vs2.length (vs2.flatMap DSeen.cells))
    (h3 : b3 < N) (h5 : b5 < N) (ho : ∀ k, foot (.slice go os.length qo) = some k → k < N) (hf : ∀ k, foot (.slice g2 vs2.length q2) = some k → N ≤ k) : LSt (w.setCell ⟨b5, 0, none⟩ (.slice g2 vs2.length q2)) B cb b3 b5 nm va nx ga qa ms g2 q2 vs2 go qo os := by
  have n3 : foot (.slice g2 vs2.length q2) ≠ some b3 := fun e => by have := hf _ e; omega
  have n5 : foot (.slice g2 vs2.length q2) ≠ some b5 := fun e => by have := hf _ e; omega
  exact ⟨h.bx.set (p := ⟨b5, 0, none⟩) (fun e => h.h35 e.symm) _, h.bv.put1 0 _ rfl, h.om.set_off (p := ⟨b5, 0, none⟩) h.m5 _, hn.set_off (p := ⟨b5, 0, none⟩) n5 _, h.oo.set_off (p := ⟨b5, 0, none⟩) h.o5 _,
    h.hB, h.h3, h.h5, h.h35, h.m3, h.m5, n3, n5, h.o3, h.o5, h.mo, fun k hk e => by have h1 := hf k hk; have h2 := ho k e; omega⟩
end
end Go.Proofs.Ytpameapajhbdnaa
