/-
  A commit on a store: the plain law, and the rows that it leaves.
  The program's commit on a store behind a pointer: what it leaves.
-/
import Derived.Test.YtemgabekckhckaaGreatXLaw
import Derived.Test.YtemgabekckhckaaGreatListCommit
import Derived.Test.YtemgabekckhckaaGreatXOwn
import Derived.Test.YtemgabekckhckaaGreatXPerf
import Derived.Test.YtemgabekckhckaaGreatStrs
namespace Go.Proofs.YtemgabekckhckaaGreat
open Go.RowKit
set_option linter.unusedVariables false
set_option linter.unusedSimpArgs false

structure DStore where
  boxes : List DBox
  log : List DCommit
  given : Int
/-- the commit can be done on the store -/
def ComP (s : DStore) (m : DCommit) : Prop := AppliesP s.boxes m ∧ s.log.length < 300 ∧ ¬ (m.kind = 1 ∧ m.validity ≤ s.given)
noncomputable def comD (s : DStore) (m : DCommit) : DStore := ⟨appD s.boxes m, s.log ++ [m], max s.given m.validity⟩
def CmtRel (s : DStore) (m : DCommit) (rs : DStore) (rok : Bool) : Prop := Tells rok (ComP s m) ∧ (if rok then comD s m else s) = rs
theorem cmtRel_ex (s : DStore) (m : DCommit) : ∃ rs rok, CmtRel s m rs rok := by
  obtain ⟨b, hb⟩ := boolOf (ComP s m)
  exact ⟨_, b, hb, rfl⟩
/-- a store small enough for all contracts -/
def GoodS (s : DStore) : Prop := GoodD s.boxes ∧ s.log.length ≤ 1048576 ∧ ∀ y ∈ s.log, y.name.size ≤ 9223372036854775807 ∧ y.text.size ≤ 9223372036854775807
theorem good_com {s : DStore} {m : DCommit} (hg : GoodS s) (h : ComP s m) (h1 : m.name.size ≤ 9223372036854775807) (h2 : m.text.size ≤ 9223372036854775807) : GoodS (comD s m) := by
  refine ⟨good_app hg.1 h.1 h1 h2, ?_, fun y hy => ?_⟩
  · have := h.2.1
    simp [comD]; omega
  · rcases List.mem_append.1 hy with h3 | h3
    · exact hg.2.2 y h3
    · obtain rfl := List.mem_singleton.1 h3
      exact ⟨h1, h2⟩
theorem good_cmt {s rs : DStore} {m : DCommit} {rok : Bool} (h : CmtRel s m rs rok) (hg : GoodS s) (h1 : m.name.size ≤ 9223372036854775807) (h2 : m.text.size ≤ 9223372036854775807) : GoodS rs := by
  obtain ⟨ht, rfl⟩ := h
  cases rok with
  | false => exact hg
  | true => exact good_com hg (ht.1 rfl) h1 h2
def cntS (s : DStore) : Nat := cntD s.boxes
theorem cmtRel_cnt {s rs : DStore} {m : DCommit} {rok : Bool} (h : CmtRel s m rs rok) (hl : cntD s.boxes ≤ 3145728) (hg : s.log.length ≤ 1048576) : cntD rs.boxes ≤ 3145728 ∧ rs.log.length ≤ 1048576 := by
  obtain ⟨ht, rfl⟩ := h
  cases rok with
  | false => exact ⟨hl, hg⟩
  | true =>
    have hp := ht.1 rfl
    refine ⟨appRel_cnt (l := s.boxes) (m := m) (rok := true) ⟨⟨fun _ => hp.1, fun _ => rfl⟩, rfl⟩ hl, ?_⟩
    have := hp.2.1
    simp [comD]; omega
theorem OwnBs.set_ne {w : World} {B E EM c : Nat} {a : Option Addr} {l : List PBox} (h : OwnBs w B E EM a c l) {p : Addr} (hp : ∀ k, rowsB a c l k → k ≠ p.block) (u : Value) : OwnBs (w.setCell p u) B E EM a c l :=
  h.chg (S := fun k => k = p.block) (Chg.set (S := fun k => k = p.block) (Chg.refl _ w) rfl u) (fun k hk e => hp k hk e)
theorem OwnSt.set_ne {w : World} {B E EM EC : Nat} {ba la : Option Addr} {bc lc : Nat} {zs : List PBox} {l : List DCommit} (h : OwnSt w B E EM EC ba bc zs la lc l) {p : Addr} (hp : ∀ k, rowsS ba bc zs la lc l.length k → k ≠ p.block) (u : Value) : OwnSt (w.setCell p u) B E EM EC ba bc zs la lc l :=
  h.chg (S := fun k => k = p.block) (Chg.set (S := fun k => k = p.block) (Chg.refl _ w) rfl u) (fun k hk e => hp k hk e)
/-- another list of mailboxes, made later, and the log with one element more -/
theorem OwnSt.swap {w4 w5 w6 : World} {B B5 E EM EC q2 q5 q6 bc : Nat} {ba g2 g5 g6 : Option Addr} {zs l5 : List PBox} {l : List DCommit} {m : DCommit} {n6 : Nat} (h : OwnSt w4 B E EM EC ba bc zs g2 q2 l) (hl : OwnBs w5 B5 E EM g5 q5 l5) (h45 : w4.heap.size ≤ B5) (hB : B ≤ w4.heap.size)
    (hn : n6 = l.length + 1) (ho : Own w6 B EC 6 (.slice g6 n6 q6) n6 (l.flatMap DCommit.cells ++ m.cells)) (hg : w5.grownBy w6 (foot (.slice g2 l.length q2))) (hw : ∀ k, foot (.slice g6 n6 q6) = some k → foot (.slice g2 l.length q2) = some k ∨ w5.heap.size ≤ k) : OwnSt w6 B E EM EC g5 q5 l5 g6 q6 (l ++ [m]) := by
  subst hn
  have hlen : (l ++ [m]).length = l.length + 1 := by simp
  have hfl : ∀ k, foot (.slice g2 l.length q2) = some k → k < w4.heap.size := fun k hk => (h.log.lt k hk).2
  have hne : ∀ k, rowsB g5 q5 l5 k → foot (.slice g6 (l.length + 1) q6) ≠ some k := fun k hk e => by
    have h1 := hl.rows_lt k hk
    rcases hw k e with h2 | h2
    · have := hfl k h2; omega
    · omega
  have hb6 : OwnBs w6 B5 E EM g5 q5 l5 := hl.chg (S := fun k => foot (.slice g2 l.length q2) = some k) (Chg.grown hg (fun k e => e)) (fun k hk e => by have h1 := hl.rows_lt k hk; have := hfl k e; omega)
  have hoff : ∀ v : Value, (∀ k, foot v = some k → rowsB g5 q5 l5 k) → Off2 v (.slice g6 (l.length + 1) q6) := fun v hv => by
    cases hf : foot v with
    | none => exact Or.inl hf
    | some k => exact Or.inr (fun e => hne k (hv k hf) (by rw [← e, hf]))
  refine ⟨hb6.le (by omega), ?_, ?_, fun z hz => ?_⟩
  · rw [hlen, List.flatMap_append]; simpa using ho
  · rw [hlen]; exact hoff _ (fun k hk => Or.inl hk)
  · rw [hlen]; exact hoff _ (fun k hk => Or.inr ⟨z.key, List.mem_map_of_mem hz, hk⟩)
theorem rows_ne {w5 w7 : World} {B5 E EM q2 q5 q6 n n6 x : Nat} {g2 g5 g6 : Option Addr} {l5 : List PBox} (hl : OwnBs w5 B5 E EM g5 q5 l5) (hx : x < B5) (hoff : foot (.slice g2 n q2) ≠ some x) (hx2 : x < w7.heap.size)
    (hw : ∀ k, foot (.slice g6 n6 q6) = some k → foot (.slice g2 n q2) = some k ∨ k = w7.heap.size) : ∀ k, rowsS g5 q5 l5 g6 q6 n6 k → k ≠ x := fun k hk e => by
  subst e
  rcases hk with hk | hk
  · have := (hl.rows_lt k hk).1; omega
  · rcases hw k hk with h | h
    · exact hoff h
    · omega
end Go.Proofs.YtemgabekckhckaaGreat

namespace Go.Proofs.YtemgabekckhckaaGreat
open Go.RowKit
set_option linter.unusedVariables false
set_option linter.unusedSimpArgs false

/-- a store of the call's own behind a pointer to block b -/
structure StB (w : World) (b B E EM EC : Nat) (ga : Option Addr) (q : Nat) (zs : List PBox) (la : Option Addr) (lc : Nat) (l : List DCommit) (gv : Int) : Prop where
  own : OwnSt w B E EM EC ga q zs la lc l
  lt : b < w.heap.size
  off : ∀ k, rowsS ga q zs la lc l.length k → k ≠ b
  c0 : w.cell? ⟨b, 0, none⟩ = some (.slice ga zs.length q)
  c1 : w.cell? ⟨b, 1, none⟩ = some (.slice la l.length lc)
  c2 : w.cell? ⟨b, 2, none⟩ = some (.int .i64 gv)
  f0 : w.frozen? ⟨b, 0, none⟩ = false
  f1 : w.frozen? ⟨b, 1, none⟩ = false
  f2 : w.frozen? ⟨b, 2, none⟩ = false
theorem StB.chg {S : Nat → Prop} {w w' : World} {b B E EM EC q lc : Nat} {ga la : Option Addr} {zs : List PBox} {l : List DCommit} {gv : Int} (h : StB w b B E EM EC ga q zs la lc l gv) (hb : Chg S w w') (h1 : ¬ S b) (h2 : ∀ k, rowsS ga q zs la lc l.length k → ¬ S k) : StB w' b B E EM EC ga q zs la lc l gv :=
  ⟨h.own.chg hb h2, Nat.lt_of_lt_of_le h.lt hb.size, h.off, (hb.cell h.lt h1).trans h.c0, (hb.cell h.lt h1).trans h.c1, (hb.cell h.lt h1).trans h.c2, (hb.frozen h.lt h1).trans h.f0, (hb.frozen h.lt h1).trans h.f1, (hb.frozen h.lt h1).trans h.f2⟩
theorem StB.ext {w w' : World} {b B E EM EC q lc : Nat} {ga la : Option Addr} {zs : List PBox} {l : List DCommit} {gv : Int} (h : StB w b B E EM EC ga q zs la lc l gv) (hb : Ext w w') : StB w' b B E EM EC ga q zs la lc l gv :=
  h.chg (S := fun _ => False) (Chg.ext hb) (fun h => h) (fun _ _ h => h)
/-- a store behind the pointer, come out of the world w in which only the blocks in S may have changed -/
def StTo (S : Nat → Prop) (w : World) (b B E EM EC : Nat) (rs : DStore) (w' : World) : Prop :=
  ∃ ga q zs la lc, StB w' b B E EM EC ga q zs la lc rs.log rs.given ∧ zs.map PBox.box = rs.boxes ∧ Chg S w w' ∧ ∀ k, rowsS ga q zs la lc rs.log.length k → S k ∨ w.heap.size < k
theorem StB.boxes {S : Nat → Prop} {w w3 w5 : World} {b B E EM EC q lc q5 : Nat} {ga la g5 : Option Addr} {zs l5 : List PBox} {l : List DCommit} {gv : Int} {D : List DBox} (h : StB w3 b B E EM EC ga q zs la lc l gv) (hw : Ext w w3) (hlt : w.heap.size < w3.heap.size) (hS : ∀ k, (k = b ∨ rowsS ga q zs la lc l.length k) → S k)
    (hc : Chg (rowsB ga q zs) w3 w5) (ho : OwnBs w5 B E EM g5 q5 l5) (hn : NewR (rowsB ga q zs) w3 g5 q5 l5) (hd : l5.map PBox.box = D) : StTo S w b B E EM EC ⟨D, l, gv⟩ (w5.setCell ⟨b, 0, none⟩ (.slice g5 l5.length q5)) := by
  have hnb : ¬ rowsB ga q zs b := fun hk => h.off b (Or.inl hk) rfl
  have hnl : ∀ k, foot (.slice la l.length lc) = some k → ¬ rowsB ga q zs k := fun k hk hr => h.own.apart hr hk
  have hnr : ∀ k, rowsB g5 q5 l5 k → k ≠ b := fun k hk e => by
    rcases hn k hk with h1 | h1
    · exact h.off k (Or.inl h1) e
    · have := h.lt; omega
  have hnr2 : ∀ k, rowsB g5 q5 l5 k → foot (.slice la l.length lc) ≠ some k := fun k hk e => by
    rcases hn k hk with h1 | h1
    · exact hnl k e h1
    · have := (h.own.log.lt k e).2; omega
  have hoff : ∀ v : Value, (∀ k, foot v = some k → rowsB g5 q5 l5 k) → Off2 v (.slice la l.length lc) := fun v hv => by
    cases hf : foot v with
    | none => exact Or.inl hf
    | some k => exact Or.inr (fun e => hnr2 k (hv k hf) (by rw [← e, hf]))
  have c0 := (hc.cell (o := 0) h.lt hnb).trans h.c0
  have c1 := (hc.cell (o := 1) h.lt hnb).trans h.c1
  have c2 := (hc.cell (o := 2) h.lt hnb).trans h.c2
  have f0 := (hc.frozen (o := 0) h.lt hnb).trans h.f0
  have f1 := (hc.frozen (o := 1) h.lt hnb).trans h.f1
  have f2 := (hc.frozen (o := 2) h.lt hnb).trans h.f2
  refine ⟨g5, q5, l5, la, lc, ⟨⟨ho.set_ne hnr _, ?_, hoff _ (fun k hk => Or.inl hk), fun z hz => hoff _ (fun k hk => Or.inr ⟨z.key, List.mem_map_of_mem hz, hk⟩)⟩, ?_, ?_, set_same c0, set_other c1 (by omega), set_other c2 (by omega), setf f0, setf f1, setf f2⟩, hd, ?_, ?_⟩
  · exact (h.own.log.chg hc hnl).set_off (fun e => h.off b (Or.inr e) rfl) _
  · have h1 := h.lt
    have h2 := hc.size
    simp [World.setCell]; omega
  · intro k hk
    rcases hk with hk | hk
    · exact hnr k hk
    · exact h.off k (Or.inr hk)
  · exact Chg.set ((Chg.ext hw).trans (hc.mono (fun k hk => hS k (Or.inr (Or.inl hk))))) (hS b (Or.inl rfl)) _
  · intro k hk
    rcases hk with hk | hk
    · rcases hn k hk with h1 | h1
      · exact Or.inl (hS k (Or.inr (Or.inl h1)))
      · exact Or.inr (by omega)
    · exact Or.inl (hS k (Or.inr (Or.inr hk)))
theorem StTo.log {S : Nat → Prop} {w w3 w6 : World} {b B E EM EC q lc q6 n6 : Nat} {ga la g6 : Option Addr} {zs : List PBox} {rs : DStore} {m : DCommit} (h : StB w3 b B E EM EC ga q zs la lc rs.log rs.given) (hd : zs.map PBox.box = rs.boxes) (hch : Chg S w w3) (hr : ∀ k, rowsS ga q zs la lc rs.log.length k → S k ∨ w.heap.size < k) (hlt : w.heap.size < w3.heap.size) (hb : S b)
    {w4 : World} (h34 : Ext w3 w4) (hn : n6 = rs.log.length + 1) (ho : Own w6 B EC 6 (.slice g6 n6 q6) n6 (rs.log.flatMap DCommit.cells ++ m.cells)) (hg : w4.grownBy w6 (foot (.slice la rs.log.length lc))) (hw : ∀ k, foot (.slice g6 n6 q6) = some k → foot (.slice la rs.log.length lc) = some k ∨ k = w4.heap.size) :
    StTo S w b B E EM EC ⟨rs.boxes, rs.log ++ [m], rs.given⟩ (w6.setCell ⟨b, 1, none⟩ (.slice g6 n6 q6)) := by
  subst hn
  have hlen : (rs.log ++ [m]).length = rs.log.length + 1 := by simp
  have hc : Chg (fun k => foot (.slice la rs.log.length lc) = some k) w3 w6 := (Chg.ext h34).trans (Chg.grown hg (fun k e => e))
  have hnb : foot (.slice la rs.log.length lc) ≠ some b := fun e => h.off b (Or.inr e) rfl
  have hs34 := h34.size
  have hnw : ∀ k, foot (.slice g6 (rs.log.length + 1) q6) = some k → foot (.slice la rs.log.length lc) = some k ∨ w3.heap.size ≤ k := fun k hk => (hw k hk).imp_right (fun e => by omega)
  have hne : ∀ k, rowsB ga q zs k → foot (.slice g6 (rs.log.length + 1) q6) ≠ some k := fun k hk e => by
    rcases hnw k e with h2 | h2
    · exact h.own.apart hk h2
    · have := (h.own.box.rows_lt k hk).2; omega
  have hnb6 : foot (.slice g6 (rs.log.length + 1) q6) ≠ some b := fun e => by
    rcases hnw b e with h2 | h2
    · exact hnb h2
    · have := h.lt; omega
  have hoff : ∀ v : Value, (∀ k, foot v = some k → rowsB ga q zs k) → Off2 v (.slice g6 (rs.log ++ [m]).length q6) := fun v hv => by
    rw [hlen]
    cases hf : foot v with
    | none => exact Or.inl hf
    | some k => exact Or.inr (fun e => hne k (hv k hf) (by rw [← e, hf]))
  have c0 := (hc.cell (o := 0) h.lt hnb).trans h.c0
  have c1 := (hc.cell (o := 1) h.lt hnb).trans h.c1
  have c2 := (hc.cell (o := 2) h.lt hnb).trans h.c2
  have f0 := (hc.frozen (o := 0) h.lt hnb).trans h.f0
  have f1 := (hc.frozen (o := 1) h.lt hnb).trans h.f1
  have f2 := (hc.frozen (o := 2) h.lt hnb).trans h.f2
  refine ⟨ga, q, zs, g6, q6, ⟨⟨(h.own.box.chg hc (fun k hk e => h.own.apart hk e)).set_ne (fun k hk => h.off k (Or.inl hk)) _, ?_, hoff _ (fun k hk => Or.inl hk), fun z hz => hoff _ (fun k hk => Or.inr ⟨z.key, List.mem_map_of_mem hz, hk⟩)⟩, ?_, ?_, set_other c0 (by omega), ?_, set_other c2 (by omega), setf f0, setf f1, setf f2⟩, hd, ?_, ?_⟩
  · show Own _ B EC 6 (.slice g6 (rs.log ++ [m]).length q6) (rs.log ++ [m]).length ((rs.log ++ [m]).flatMap DCommit.cells)
    rw [hlen, List.flatMap_append]
    exact (by simpa using ho.set_off hnb6 _)
  · have h1 := h.lt
    have h2 := hc.size
    simp [World.setCell]; omega
  · intro k hk
    rcases hk with hk | hk
    · exact h.off k (Or.inl hk)
    · intro e
      subst e
      exact hnb6 (by rw [← hk]; exact foot_len _ _ _ _)
  · show _ = some (Value.slice g6 (rs.log ++ [m]).length q6)
    rw [hlen]; exact set_same c1
  · refine Chg.set (w1 := w6) ⟨hc.os.trans hch.os, hc.tape.trans hch.tape, hc.output.trans hch.output, Nat.le_trans hch.size hc.size, fun k hk hnS => ?_⟩ hb _
    have h1 := hch.size
    exact (hc.block k (by omega) (fun e => (hr k (Or.inr e)).elim hnS (fun h => by omega))).trans (hch.block k hk hnS)
  · intro k hk
    rcases hk with hk | hk
    · exact hr k (Or.inl hk)
    · rcases hnw k ((foot_len _ _ _ _).trans hk) with h1 | h1
      · exact hr k (Or.inr h1)
      · exact Or.inr (by omega)
theorem StTo.given {S : Nat → Prop} {w w3 w4 : World} {b B E EM EC q lc : Nat} {ga la : Option Addr} {zs : List PBox} {rs : DStore} (h : StB w3 b B E EM EC ga q zs la lc rs.log rs.given) (hd : zs.map PBox.box = rs.boxes) (hch : Chg S w w3) (hr : ∀ k, rowsS ga q zs la lc rs.log.length k → S k ∨ w.heap.size < k) (hb : S b) (h34 : Ext w3 w4) (v : Int) :
    StTo S w b B E EM EC ⟨rs.boxes, rs.log, v⟩ (w4.setCell ⟨b, 2, none⟩ (.int .i64 v)) := by
  have h4 := h.ext h34
  exact ⟨ga, q, zs, la, lc, ⟨h4.own.set_ne h4.off _, by simpa [World.setCell] using h4.lt, h4.off, set_other h4.c0 (by omega), set_other h4.c1 (by omega), set_same h4.c2, setf h4.f0, setf h4.f1, setf h4.f2⟩, hd, Chg.set (hch.trans (Chg.ext h34)) hb _, hr⟩
theorem StB.same {w w' : World} {b B E EM EC q lc : Nat} {ga la : Option Addr} {zs : List PBox} {l : List DCommit} {gv : Int} (h : StB w b B E EM EC ga q zs la lc l gv) (hb : Ext w w') : StTo (fun k => k = b ∨ rowsS ga q zs la lc l.length k) w b B E EM EC ⟨zs.map PBox.box, l, gv⟩ w' :=
  ⟨ga, q, zs, la, lc, h.ext hb, rfl, Chg.ext hb, fun k hk => Or.inl (Or.inr hk)⟩
/-- a commit lies in block M -/
structure MB (w : World) (M : Nat) (m : DCommit) : Prop where
  lt : M < w.heap.size
  c0 : w.cell? ⟨M, 0, none⟩ = some (.int .i64 m.kind)
  c1 : w.cell? ⟨M, 1, none⟩ = some (.int .i64 m.validity)
  c2 : w.cell? ⟨M, 2, none⟩ = some (.int .i64 m.uid)
  c3 : w.cell? ⟨M, 3, none⟩ = some (.int .i64 m.flags)
  c4 : w.cell? ⟨M, 4, none⟩ = some (.string m.name)
  c5 : w.cell? ⟨M, 5, none⟩ = some (.string m.text)
theorem MB.chg {S : Nat → Prop} {w w' : World} {M : Nat} {m : DCommit} (h : MB w M m) (hb : Chg S w w') (hn : ¬ S M) : MB w' M m :=
  ⟨Nat.lt_of_lt_of_le h.lt hb.size, (hb.cell h.lt hn).trans h.c0, (hb.cell h.lt hn).trans h.c1, (hb.cell h.lt hn).trans h.c2, (hb.cell h.lt hn).trans h.c3, (hb.cell h.lt hn).trans h.c4, (hb.cell h.lt hn).trans h.c5⟩
theorem MB.ext {w w' : World} {M : Nat} {m : DCommit} (h : MB w M m) (hb : Ext w w') : MB w' M m := h.chg (S := fun _ => False) (Chg.ext hb) (fun h => h)
theorem MB.set {w : World} {M : Nat} {m : DCommit} (h : MB w M m) {p : Addr} (hp : p.block ≠ M) (u : Value) : MB (w.setCell p u) M m := h.chg (S := fun k => k = p.block) (Chg.set (S := fun k => k = p.block) (Chg.refl _ w) rfl u) (fun e => hp e.symm)
theorem StTo.ext {S : Nat → Prop} {w w3 w4 : World} {b B E EM EC : Nat} {rs : DStore} (h : StTo S w b B E EM EC rs w3) (hb : Ext w3 w4) : StTo S w b B E EM EC rs w4 := by
  obtain ⟨ga, q, zs, la, lc, h1, h2, h3, h4⟩ := h
  exact ⟨ga, q, zs, la, lc, h1.ext hb, h2, h3.trans (Chg.ext hb), h4⟩
/-- between two statements of commit -/
def QC (S : Nat → Prop) (w : World) (b B E EM EC : Nat) (rs : DStore) (m : DCommit) (wc : World) : Prop := StTo S w b B E EM EC rs wc ∧ MB wc w.heap.size m
theorem QC.ext {S : Nat → Prop} {w w3 w4 : World} {b B E EM EC : Nat} {rs : DStore} {m : DCommit} (h : QC S w b B E EM EC rs m w3) (hb : Ext w3 w4) : QC S w b B E EM EC rs m w4 := ⟨h.1.ext hb, h.2.ext hb⟩
end Go.Proofs.YtemgabekckhckaaGreat
