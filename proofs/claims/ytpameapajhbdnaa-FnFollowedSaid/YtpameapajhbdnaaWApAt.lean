/-
  The contracts of commits, in the words of drawn mailboxes.
-/
import Derived.Test.YtpameapajhbdnaaDraw8
import Derived.Test.YtpameapajhbdnaaXAppB
import Derived.Test.YtpameapajhbdnaaXLaw
import Derived.Test.YtpameapajhbdnaaWAll
import Derived.Test.YtpameapajhbdnaaXKeep
import Derived.Test.YtpameapajhbdnaaWSameBoxes
namespace Go.Proofs.Ytpameapajhbdnaa
open Go.RowKit
set_option linter.unusedVariables false
set_option linter.unusedSimpArgs false

theorem same_extA {w w' : World} (h : w' = w) : Ext w w' := h ▸ Below.refl _ _
/-- mailboxes that can be read, and are small -/
structure Bq (w : World) (a : Option Addr) (c : Nat) (zs : List PBox) : Prop where
  rd : Rd w a c 4 zs.length (zs.flatMap PBox.cells)
  rdm : RdM w zs
  len : zs.length ≤ 5
  sm : SmB 6 zs
theorem Bq.ext {w w' : World} {a : Option Addr} {c : Nat} {zs : List PBox} (h : Bq w a c zs) (hb : Ext w w') : Bq w' a c zs := ⟨h.rd.ext hb, h.rdm.ext hb, h.len, h.sm⟩
theorem OwnRs.bq {w : World} {B E EM c : Nat} {a : Option Addr} {zs : List PBox} (h : OwnRs w B E EM a c zs) (hl : zs.length ≤ 5) (hs : SmB 6 zs) : Bq w a c zs := ⟨h.rd, h.rdm, hl, hs⟩
theorem smB_of {l : List PBox} {D : List DBox} (h : l.map PBox.box = D) (hD : ∀ y ∈ D, y.name.size ≤ 41 ∧ y.msgs.length ≤ 6 ∧ ∀ t ∈ y.msgs, t.text.size ≤ 41) : SmB 6 l := fun y hy => hD y.box (h ▸ List.mem_map_of_mem hy)
theorem bxs_small {l' : List PBox} {D : List DBox} (hl' : l'.map PBox.box = D) (hD : BoxesP D) : l'.length ≤ 5 ∧ SmB 6 l' := by
  have hq := (boxes_iff _).1 hD
  refine ⟨by have h := congrArg List.length hl'; have := hq.2.2.2; simp at h; omega, smB_of hl' fun y hy => ?_⟩
  obtain ⟨q1, q2, q3, q4, q5⟩ := hq.1 y hy
  exact ⟨Nat.le_trans q1.2.2 (by omega), q4, fun t ht => Nat.le_trans (q5.1 t ht).2.2 (by omega)⟩
theorem same_small {zs l' : List PBox} (hl' : l'.map PBox.box = zs.map PBox.box) (hz : zs.length ≤ 5) (hs : SmB 6 zs) : l'.length ≤ 5 ∧ SmB 6 l' := by
  refine ⟨by have h := congrArg List.length hl'; simp at h; omega, smB_of hl' fun y hy => ?_⟩
  obtain ⟨z, hz2, rfl⟩ := List.mem_map.1 hy
  exact hs z hz2
theorem app_smallB {zs l' : List PBox} {m : DCommit} {rr : List DBox} {rok : Bool} (h : AppRel (zs.map PBox.box) m rr rok) (hl' : l'.map PBox.box = rr) (hz : zs.length ≤ 5) (hs : SmB 6 zs) : l'.length ≤ 5 ∧ SmB 6 l' := by
  obtain ⟨ht, rfl⟩ := h
  cases rok with
  | false => exact same_small hl' hz hs
  | true => exact bxs_small hl' (appD_ok (yes_of ht))
theorem all_smallB : ∀ (log : List DCommit) (l : List DBox), (allD l log).1 = l ∨ BoxesP (allD l log).1
  | [], l => Or.inl rfl
  | m :: ms, l => by
    obtain ⟨r, hr⟩ := boolOf (AppliesP l m)
    rw [allD_cons l m ms hr]
    cases r with
    | false => exact Or.inl rfl
    | true => exact Or.inr (allD_keep ms _ (appD_ok (yes_of hr)))
theorem allR_smallB {zs l' : List PBox} {log : List DCommit} {rr : List DBox} {rok : Bool} (h : AllRel (zs.map PBox.box) log rr rok) (hl' : l'.map PBox.box = rr) (hz : zs.length ≤ 5) (hs : SmB 6 zs) : l'.length ≤ 5 ∧ SmB 6 l' := by
  have h1 : (allD (zs.map PBox.box) log).1 = rr := by rw [h]
  rcases all_smallB log (zs.map PBox.box) with h2 | h2
  · exact same_small (hl'.trans (h1.symm.trans h2)) hz hs
  · exact bxs_small hl' (h1 ▸ h2)
theorem OwnBs.bq {w : World} {B E EM c : Nat} {a : Option Addr} {zs : List PBox} (h : OwnBs w B E EM a c zs) (hs : zs.length ≤ 5 ∧ SmB 6 zs) : Bq w a c zs := ⟨h.rd, h.rdm, hs.1, hs.2⟩
theorem implApplied_bq (zs : List PBox) (a : Option Addr) (c : Nat) (w : World) (h : Bq w a c zs) (m : DCommit) (g1 : m.name.size ≤ 41) (g2 : m.text.size ≤ 41) (hm : MaxLen w) (rr : List DBox) (rok : Bool) (H : Hid (AppRel (zs.map PBox.box) m rr rok)) :
    Calls Try.prog 25 #[.slice a zs.length c, .agg #[.int .i64 m.kind, .int .i64 m.validity, .int .i64 m.uid, .int .i64 m.flags, .string m.name, .string m.text]] w (fun e w' => ∃ g q l', e = .returned (.tuple #[.slice g l'.length q, .bool rok]) ∧ OwnBs w' w.heap.size 52 111 g q l' ∧ l'.map PBox.box = rr ∧ Ext w w') :=
  implApplied_law zs a c m w h.rd h.rdm (by have := h.len; omega) (fun y hy => by have := (h.sm y hy).2.1; omega) (fun y hy => by have := (h.sm y hy).1; omega) (fun y hy t ht => by have := (h.sm y hy).2.2 t ht; omega) (by omega) (by omega) hm rr rok H
theorem implAppliedAll_bq (zs : List PBox) (a : Option Addr) (c : Nat) (w : World) (h : Bq w a c zs) (lg : List DCommit) (la : Option Addr) (lc : Nat) (RL : Rd w la lc 6 lg.length (lg.flatMap DCommit.cells)) (hll : lg.length ≤ 20) (gl : (∀ y ∈ lg, y.name.size ≤ 41 ∧ y.text.size ≤ 41)) (hm : MaxLen w) (rr : List DBox) (rok : Bool) (H : Hid (AllRel (zs.map PBox.box) lg rr rok)) :
    Calls Try.prog 39 #[.slice a zs.length c, .slice la lg.length lc] w (fun e w' => ∃ g q l', e = .returned (.tuple #[.slice g l'.length q, .bool rok]) ∧ OwnBs w' w.heap.size 52 111 g q l' ∧ l'.map PBox.box = rr ∧ Ext w w') :=
  implAppliedAll_law zs a c lg la lc w h.rd h.rdm (by have := h.len; omega) (fun y hy => by have := (h.sm y hy).2.1; omega) (fun y hy => by have := (h.sm y hy).1; omega) (fun y hy t ht => by have := (h.sm y hy).2.2 t ht; omega) RL (by omega) (fun y hy => by have := gl y hy; exact ⟨by omega, by omega⟩) hm rr rok H
theorem implAppliedAll_bqn (zs : List PBox) (a : Option Addr) (c : Nat) (w : World) (h : Bq w a c zs) (lg : List DCommit) (la : Option Addr) (lc n : Nat) (hn : lg.length = n) (RL : Rd w la lc 6 n (lg.flatMap DCommit.cells)) (hll : n ≤ 20) (gl : (∀ y ∈ lg, y.name.size ≤ 41 ∧ y.text.size ≤ 41)) (hm : MaxLen w) (rr : List DBox) (rok : Bool) (H : Hid (AllRel (zs.map PBox.box) lg rr rok)) :
    Calls Try.prog 39 #[.slice a zs.length c, .slice la n lc] w (fun e w' => ∃ g q l', e = .returned (.tuple #[.slice g l'.length q, .bool rok]) ∧ OwnBs w' w.heap.size 52 111 g q l' ∧ l'.map PBox.box = rr ∧ Ext w w') :=
  by subst hn; exact implAppliedAll_bq zs a c w h lg la lc RL hll gl hm rr rok H
theorem implApplies_bq (zs : List PBox) (a : Option Addr) (c : Nat) (w : World) (h : Bq w a c zs) (m : DCommit) (g1 : m.name.size ≤ 41) (g2 : m.text.size ≤ 41) (hm : MaxLen w) (r : Bool) (H : Hid (Tells r (AppliesP (zs.map PBox.box) m))) :
    Calls Try.prog 32 #[.slice a zs.length c, .agg #[.int .i64 m.kind, .int .i64 m.validity, .int .i64 m.uid, .int .i64 m.flags, .string m.name, .string m.text]] w (fun e w' => e = .returned (.bool r) ∧ Ext w w') :=
  implApplies_any zs a c m w h.rd h.rdm hm (fun y hy => by have := (h.sm y hy).1; omega) (fun y hy t ht => by have := (h.sm y hy).2.2 t ht; omega) (by omega) (by omega) r H
theorem implBoxesOk_bq (zs : List PBox) (a : Option Addr) (c : Nat) (w : World) (h : Bq w a c zs) (hm : MaxLen w) (r : Bool) (H : Hid (Tells r (BoxesP (zs.map PBox.box)))) :
    Calls Try.prog 33 #[.slice a zs.length c] w (fun e w' => e = .returned (.bool r) ∧ Ext w w') :=
  implBoxesOk_any zs a c w h.rd h.rdm hm (fun y hy => by have := (h.sm y hy).1; omega) (fun y hy t ht => by have := (h.sm y hy).2.2 t ht; omega) r H
theorem specApplied_bq (zs : List PBox) (a : Option Addr) (c : Nat) (w : World) (h : Bq w a c zs) (m : DCommit) (g1 : m.name.size ≤ 41) (g2 : m.text.size ≤ 41) (rr : List DBox) (rok : Bool) (H : Hid (AppRel (zs.map PBox.box) m rr rok)) :
    Calls Try.prog 22 #[.slice a zs.length c, .agg #[.int .i64 m.kind, .int .i64 m.validity, .int .i64 m.uid, .int .i64 m.flags, .string m.name, .string m.text]] w (fun e w' => ∃ g q l', e = .returned (.tuple #[.slice g l'.length q, .bool rok]) ∧ OwnBs w' w.heap.size 52 111 g q l' ∧ l'.map PBox.box = rr ∧ Ext w w') :=
  specApplied_law zs a c m w h.rd h.rdm (by have := h.len; omega) (fun y hy => by have := (h.sm y hy).2.1; omega) (fun y hy => by have := (h.sm y hy).1; omega) (fun y hy t ht => by have := (h.sm y hy).2.2 t ht; omega) (by omega) (by omega) rr rok H
theorem specAppliedAll_bq (zs : List PBox) (a : Option Addr) (c : Nat) (w : World) (h : Bq w a c zs) (lg : List DCommit) (la : Option Addr) (lc : Nat) (RL : Rd w la lc 6 lg.length (lg.flatMap DCommit.cells)) (hll : lg.length ≤ 20) (gl : (∀ y ∈ lg, y.name.size ≤ 41 ∧ y.text.size ≤ 41)) (rr : List DBox) (rok : Bool) (H : Hid (AllRel (zs.map PBox.box) lg rr rok)) :
    Calls Try.prog 40 #[.slice a zs.length c, .slice la lg.length lc] w (fun e w' => ∃ g q l', e = .returned (.tuple #[.slice g l'.length q, .bool rok]) ∧ OwnBs w' w.heap.size 52 111 g q l' ∧ l'.map PBox.box = rr ∧ Ext w w') :=
  specAppliedAll_law zs a c lg la lc w h.rd h.rdm (by have := h.len; omega) (fun y hy => by have := (h.sm y hy).2.1; omega) (fun y hy => by have := (h.sm y hy).1; omega) (fun y hy t ht => by have := (h.sm y hy).2.2 t ht; omega) RL (by omega) (fun y hy => by have := gl y hy; exact ⟨by omega, by omega⟩) rr rok H
theorem specApplies_bq (zs : List PBox) (a : Option Addr) (c : Nat) (w : World) (h : Bq w a c zs) (m : DCommit) (g1 : m.name.size ≤ 41) (g2 : m.text.size ≤ 41) (r : Bool) (H : Hid (Tells r (AppliesP (zs.map PBox.box) m))) :
    Calls Try.prog 83 #[.slice a zs.length c, .agg #[.int .i64 m.kind, .int .i64 m.validity, .int .i64 m.uid, .int .i64 m.flags, .string m.name, .string m.text]] w (fun e w' => e = .returned (.bool r) ∧ Ext w w') :=
  specApplies_any zs a c m w h.rd h.rdm  (fun y hy => by have := (h.sm y hy).1; omega) (fun y hy t ht => by have := (h.sm y hy).2.2 t ht; omega) (by omega) (by omega) r H
theorem specBoxesOk_bq (zs : List PBox) (a : Option Addr) (c : Nat) (w : World) (h : Bq w a c zs) (r : Bool) (H : Hid (Tells r (BoxesP (zs.map PBox.box)))) :
    Calls Try.prog 34 #[.slice a zs.length c] w (fun e w' => e = .returned (.bool r) ∧ Ext w w') :=
  specBoxesOk_any zs a c w h.rd h.rdm  (fun y hy => by have := (h.sm y hy).1; omega) (fun y hy t ht => by have := (h.sm y hy).2.2 t ht; omega) r H
end Go.Proofs.Ytpameapajhbdnaa
