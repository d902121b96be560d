/-
  The program's StoreOk.
-/
import Derived.Test.YtjcnhkmhcfmoeaaGreatWStoreP
import Derived.Test.YtjcnhkmhcfmoeaaGreatWSameBoxes
import Derived.Test.YtjcnhkmhcfmoeaaGreatWAll
import Derived.Maps.OwnSet
namespace Go.Proofs.YtjcnhkmhcfmoeaaGreat
open Go.RowKit
set_option linter.unusedVariables false
set_option linter.unusedSimpArgs false

open Go.Maps
def boolR (v : Value) : Option (DataW Unit × List MemPlace) := match v with | .bool b => some (.lit (.bool b), []) | _ => none
theorem boolR_inv {v : Value} {c : Bool} {ps : List MemPlace} (h : boolR v = some (.lit (.bool c), ps)) : v = .bool c := by
  cases v <;> simp [boolR] at h
  exact congrArg _ h.1
theorem wpList_lookup_bool {P : Program} (w : World) {ops : Array Oper} {rest : List Oper} {o : Oper} {a : Act} {Q : Exit → Act → World → Prop}
    (hg : o.guard = none) (m x : Operand) (t : TypeId) (hop : o.op = Op.lookup t m x false)
    (k e : TypeId) (K : Keyed P k) (ht : P.underlying t = some (.map k e)) (hz : (zeroValue e).run P w = .ok (.bool false) w) (b n : Nat) (D : DataW Unit)
    (hm : a.eval m = .map (some b)) (hown : w.ownsMap P k boolR b n D) (key : Value) (kl : Lit) (hx : a.eval x = key) (hkey : keyOf P k key = some kl) (c : Bool) (hat : D.atKey kl (.lit (.bool false)) = .lit (.bool c))
    (hK : wpList P ops Q rest (a.put o.dst (.bool c)) w) : wpList P ops Q (o :: rest) a w := by
  refine wpList_plain hg fun K' hK' => ?_
  obtain ⟨v, ps, hrun, hv⟩ := hown.lookup K ht hz (zd := .lit (.bool false)) (zp := []) rfl hkey
  rw [hat] at hv
  obtain rfl := boolR_inv hv
  unfold Oper.wp
  simp [execOp, hop, hm, hx, hrun, Result.andThen]
  exact hK' _ _ hK
/-- a creation with this number lies below k -/
def HasM (l : List DCommit) (k : Nat) (v : Int) : Prop := ∃ i, ∃ hi : i < l.length, i < k ∧ l[i].kind = 1 ∧ l[i].validity = v
def MapTo (D : DataW Unit) (l : List DCommit) (k : Nat) : Prop := Tidy D ∧ ∀ v r, Tells r (HasM l k v) → D.atKey (.int .i64 v) (.lit (.bool false)) = .lit (.bool r)
theorem mapTo_zero (l : List DCommit) : MapTo (.map []) l 0 := ⟨tidy_empty, fun v r h => by
  obtain rfl : r = false := h.eq_false (fun ⟨i, hi, h0, _⟩ => by omega)
  rfl⟩
theorem hasM_succ {l : List DCommit} {k : Nat} (hk : k < l.length) (v : Int) : HasM l (k + 1) v ↔ HasM l k v ∨ (l[k].kind = 1 ∧ l[k].validity = v) := by
  constructor
  · rintro ⟨i, hi, h1, h2⟩
    by_cases e : i = k
    · subst e; exact Or.inr h2
    · exact Or.inl ⟨i, hi, by omega, h2⟩
  · rintro (⟨i, hi, h1, h2⟩ | h)
    · exact ⟨i, hi, by omega, h2⟩
    · exact ⟨k, hk, by omega, h⟩
theorem mapTo_skip {D : DataW Unit} {l : List DCommit} {k : Nat} (hk : k < l.length) (h : MapTo D l k) (hn : l[k].kind ≠ 1) : MapTo D l (k + 1) := ⟨h.1, fun v r hr => h.2 v r ⟨fun e => ((hasM_succ hk v).1 (hr.1 e)).resolve_right (fun h => hn h.1), fun h2 => hr.2 ((hasM_succ hk v).2 (Or.inl h2))⟩⟩
theorem mapTo_put {D : DataW Unit} {l : List DCommit} {k : Nat} (hk : k < l.length) (h : MapTo D l k) (hn : l[k].kind = 1) (hkl : WideAt.IsKeyLit (.int .i64 l[k].validity)) : MapTo (D.put (.int .i64 l[k].validity) (.lit (.bool true))) l (k + 1) := by
  refine ⟨h.1.put hkl _, fun v r hr => ?_⟩
  by_cases e : v = l[k].validity
  · subst e
    obtain rfl : r = true := hr.2 ((hasM_succ hk _).2 (Or.inr ⟨hn, rfl⟩))
    exact atKey_put_same h.1.isMap hkl _ _
  · rw [atKey_put_other (by simpa using e)]
    exact h.2 v r ⟨fun e2 => ((hasM_succ hk v).1 (hr.1 e2)).resolve_right (fun h => e h.2.symm), fun h2 => hr.2 ((hasM_succ hk v).2 (Or.inl h2))⟩
theorem zeroB (w : World) : (zeroValue 4).run Tryz.prog w = .ok (.bool false) w := by kernel_rfl
theorem lawI : Keyed Tryz.prog 3 := int_keyed Tryz.underlying3
theorem keyI (v : Int) (h : 1 ≤ v ∧ v ≤ 999999999) : keyOf Tryz.prog 3 (.int .i64 v) = some (.int .i64 v) := keyOf_int_mk Tryz.underlying3 (WalkArith.wf_i64 (by omega))

theorem implAllFull (l : List DCommit) (la : Option Addr) (lc : Nat) (w : World) (RL : Rd w la lc 6 l.length (l.flatMap DCommit.cells)) (hll : l.length ≤ 1048576) (gl : ∀ y ∈ l, y.name.size ≤ 9223372036854775807 ∧ y.text.size ≤ 9223372036854775807) (hm : MaxLen w) (D : List DBox) (rok : Bool) (H : Hid (allD [] l = (D, rok))) :
    Calls Tryz.prog 71 #[.slice none 0 0, .slice la l.length lc] w fun e w' => ∃ g q l', e = .returned (.tuple #[.slice g l'.length q, .bool rok]) ∧ OwnBs w' w.heap.size 49 66 g q l' ∧ l'.map PBox.box = D ∧ Ext w w' :=
  implAppliedAll_law [] none 0 l la lc w ⟨by simp, Nat.le_refl _, by omega, fun h => by simp at h⟩ (fun y hy => by cases hy) (by simp) (fun y hy => by cases hy) (fun y hy => by cases hy) (fun y hy => by cases hy) RL hll gl hm D rok (Lib.hid H.out)

set_option maxRecDepth 100000 in
set_option maxHeartbeats 8000000 in
theorem implStoreOk_any (b : List PBox) (ba : Option Addr) (bc : Nat) (l : List DCommit) (la : Option Addr) (lc : Nat) (gv : Int) (w : World) (R : Rd w ba bc 4 b.length (b.flatMap PBox.cells)) (M : RdM w b) (RL : Rd w la lc 6 l.length (l.flatMap DCommit.cells)) (hl : b.length ≤ 1048576) (hlm : ∀ y ∈ b, y.msgs.length ≤ 1048576) (hll : l.length ≤ 1048576) (gn : ∀ y ∈ b, y.name.size ≤ 9223372036854775807) (gt : ∀ y ∈ b, ∀ m ∈ y.msgs, m.text.size ≤ 9223372036854775807) (gl : ∀ y ∈ l, y.name.size ≤ 9223372036854775807 ∧ y.text.size ≤ 9223372036854775807) (hm : MaxLen w) (r : Bool) (Hr : Hid (Tells r (StoreP ⟨b.map PBox.box, l, gv⟩))) :
    Calls Tryz.prog 18 #[.agg #[.slice ba b.length bc, .slice la l.length lc, .int .i64 gv]] w fun e w' => e = .returned (.bool r) ∧ Ext w w' := by
  have HR := Lib.hid R
  have HM := Lib.hid M
  have HRL := Lib.hid RL
  have HGL := Lib.hid gl
  have HMX := Lib.hid hm
  have hcm : l.length ≤ 9223372036854775807 := by omega
  clear R M RL gl hlm gn gt hm
  obtain ⟨rg, hrg⟩ := boolOf (0 ≤ gv ∧ gv ≤ 999999999)
  have HRG := Lib.hid hrg
  obtain ⟨D, rok, hD⟩ : ∃ D rok, allD [] l = (D, rok) := ⟨_, _, rfl⟩
  have HD := Lib.hid hD
  obtain ⟨ds, hds⟩ : ∃ d, decide (D = b.map PBox.box) = d := ⟨_, rfl⟩
  have HDS := Lib.hid hds
  clear hrg hD hds
  cases rok with
  | false =>
    go_enter Tryz.func18, Tryz.ntmps18
    go_wp2_with (go_at_call 71; refine (implAllFull l la lc _ (HRL.out.ext bxt) hll HGL.out (HMX.out.ext bxt) D false HD).mono ?_; rintro e w4 ⟨g4, q4, l4, rfl, ho4, hd4, hb4⟩; have HO4 := Lib.hid ho4; have HD4 := Lib.hid hd4; clear ho4 hd4; have cr0_0 : w4.cell? ⟨w.heap.size, 0, none⟩ = some (.slice ba b.length bc) := (hb4.cell (p := ⟨w.heap.size, 0, none⟩) smx).trans kpx; have cr0_1 : w4.cell? ⟨w.heap.size, 1, none⟩ = some (.slice la l.length lc) := (hb4.cell (p := ⟨w.heap.size, 1, none⟩) smx).trans kpx; have cr0_2 : w4.cell? ⟨w.heap.size, 2, none⟩ = some (.int .i64 gv) := (hb4.cell (p := ⟨w.heap.size, 2, none⟩) smx).trans kpx; have sr0 : w.heap.size < w4.heap.size := (by have hss := hb4.size; first | omega | (simp at hss; omega)))
    go_ret
    exact ⟨ret_no Hr.out (fun h => by (have h1 := HD.out; rw [show allD [] l = (b.map PBox.box, true) from h.1] at h1; cases h1)), bxt⟩
  | true =>
  cases ds with
  | false =>
    go_enter Tryz.func18, Tryz.ntmps18
    go_wp2_with (first | (go_at_call 71; refine (implAllFull l la lc _ (HRL.out.ext bxt) hll HGL.out (HMX.out.ext bxt) D true HD).mono ?_; rintro e w4 ⟨g4, q4, l4, rfl, ho4, hd4, hb4⟩; have HO4 := Lib.hid ho4; have HD4 := Lib.hid hd4; clear ho4 hd4; have cr0_0 : w4.cell? ⟨w.heap.size, 0, none⟩ = some (.slice ba b.length bc) := (hb4.cell (p := ⟨w.heap.size, 0, none⟩) smx).trans kpx; have cr0_1 : w4.cell? ⟨w.heap.size, 1, none⟩ = some (.slice la l.length lc) := (hb4.cell (p := ⟨w.heap.size, 1, none⟩) smx).trans kpx; have cr0_2 : w4.cell? ⟨w.heap.size, 2, none⟩ = some (.int .i64 gv) := (hb4.cell (p := ⟨w.heap.size, 2, none⟩) smx).trans kpx; have sr0 : w.heap.size < w4.heap.size := (by have hss := hb4.size; first | omega | (simp at hss; omega))) | (go_at_call 72; refine (implSameBoxes_any l4 b _ _ _ _ _ (HO4.out.rd.ext bxt) (RdM.ext HO4.out.rdm bxt) (HR.out.ext bxt) (RdM.ext HM.out bxt) false (Lib.hid (by rw [HD4.out]; exact HDS.out))).mono ?_; rintro e w6 ⟨rfl, hb6⟩; have hb46 : Ext w4 w6 := bxt; have cs0_0 : w6.cell? ⟨w.heap.size, 0, none⟩ = some (.slice ba b.length bc) := (hb46.cell (p := ⟨w.heap.size, 0, none⟩) smx).trans kpx; have cs0_1 : w6.cell? ⟨w.heap.size, 1, none⟩ = some (.slice la l.length lc) := (hb46.cell (p := ⟨w.heap.size, 1, none⟩) smx).trans kpx; have cs0_2 : w6.cell? ⟨w.heap.size, 2, none⟩ = some (.int .i64 gv) := (hb46.cell (p := ⟨w.heap.size, 2, none⟩) smx).trans kpx; have ss0 : w.heap.size < w6.heap.size := (by have hss := hb46.size; first | omega | (simp at hss; omega))))
    go_ret
    exact ⟨ret_no Hr.out (fun h => by (have h1 := HD.out; rw [show allD [] l = (b.map PBox.box, true) from h.1] at h1; cases h1; exact of_decide_eq_false HDS.out rfl)), bxt⟩
  | true =>
  by_cases h300 : 300 < l.length
  · have hd : decide ((300 : Int) < (l.length : Int)) = true := decide_eq_true (by omega)
    go_enter Tryz.func18, Tryz.ntmps18
    go_wp2_with (first | (go_at_call 71; refine (implAllFull l la lc _ (HRL.out.ext bxt) hll HGL.out (HMX.out.ext bxt) D true HD).mono ?_; rintro e w4 ⟨g4, q4, l4, rfl, ho4, hd4, hb4⟩; have HO4 := Lib.hid ho4; have HD4 := Lib.hid hd4; clear ho4 hd4; have cr0_0 : w4.cell? ⟨w.heap.size, 0, none⟩ = some (.slice ba b.length bc) := (hb4.cell (p := ⟨w.heap.size, 0, none⟩) smx).trans kpx; have cr0_1 : w4.cell? ⟨w.heap.size, 1, none⟩ = some (.slice la l.length lc) := (hb4.cell (p := ⟨w.heap.size, 1, none⟩) smx).trans kpx; have cr0_2 : w4.cell? ⟨w.heap.size, 2, none⟩ = some (.int .i64 gv) := (hb4.cell (p := ⟨w.heap.size, 2, none⟩) smx).trans kpx; have sr0 : w.heap.size < w4.heap.size := (by have hss := hb4.size; first | omega | (simp at hss; omega))) | (go_at_call 72; refine (implSameBoxes_any l4 b _ _ _ _ _ (HO4.out.rd.ext bxt) (RdM.ext HO4.out.rdm bxt) (HR.out.ext bxt) (RdM.ext HM.out bxt) true (Lib.hid (by rw [HD4.out]; exact HDS.out))).mono ?_; rintro e w6 ⟨rfl, hb6⟩; have hb46 : Ext w4 w6 := bxt; have cs0_0 : w6.cell? ⟨w.heap.size, 0, none⟩ = some (.slice ba b.length bc) := (hb46.cell (p := ⟨w.heap.size, 0, none⟩) smx).trans kpx; have cs0_1 : w6.cell? ⟨w.heap.size, 1, none⟩ = some (.slice la l.length lc) := (hb46.cell (p := ⟨w.heap.size, 1, none⟩) smx).trans kpx; have cs0_2 : w6.cell? ⟨w.heap.size, 2, none⟩ = some (.int .i64 gv) := (hb46.cell (p := ⟨w.heap.size, 2, none⟩) smx).trans kpx; have ss0 : w.heap.size < w6.heap.size := (by have hss := hb46.size; first | omega | (simp at hss; omega))))
    go_ret
    exact ⟨ret_no Hr.out (fun h => by have h2 : l.length ≤ 300 := h.2.1; omega), bxt⟩
  have hd : decide ((300 : Int) < (l.length : Int)) = false := decide_eq_false (by omega)
  cases rg with
  | false =>
    go_enter Tryz.func18, Tryz.ntmps18
    go_wp2_with (first | (go_at_call 71; refine (implAllFull l la lc _ (HRL.out.ext bxt) hll HGL.out (HMX.out.ext bxt) D true HD).mono ?_; rintro e w4 ⟨g4, q4, l4, rfl, ho4, hd4, hb4⟩; have HO4 := Lib.hid ho4; have HD4 := Lib.hid hd4; clear ho4 hd4; have cr0_0 : w4.cell? ⟨w.heap.size, 0, none⟩ = some (.slice ba b.length bc) := (hb4.cell (p := ⟨w.heap.size, 0, none⟩) smx).trans kpx; have cr0_1 : w4.cell? ⟨w.heap.size, 1, none⟩ = some (.slice la l.length lc) := (hb4.cell (p := ⟨w.heap.size, 1, none⟩) smx).trans kpx; have cr0_2 : w4.cell? ⟨w.heap.size, 2, none⟩ = some (.int .i64 gv) := (hb4.cell (p := ⟨w.heap.size, 2, none⟩) smx).trans kpx; have sr0 : w.heap.size < w4.heap.size := (by have hss := hb4.size; first | omega | (simp at hss; omega))) | (go_at_call 72; refine (implSameBoxes_any l4 b _ _ _ _ _ (HO4.out.rd.ext bxt) (RdM.ext HO4.out.rdm bxt) (HR.out.ext bxt) (RdM.ext HM.out bxt) true (Lib.hid (by rw [HD4.out]; exact HDS.out))).mono ?_; rintro e w6 ⟨rfl, hb6⟩; have hb46 : Ext w4 w6 := bxt; have cs0_0 : w6.cell? ⟨w.heap.size, 0, none⟩ = some (.slice ba b.length bc) := (hb46.cell (p := ⟨w.heap.size, 0, none⟩) smx).trans kpx; have cs0_1 : w6.cell? ⟨w.heap.size, 1, none⟩ = some (.slice la l.length lc) := (hb46.cell (p := ⟨w.heap.size, 1, none⟩) smx).trans kpx; have cs0_2 : w6.cell? ⟨w.heap.size, 2, none⟩ = some (.int .i64 gv) := (hb46.cell (p := ⟨w.heap.size, 2, none⟩) smx).trans kpx; have ss0 : w.heap.size < w6.heap.size := (by have hss := hb46.size; first | omega | (simp at hss; omega))) | (go_at_call 73; refine (within_any gv 0 999999999 _ false HRG).mono ?_; rintro e wx ⟨rfl, hwx⟩; subst wx))
    go_ret
    exact ⟨ret_no Hr.out (fun h => no_of HRG.out h.2.2.1), bxt⟩
  | true =>
    have HCOM := Lib.hid (allD_ok l [] D HD.out)
    have hmm := @run_makeMap Tryz.prog
    go_enter Tryz.func18, Tryz.ntmps18
    go_wp2_with (first | (go_at_call 71; refine (implAllFull l la lc _ (HRL.out.ext bxt) hll HGL.out (HMX.out.ext bxt) D true HD).mono ?_; rintro e w4 ⟨g4, q4, l4, rfl, ho4, hd4, hb4⟩; have HO4 := Lib.hid ho4; have HD4 := Lib.hid hd4; clear ho4 hd4; have cr0_0 : w4.cell? ⟨w.heap.size, 0, none⟩ = some (.slice ba b.length bc) := (hb4.cell (p := ⟨w.heap.size, 0, none⟩) smx).trans kpx; have cr0_1 : w4.cell? ⟨w.heap.size, 1, none⟩ = some (.slice la l.length lc) := (hb4.cell (p := ⟨w.heap.size, 1, none⟩) smx).trans kpx; have cr0_2 : w4.cell? ⟨w.heap.size, 2, none⟩ = some (.int .i64 gv) := (hb4.cell (p := ⟨w.heap.size, 2, none⟩) smx).trans kpx; have sr0 : w.heap.size < w4.heap.size := (by have hss := hb4.size; first | omega | (simp at hss; omega))) | (go_at_call 72; refine (implSameBoxes_any l4 b _ _ _ _ _ (HO4.out.rd.ext bxt) (RdM.ext HO4.out.rdm bxt) (HR.out.ext bxt) (RdM.ext HM.out bxt) true (Lib.hid (by rw [HD4.out]; exact HDS.out))).mono ?_; rintro e w6 ⟨rfl, hb6⟩; have hb46 : Ext w4 w6 := bxt; have cs0_0 : w6.cell? ⟨w.heap.size, 0, none⟩ = some (.slice ba b.length bc) := (hb46.cell (p := ⟨w.heap.size, 0, none⟩) smx).trans kpx; have cs0_1 : w6.cell? ⟨w.heap.size, 1, none⟩ = some (.slice la l.length lc) := (hb46.cell (p := ⟨w.heap.size, 1, none⟩) smx).trans kpx; have cs0_2 : w6.cell? ⟨w.heap.size, 2, none⟩ = some (.int .i64 gv) := (hb46.cell (p := ⟨w.heap.size, 2, none⟩) smx).trans kpx; have ss0 : w.heap.size < w6.heap.size := (by have hss := hb46.size; first | omega | (simp at hss; omega))) | (go_at_call 73; refine (within_any gv 0 999999999 _ true HRG).mono ?_; rintro e wx ⟨rfl, hwx⟩; subst wx))
    have hbw6 : Ext w w6 := bxt
    go_loopw [39] (fun i wr => ∃ (k : Nat) (D9 : DataW Unit), k ≤ l.length ∧ i = .int .i64 k ∧ Hid (MapTo D9 l k) ∧ Hid (MadeTo l k) ∧ Hid (UnderTo l gv k) ∧ Hid (wr.ownsMap Tryz.prog 3 boolR w6.heap.size k D9) ∧ Below w6.heap.size w6 wr) (fun i _ => l.length - (intOf i).toNat)
    case atStart => exact ⟨0, .map [], Nat.zero_le _, rfl, mapTo_zero l, fun i hi h => by omega, fun i hi h => by omega, World.ownsMap_made _ _ _ _, (Below.refl _ _).alloc (Nat.le_refl _) _⟩
    case round =>
      obtain ⟨k, D9, hk, rfl, HMT, HMD, HUN, HOM, hbe⟩ := hrel
      have hbw : Ext w wr := Below.ext hbw6 hbe
      have hs6 : w6.heap.size ≤ wr.heap.size := hbe.size
      have hsw : w.heap.size < wr.heap.size := Nat.lt_of_lt_of_le ss0 hs6
      have v0 : wr.cell? ⟨w.heap.size, 0, none⟩ = some (.slice ba b.length bc) := (hbe.cell (p := ⟨w.heap.size, 0, none⟩) ss0).trans cs0_0
      have v1 : wr.cell? ⟨w.heap.size, 1, none⟩ = some (.slice la l.length lc) := (hbe.cell (p := ⟨w.heap.size, 1, none⟩) ss0).trans cs0_1
      have v2 : wr.cell? ⟨w.heap.size, 2, none⟩ = some (.int .i64 gv) := (hbe.cell (p := ⟨w.heap.size, 2, none⟩) ss0).trans cs0_2
      by_cases hlt : k < l.length
      · obtain ⟨lb, ofs, rfl, hlb, hat⟩ := HRL.out.ptr (by omega)
        have hlw : lb < wr.heap.size := Nat.lt_of_lt_of_le hlb hbw.size
        obtain ⟨x0, x1, x2, x3, x4, x5⟩ := DCommit.at (hat.ext hlb hbw) k hlt
        have HAT := Lib.hid hat
        clear hat
        have i1 : (k : Int) < (l.length : Int) := by omega
        have hcp := HCOM.out _ (List.getElem_mem hlt)
        have HCP := Lib.hid hcp
        clear hcp
        by_cases e1 : l[k].kind = 1
        · have d1 : (l[k].kind != 1) = false := by rw [e1]; rfl
          have hid9 := create_id HCP.out e1
          have hkey9 := keyI l[k].validity hid9
          have HKL : Hid (WideAt.IsKeyLit (.int .i64 l[k].validity)) := lawI.key hkey9
          obtain ⟨cc, hcc⟩ := boolOf (HasM l k l[k].validity)
          have HCC := Lib.hid hcc
          have HE1 := Lib.hid e1
          clear hcc e1
          cases cc with
          | true =>
            go_wp2_with (at_lookup; refine wpList_lookup_bool _ rfl _ _ 95 rfl 3 4 lawI Tryz.underlying95 (zeroB _) w6.heap.size k D9 rfl (World.ownsMap.kept (row := none) HOM.out (grown_ext (show Ext wr _ from bxt)) (by simp)) _ _ rfl hkey9 true (HMT.out.2 _ _ HCC.out) ?_)
            go_ret
            exact ⟨ret_no Hr.out (fun h => by
              obtain ⟨i, hi, h1, h2, h3⟩ := yes_of HCC.out
              exact h.2.2.2.1 k hlt hlt i h1 ⟨HE1.out, h2, h3.symm⟩), bxt⟩
          | false =>
            by_cases e2 : gv < l[k].validity
            · have d2 : decide (gv < l[k].validity) = true := decide_eq_true e2
              have HE2 := Lib.hid e2
              clear e2
              go_wp2_with (at_lookup; refine wpList_lookup_bool _ rfl _ _ 95 rfl 3 4 lawI Tryz.underlying95 (zeroB _) w6.heap.size k D9 rfl (World.ownsMap.kept (row := none) HOM.out (grown_ext (show Ext wr _ from bxt)) (by simp)) _ _ rfl hkey9 false (HMT.out.2 _ _ HCC.out) ?_)
              go_ret
              exact ⟨ret_no Hr.out (fun h => by
                have h5 : l[k].validity ≤ gv := h.2.2.2.2 k hlt hlt HE1.out
                have h6 := HE2.out
                omega), bxt⟩
            · have d2 : decide (gv < l[k].validity) = false := decide_eq_false e2
              have HE2 := Lib.hid e2
              clear e2
              go_wp2_with (first | (at_lookup; refine wpList_lookup_bool _ rfl _ _ 95 rfl 3 4 lawI Tryz.underlying95 (zeroB _) w6.heap.size k D9 rfl (World.ownsMap.kept (row := none) HOM.out (grown_ext (show Ext wr _ from bxt)) (by simp)) _ _ rfl hkey9 false (HMT.out.2 _ _ HCC.out) ?_) | (at_mapUpdate; refine wpList_mapUpdate_own _ rfl _ _ _ 95 rfl 3 4 lawI Tryz.underlying95 boolR w6.heap.size k D9 rfl (World.ownsMap.kept (row := none) HOM.out (grown_ext (show Ext wr _ from bxt)) (by simp)) (by unfold maxLen; omega) _ _ _ rfl rfl hkey9 _ [] rfl ?_; intro w9 hown9 hgrow9; have HOW9 := Lib.hid hown9; have hbe9 : Ext w6 w9 := Below.grown (show Ext w6 _ from bxt) hgrow9 (by (have := hbe.size; first | omega | (simp; omega))) (fun x hx => by cases hx; exact Nat.le_refl _); clear hown9 hgrow9))
              go_roundw
              case rel => exact ⟨k + 1, D9.put (.int .i64 l[k].validity) (.lit (.bool true)), by omega, by go_num, mapTo_put hlt HMT.out HE1.out HKL.out, madeTo_succ hlt HMD.out (fun j hj h => no_of HCC.out ⟨j, by omega, hj, h.2.1, h.2.2.symm⟩), underTo_succ hlt HUN.out (fun _ => by have := HE2.out; omega), HOW9.out, hbe9⟩
              case measure => simp [intOf]; omega
        · have d1 : (l[k].kind != 1) = true := by simp [e1]
          have HE1 := Lib.hid e1
          clear e1
          go_wp2_with fail
          go_roundw
          case rel => exact ⟨k + 1, D9, by omega, by go_num, mapTo_skip hlt HMT.out HE1.out, madeTo_succ hlt HMD.out (fun j hj h => HE1.out h.1), underTo_succ hlt HUN.out (fun h => absurd h HE1.out), World.ownsMap.mono (World.ownsMap.kept (row := none) HOM.out (grown_ext (show Ext wr _ from bxt)) (by simp)) (Nat.le_succ _), Below.ext hbe (show Ext wr _ from bxt)⟩
          case measure => simp [intOf]; omega
      · have hkk : k = l.length := by omega
        have HKK := Lib.hid hkk
        clear hkk
        go_wp2_with fail
        go_ret
        refine ⟨ret_yes Hr.out ⟨?_, (show l.length ≤ 300 by omega), yes_of HRG.out, (show MadeTo l l.length from fun i hi hil => HMD.out i hi (by have := HKK.out; omega)), (show UnderTo l gv l.length from fun i hi hil => HUN.out i hi (by have := HKK.out; omega))⟩, hbw⟩
        show allD [] l = (b.map PBox.box, true)
        rw [HD.out, of_decide_eq_true HDS.out]
end Go.Proofs.YtjcnhkmhcfmoeaaGreat
