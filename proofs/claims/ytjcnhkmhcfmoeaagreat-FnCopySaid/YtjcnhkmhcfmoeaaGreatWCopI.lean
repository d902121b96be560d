/-
  CopyMsgs: the program's function, whole.
-/
import Derived.Test.YtjcnhkmhcfmoeaaGreatWCopC
import Derived.Test.YtjcnhkmhcfmoeaaGreatXEach
namespace Go.Proofs.YtjcnhkmhcfmoeaaGreat
open Go.RowKit
set_option linter.unusedVariables false
set_option linter.unusedSimpArgs false

set_option maxRecDepth 100000 in
theorem chCopy_any (b : List PBox) (ba : Option Addr) (bc : Nat) (l : List DCommit) (la : Option Addr) (lc : Nat) (gv : Int) (v : Int) (us : List Int) (ua : Option Addr) (uc : Nat) (n : ByteArray) (sb vb nb ub : Nat) (w : World) (R : Rd w ba bc 4 b.length (b.flatMap PBox.cells)) (M : RdM w b) (RL : Rd w la lc 6 l.length (l.flatMap DCommit.cells)) (hl : b.length ≤ 1048576) (hlm : ∀ y ∈ b, y.msgs.length ≤ 1048576) (hll : l.length ≤ 1048576) (gn : ∀ y ∈ b, y.name.size ≤ 9223372036854775807) (gt : ∀ y ∈ b, ∀ m ∈ y.msgs, m.text.size ≤ 9223372036854775807) (gl : ∀ y ∈ l, y.name.size ≤ 9223372036854775807 ∧ y.text.size ≤ 9223372036854775807) (hm : MaxLen w) (ok : Bool) (HSK : Hid (Tells ok (StoreP ⟨b.map PBox.box, l, gv⟩))) (code : Int) (X : World) (hwX : Ext w X) (RU : Rd w ua uc 1 us.length (us.flatMap intCells)) (hul : us.length ≤ 1048576) (hn : n.size ≤ 1048576) (hsb : sb < X.heap.size) (csb : X.cell? ⟨sb, 0, none⟩ = some (.slice ba b.length bc)) (hvb : vb < X.heap.size) (cvb : X.cell? ⟨vb, 0, none⟩ = some (.int .i64 v)) (hnb : nb < X.heap.size) (cnb : X.cell? ⟨nb, 0, none⟩ = some (.string n)) (hub : ub < X.heap.size) (cub : X.cell? ⟨ub, 0, none⟩ = some (.slice ua us.length uc)) :
    Calls Tryz.prog 95 #[.agg #[.slice ba b.length bc, .slice la l.length lc, .int .i64 gv], .int .i64 code, .func (.func 109) #[] #[.pointer (some ⟨sb, 0, none⟩), .pointer (some ⟨vb, 0, none⟩), .pointer (some ⟨nb, 0, none⟩), .pointer (some ⟨ub, 0, none⟩)]] X fun e w' => ∃ g q zs g2 q2 rs rc, e = .returned (.tuple #[.agg #[.slice g zs.length q, .slice g2 rs.log.length q2, .int .i64 rs.given], .int .i64 rc]) ∧ OwnSt w' X.heap.size 49 66 41 g q zs g2 q2 rs.log ∧ zs.map PBox.box = rs.boxes ∧ Ext X w' ∧ ChRel ⟨b.map PBox.box, l, gv⟩ ok code (fun r2 c => copyB (⟨b.map PBox.box, l, gv⟩ : DStore) v us n = (if c = 0 then r2 else ⟨b.map PBox.box, l, gv⟩, c)) rs rc :=
  change_any b ba bc l la lc gv code 109 #[.pointer (some ⟨sb, 0, none⟩), .pointer (some ⟨vb, 0, none⟩), .pointer (some ⟨nb, 0, none⟩), .pointer (some ⟨ub, 0, none⟩)] (fun r2 c => copyB (⟨b.map PBox.box, l, gv⟩ : DStore) v us n = (if c = 0 then r2 else ⟨b.map PBox.box, l, gv⟩, c)) X (R.ext hwX) (M.ext hwX) (RL.ext hwX) hl hlm hll gn gt gl (hm.ext hwX) ok HSK (callFunc_in Tryz.func109 (by kernel_rfl) (by kernel_rfl)) (fun wx G B zs ga q la2 lc2 hx HS hwB hBx hwG hz hst hc0 => (clCopy_any zs ga q l la2 lc2 gv G B v us ua uc n b ba bc X sb vb nb ub wx HS hBx ((hm.ext hwX).ext hx) (box_names hz.out gn) (box_texts hz.out gt) hz.out hx (R.ext hwX) (M.ext hwX) (RU.ext hwX) hul (by omega) (good_S hl hlm hll gn gt gl) (hm.ext hwX) hsb csb hvb cvb hnb cnb hub cub hwB hwG).mono fun e w' ⟨r2, c, he, hs, hm⟩ => ⟨r2, c, he, hs, hm⟩)

set_option maxRecDepth 100000 in
set_option maxHeartbeats 8000000 in
theorem implCopyMsgs_law (b : List PBox) (ba : Option Addr) (bc : Nat) (l : List DCommit) (la : Option Addr) (lc : Nat) (gv : Int) (v : Int) (us : List Int) (ua : Option Addr) (uc : Nat) (n : ByteArray) (w : World) (R : Rd w ba bc 4 b.length (b.flatMap PBox.cells)) (M : RdM w b) (RL : Rd w la lc 6 l.length (l.flatMap DCommit.cells)) (hl : b.length ≤ 1048576) (hlm : ∀ y ∈ b, y.msgs.length ≤ 1048576) (hll : l.length ≤ 1048576) (gn : ∀ y ∈ b, y.name.size ≤ 9223372036854775807) (gt : ∀ y ∈ b, ∀ m ∈ y.msgs, m.text.size ≤ 9223372036854775807) (gl : ∀ y ∈ l, y.name.size ≤ 9223372036854775807 ∧ y.text.size ≤ 9223372036854775807) (RU : Rd w ua uc 1 us.length (us.flatMap intCells)) (hul : us.length ≤ 1048576) (hn : n.size ≤ 1048576) (hm : MaxLen w) (rs : DStore) (rok : Int) (H : Hid (copyD (⟨b.map PBox.box, l, gv⟩ : DStore) v us n = (rs, rok))) :
    Calls Tryz.prog 46 #[.agg #[.slice ba b.length bc, .slice la l.length lc, .int .i64 gv], .int .i64 v, .slice ua us.length uc, .string n] w fun e w' => ∃ g q zs g2 q2, e = .returned (.tuple #[.agg #[.slice g zs.length q, .slice g2 rs.log.length q2, .int .i64 rs.given], .int .i64 rok]) ∧ OwnSt w' w.heap.size 49 66 41 g q zs g2 q2 rs.log ∧ zs.map PBox.box = rs.boxes ∧ Ext w w' := by
  have HR := Lib.hid R
  have HM := Lib.hid M
  have HRL := Lib.hid RL
  have HLM := Lib.hid hlm
  have HGN := Lib.hid gn
  have HGT := Lib.hid gt
  have HGL := Lib.hid gl
  clear R M RL hlm gn gt gl
  have HRU := Lib.hid RU
  clear RU
  have HMX := Lib.hid hm
  clear hm
  obtain ⟨ok, hok⟩ := boolOf (StoreP ⟨b.map PBox.box, l, gv⟩)
  have HSK := Lib.hid hok
  clear hok
  go_enter Tryz.func46, Tryz.ntmps46
  go_wp2_with (first | (go_at_call 95; refine (chCopy_any b ba bc l la lc gv v us ua uc n w.heap.size (w.heap.size + 1) (w.heap.size + 3) (w.heap.size + 2) w HR.out HM.out HRL.out hl HLM.out hll HGN.out HGT.out HGL.out HMX.out ok HSK 0 _ bxt HRU.out hul hn (by (simp; omega)) kpx (by simp) kpx (by simp) kpx (by simp) kpx).mono ?_; rintro e w9 ⟨g9, q9, z9, g8, q8, rs9, rc9, rfl, hown9, hzb9, hb9, hch9⟩; have HO9 := Lib.hid hown9; have HZ9 := Lib.hid hzb9; have HC9 := Lib.hid hch9; clear hown9 hzb9 hch9; have cu0_0 : w9.cell? ⟨(w.heap.size + 4), 0, none⟩ = some (.slice none 0 0) := (hb9.cell (p := ⟨(w.heap.size + 4), 0, none⟩) smx).trans kpx; have fu0_0 : w9.frozen? ⟨(w.heap.size + 4), 0, none⟩ = false := (hb9.frozen (p := ⟨(w.heap.size + 4), 0, none⟩) smx).trans kfx; have cu0_1 : w9.cell? ⟨(w.heap.size + 4), 1, none⟩ = some (.slice none 0 0) := (hb9.cell (p := ⟨(w.heap.size + 4), 1, none⟩) smx).trans kpx; have fu0_1 : w9.frozen? ⟨(w.heap.size + 4), 1, none⟩ = false := (hb9.frozen (p := ⟨(w.heap.size + 4), 1, none⟩) smx).trans kfx; have cu0_2 : w9.cell? ⟨(w.heap.size + 4), 2, none⟩ = some (.int .i64 0) := (hb9.cell (p := ⟨(w.heap.size + 4), 2, none⟩) smx).trans kpx; have fu0_2 : w9.frozen? ⟨(w.heap.size + 4), 2, none⟩ = false := (hb9.frozen (p := ⟨(w.heap.size + 4), 2, none⟩) smx).trans kfx; have su0 : (w.heap.size + 4) < w9.heap.size := (by have hss := hb9.size; first | omega | (simp at hss; omega))))
  obtain ⟨rfl, rfl⟩ : rs9 = rs ∧ rc9 = rok := Prod.mk.inj ((ch_op HC9.out HSK.out (fun _ => rfl) (fun h => absurd trivial h)).symm.trans H.out)
  refine bodyPost_ret (v := .tuple #[.agg #[.slice g9 z9.length q9, .slice g8 rs9.log.length q8, .int .i64 rs9.given], .int .i64 rc9]) (by simp [results, Tryz.results46, go_sem, *]) rfl ⟨g9, q9, z9, g8, q8, rfl, ?_, HZ9.out, ?_⟩
  · exact (by (repeat' (first | with_reducible refine OwnSt.set_at ?_ HO9.out (by (first | omega | (simp <;> omega))) _ | with_reducible refine OwnSt.alloc1 ?_ _ | with_reducible refine OwnSt.drew1 ?_)); exact OwnSt.le HO9.out (by (first | omega | (simp <;> omega))))
  · exact bxt
end Go.Proofs.YtjcnhkmhcfmoeaaGreat
