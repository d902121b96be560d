/-
  The draw of a store that is right.
  The draw of a store that is turned a little.
-/
import Derived.Test.YtemgabekckhckaaGreatXDrA
import Derived.Test.YtemgabekckhckaaGreatWComS
import Derived.Test.YtemgabekckhckaaGreatWCutS
import Derived.Test.YtemgabekckhckaaGreatXKeep
import Derived.Deep.LoopGhost
namespace Go.Proofs.YtemgabekckhckaaGreat
open Go.RowKit
set_option linter.unusedVariables false
set_option linter.unusedSimpArgs false

def inboxN : ByteArray := ⟨#[105, 110, 98, 111, 120]⟩
def freshD : DStore := ⟨[⟨inboxN, 1, 1, []⟩], [(⟨1, 1, 0, 0, inboxN, ⟨#[]⟩⟩ : DCommit)], 1⟩
theorem inboxN_ok : NameP inboxN := by
  refine ⟨fun i hi => ?_, by decide, by decide⟩
  have hi5 : i < 5 := hi
  obtain rfl | rfl | rfl | rfl | rfl : i = 0 ∨ i = 1 ∨ i = 2 ∨ i = 3 ∨ i = 4 := by omega
  all_goals (unfold LetterP; decide)
theorem freshD_ok : CmtRel ⟨[], [], 0⟩ (⟨1, 1, 0, 0, inboxN, ⟨#[]⟩⟩ : DCommit) freshD true := by
  refine ⟨⟨fun _ => ⟨⟨boxesP_nil, ?_, ⟨fun _ => ⟨by decide, by decide, by decide⟩, fun h => absurd rfl h⟩⟩, by decide, fun h => absurd h.2 (by decide)⟩, fun _ => rfl⟩, ?_⟩
  · exact (commitK1 _ _ _ _ _).2 ⟨⟨by decide, by decide⟩, inboxN_ok, rfl, rfl, rfl⟩
  · rfl
/-- mailboxes that are small, in the plain words -/
def SmD (M : Nat) (l : List DBox) : Prop := ∀ y ∈ l, y.name.size ≤ 41 ∧ y.msgs.length ≤ M ∧ ∀ t ∈ y.msgs, t.text.size ≤ 41
def SmL (l : List DCommit) : Prop := ∀ y ∈ l, y.name.size ≤ 41 ∧ y.text.size ≤ 41
theorem smD_map {M : Nat} {l : List PBox} : SmD M (l.map PBox.box) ↔ SmB M l := by
  constructor
  · intro h y hy
    exact h _ (List.mem_map_of_mem hy)
  · intro h y hy
    obtain ⟨z, hz, rfl⟩ := List.mem_map.1 hy
    exact h z hz
theorem cmt_small {s rs : DStore} {m : DCommit} {rok : Bool} {N : Nat} (h : CmtRel s m rs rok) (hN : 4 ≤ N) (hl : s.boxes.length ≤ N) (hs : SmD 6 s.boxes) (hc : SmL s.log) (h1 : m.name.size ≤ 41) (h2 : m.text.size ≤ 41) :
    rs.boxes.length ≤ N ∧ SmD 6 rs.boxes ∧ rs.log.length ≤ s.log.length + 1 ∧ SmL rs.log := by
  obtain ⟨ht, rfl⟩ := h
  cases rok with
  | false => exact ⟨hl, hs, Nat.le_succ _, hc⟩
  | true =>
    have hp := ht.1 rfl
    have hq := (boxes_iff _).1 (appD_ok hp.1)
    refine ⟨Nat.le_trans hq.2.2.2 hN, fun y hy => ?_, by simp [comD], fun y hy => ?_⟩
    · obtain ⟨q1, q2, q3, q4, q5⟩ := hq.1 y hy
      exact ⟨Nat.le_trans q1.2.2 (by omega), q4, fun t ht => Nat.le_trans (q5.1 t ht).2.2 (by omega)⟩
    · rcases List.mem_append.1 hy with h3 | h3
      · exact hc y h3
      · rw [List.mem_singleton.1 h3]; exact ⟨h1, h2⟩
theorem map_len {l : List PBox} {b : List DBox} (h : l.map PBox.box = b) : l.length = b.length := by rw [← h]; simp
theorem OwnSt.dr {w w' : World} {cb B E EM EC : Nat} {ba la : Option Addr} {bc lc : Nat} {zs : List PBox} {l : List DCommit} (h : OwnSt w B E EM EC ba bc zs la lc l) (hd : Dr cb w w') (hB : cb < B) : OwnSt w' B E EM EC ba bc zs la lc l :=
  h.chg hd.chg (fun k hk e => by have := (h.rows_lt k hk).1; have : k = cb := e; omega)
theorem OwnSt.putN {w : World} {B E EM EC b : Nat} {ba la : Option Addr} {bc lc : Nat} {zs : List PBox} {l : List DCommit} (h : OwnSt w B E EM EC ba bc zs la lc l) (hn : ∀ k, rowsS ba bc zs la lc l.length k → k ≠ b) (us : List Value) (p : Nat) : OwnSt (putW w b p us) B E EM EC ba bc zs la lc l := by
  induction us generalizing w p with
  | nil => exact h
  | cons u us ih => exact ih (h.set_ne (p := ⟨b, p, none⟩) hn u) (p + 1)
theorem rd_nil {α : Type} (enc : α → List Value) (w : World) (s : Nat) : Rd w none 0 s ([] : List α).length (([] : List α).flatMap enc) := ⟨by simp, Nat.le_refl _, by omega, fun h => absurd h (Nat.lt_irrefl 0)⟩
set_option maxRecDepth 100000 in
set_option maxHeartbeats 4000000 in
theorem specStoreNew_law (w : World) (rs : DStore) (H : Hid (freshD = rs)) : Calls Tryz.prog 54 #[] w fun e w' => ∃ g q zs g2 q2, e = .returned (.agg #[.slice g zs.length q, .slice g2 rs.log.length q2, .int .i64 rs.given]) ∧ OwnSt w' w.heap.size 32 60 45 g q zs g2 q2 rs.log ∧ zs.map PBox.box = rs.boxes ∧ Ext w w' := by
  have HC : Hid (CmtRel ⟨[], [], 0⟩ (⟨1, 1, 0, 0, inboxN, ⟨#[]⟩⟩ : DCommit) rs true) := by rw [← H.out]; exact freshD_ok
  go_enter Tryz.func54, Tryz.ntmps54
  go_wp2_with fail
  refine (specCommitted_law [] none 0 [] none 0 0 (⟨1, 1, 0, 0, inboxN, ⟨#[]⟩⟩ : DCommit) _ (rd_nil _ _ _) (fun y hy => by cases hy) (rd_nil _ _ _) (by simp) (fun y hy => by cases hy) (by simp) (fun y hy => by cases hy) (fun y hy => by cases hy) (by decide) (by decide) rs true HC).mono ?_
  rintro e w1 ⟨g, q, zs, g2, q2, rfl, ho, hz, hb1⟩
  have HO := Lib.hid (ho.le (B' := w.heap.size + 1) (by simp))
  have HZ := Lib.hid hz
  have hz1 := hb1.size
  (try simp at hz1)
  clear ho hz
  obtain ⟨hc1, hf1⟩ := bcell hb1
  have s1 : w.heap.size < w1.heap.size := by omega
  go_wp2_with fail
  refine bodyPost_ret (v := .agg #[.slice g zs.length q, .slice g2 rs.log.length q2, .int .i64 rs.given]) (by simp [results, Tryz.results54, go_sem, *]) rfl ⟨g, q, zs, g2, q2, rfl, ?_, HZ.out, bxt⟩
  refine OwnSt.le (B := w.heap.size + 1) ?_ (by omega)
  exact (by repeat' (first | with_reducible exact HO.out | with_reducible refine OwnSt.setB ?_ smx _ | with_reducible refine OwnSt.alloc1 ?_ _))
theorem specCommitted_at (b : List PBox) (ba : Option Addr) (bc : Nat) (l : List DCommit) (la : Option Addr) (lc : Nat) (gv : Int) (mk mv mu mf : Int) (mn mt : ByteArray) (w : World) (R : OwnSt w (0 : Nat) 32 60 45 ba bc b la lc l) (hl : b.length ≤ 1048576) (hlm : ∀ y ∈ b, y.msgs.length ≤ 1048576) (hll : l.length ≤ 1048576) (gn : ∀ y ∈ b, y.name.size ≤ 9223372036854775807) (gt : ∀ y ∈ b, ∀ m ∈ y.msgs, m.text.size ≤ 9223372036854775807) (g1 : mn.size ≤ 9223372036854775807) (g2n : mt.size ≤ 9223372036854775807) (rs : DStore) (rok : Bool) (H : Hid (CmtRel ⟨b.map PBox.box, l, gv⟩ ⟨mk, mv, mu, mf, mn, mt⟩ rs rok)) :
    Calls Tryz.prog 56 #[.agg #[.slice ba b.length bc, .slice la l.length lc, .int .i64 gv], .agg #[.int .i64 mk, .int .i64 mv, .int .i64 mu, .int .i64 mf, .string mn, .string mt]] w fun e w' => ∃ g q zs g2 q2, e = .returned (.tuple #[.agg #[.slice g zs.length q, .slice g2 rs.log.length q2, .int .i64 rs.given], .bool rok]) ∧ OwnSt w' w.heap.size 32 60 45 g q zs g2 q2 rs.log ∧ zs.map PBox.box = rs.boxes ∧ Ext w w' :=
  specCommitted_law b ba bc l la lc gv ⟨mk, mv, mu, mf, mn, mt⟩ w R.box.rd R.box.rdm (Rd.of_Own R.log) hl hlm hll gn gt g1 g2n rs rok H
def RSt (cb : Nat) (w : World) (b K : Nat) (wx : World) : Prop := ∃ (ba : Option Addr) (bc : Nat) (zs : List PBox) (la : Option Addr) (lc : Nat) (l : List DCommit) (gv : Int), zs.length ≤ 4 ∧ SmB 6 zs ∧ l.length ≤ K + 1 ∧ SmL l ∧ Bx wx b [.slice ba zs.length bc, .slice la l.length lc, .int .i64 gv] ∧ Bx wx w.heap.size [.slice none 0 0, .slice none 0 0, .int .i64 0] ∧ OwnSt wx (w.heap.size + 1) 32 60 45 ba bc zs la lc l ∧ (∀ k, rowsS ba bc zs la lc l.length k → k ≠ b) ∧ Dr cb w wx
def RLoop (cb : Nat) (w : World) (b : Nat) (n : Int) (i : Value) (wr : World) : Prop := ∃ k : Nat, (k : Int) ≤ n ∧ i = .int .i64 k ∧ Hid (RSt cb w b k wr)
def DrSO (cb : Nat) (w : World) (e : Ending) (w' : World) : Prop := ∃ (ba : Option Addr) (bc : Nat) (zs : List PBox) (la : Option Addr) (lc : Nat) (l : List DCommit) (gv : Int), zs.length ≤ 4 ∧ SmB 6 zs ∧ l.length ≤ 20 ∧ SmL l ∧ e = .returned (.agg #[.slice ba zs.length bc, .slice la l.length lc, .int .i64 gv]) ∧ OwnSt w' w.heap.size 32 60 45 ba bc zs la lc l ∧ Dr cb w w'
set_option maxRecDepth 100000 in
set_option maxHeartbeats 8000000 in
theorem l11Right_any (cb : Nat) (w : World) (hc : Cur w cb) :
    Calls Tryz.prog 32 #[.pointer (some ⟨cb, 0, none⟩)] w (DrSO cb w) := by
  have hcl := hc.lt
  have HC := Lib.hid hc
  clear hc
  go_enter Tryz.func32, Tryz.ntmps32
  go_wp2_with fail
  refine (specStoreNew_law _ freshD (Lib.hid rfl)).mono ?_
  rintro e w1 ⟨ba, bc, zs, la, lc, rfl, ho, hz, hb1⟩
  have hz1 := hb1.size; (try simp at hz1)
  have hcu1 : Cur w1 cb := (HC.out.ext (w' := _) bxt).ext hb1
  have HO := Lib.hid (ho.le (B' := w.heap.size + 1) (by simp)); have HZ := Lib.hid hz; have HB0 : Hid (Bx w1 w.heap.size [.slice none 0 0, .slice none 0 0, .int .i64 0]) := (Bx.mk rfl _ rfl).ext hb1
  have HNE := Lib.hid (ho.ne_at (b := w1.heap.size) (Or.inr (Nat.le_refl _)))
  have HCU1 := Lib.hid hcu1; have hd01 : Dr cb w w1 := dtx
  clear ho hz hcu1
  go_wp2_with fail
  refine (l1Below_any cb 14 _ (HCU1.out.ext bxt) (by omega)).mono ?_
  rintro e w2 ⟨n, ⟨n0, n1, -⟩, rfl, hd2⟩
  have n1 := n1 (by omega)
  have hz2 := hd2.size; (try simp at hz2)
  have HS0 : Hid (RSt cb w w1.heap.size 0 w2) := ⟨ba, bc, zs, la, lc, freshD.log, freshD.given, by rw [map_len HZ.out]; decide, smD_map.1 (by rw [HZ.out]; intro y hy; rw [List.mem_singleton.1 hy]; exact ⟨by decide, by decide, fun t ht => by cases ht⟩), by decide, fun y hy => by rw [List.mem_singleton.1 hy]; exact ⟨by decide, by decide⟩, (Bx.mk rfl _ rfl).dr hd2 (by omega), ((HB0.out.ext (w' := w1.alloc _) bxt).dr hd2 (by omega)), ((HO.out.ext (w' := w1.alloc _) bxt).dr hd2 (by omega)), HNE.out, dtx⟩
  clear HO HZ HB0 HNE HCU1 hd01 hd2 hb1
  go_wp2_with fail
  go_loopw [5] (RLoop cb w w1.heap.size n) (fun i _ => (n - intOf i).toNat)
  case atStart => exact ⟨0, n0, rfl, HS0.out⟩
  case round =>
    obtain ⟨k, hk, rfl, HS⟩ := hrel
    clear HS0
    obtain ⟨ba, bc, zs, la, lc, l, gv, hzl, hsm, hll, hsl, hbs, hbz, ho, hne, hd⟩ := HS.out
    obtain ⟨p0, q0⟩ := hbs.at 0 _ rfl
    obtain ⟨p1, q1⟩ := hbs.at 1 _ rfl
    obtain ⟨p2, q2⟩ := hbs.at 2 _ rfl
    obtain ⟨r0, s0⟩ := hbz.at 0 _ rfl
    obtain ⟨r1, s1⟩ := hbz.at 1 _ rfl
    obtain ⟨r2, s2⟩ := hbz.at 2 _ rfl
    have sb : w1.heap.size < wr.heap.size := hbs.lt; have sr : w.heap.size < wr.heap.size := hbz.lt
    have HBS := Lib.hid hbs; have HBZ := Lib.hid hbz; have HO := Lib.hid ho; have HNE := Lib.hid hne; have HSM := Lib.hid hsm; have HSL := Lib.hid hsl; have hcr := Lib.hid hd.cur
    clear hbs hbz ho hne hsm hsl
    by_cases hlt : (k : Int) < n
    · skip
      go_wp2_with fail
      refine (l10Commit_any cb zs ba bc (w.heap.size + 1) _ (hcr.out.ext bxt) (HO.out.box.rs.ext bxt) (by omega) (by omega) (fun y hy => by have := (HSM.out y hy).2.1; omega)).mono ?_
      rintro e w3 ⟨m, hmn, hmt, rfl, hd3⟩
      have hz3 := hd3.size; (try simp at hz3)
      have s3_0 : w.heap.size < w3.heap.size := (by omega)
      have c3_0_0 : w3.cell? ⟨w.heap.size, 0, none⟩ = some (.slice none 0 0) := (hd3.cell (x := w.heap.size) (o := 0) smx (by omega)).trans kpx
      have f3_0_0 : w3.frozen? ⟨w.heap.size, 0, none⟩ = false := (hd3.frozen (x := w.heap.size) (o := 0) smx (by omega)).trans kfx
      have c3_0_1 : w3.cell? ⟨w.heap.size, 1, none⟩ = some (.slice none 0 0) := (hd3.cell (x := w.heap.size) (o := 1) smx (by omega)).trans kpx
      have f3_0_1 : w3.frozen? ⟨w.heap.size, 1, none⟩ = false := (hd3.frozen (x := w.heap.size) (o := 1) smx (by omega)).trans kfx
      have c3_0_2 : w3.cell? ⟨w.heap.size, 2, none⟩ = some (.int .i64 0) := (hd3.cell (x := w.heap.size) (o := 2) smx (by omega)).trans kpx
      have f3_0_2 : w3.frozen? ⟨w.heap.size, 2, none⟩ = false := (hd3.frozen (x := w.heap.size) (o := 2) smx (by omega)).trans kfx
      have s3_1 : w1.heap.size < w3.heap.size := (by omega)
      have c3_1_0 : w3.cell? ⟨w1.heap.size, 0, none⟩ = some (.slice ba zs.length bc) := (hd3.cell (x := w1.heap.size) (o := 0) smx (by omega)).trans kpx
      have f3_1_0 : w3.frozen? ⟨w1.heap.size, 0, none⟩ = false := (hd3.frozen (x := w1.heap.size) (o := 0) smx (by omega)).trans kfx
      have c3_1_1 : w3.cell? ⟨w1.heap.size, 1, none⟩ = some (.slice la l.length lc) := (hd3.cell (x := w1.heap.size) (o := 1) smx (by omega)).trans kpx
      have f3_1_1 : w3.frozen? ⟨w1.heap.size, 1, none⟩ = false := (hd3.frozen (x := w1.heap.size) (o := 1) smx (by omega)).trans kfx
      have c3_1_2 : w3.cell? ⟨w1.heap.size, 2, none⟩ = some (.int .i64 gv) := (hd3.cell (x := w1.heap.size) (o := 2) smx (by omega)).trans kpx
      have f3_1_2 : w3.frozen? ⟨w1.heap.size, 2, none⟩ = false := (hd3.frozen (x := w1.heap.size) (o := 2) smx (by omega)).trans kfx
      have hdr3 : Dr cb wr w3 := dtx
      by_cases hk1 : m.kind = 1
      · have ek : (m.kind == 1) = true := by simpa using hk1
        have ek2 : (m.kind == 2) = false := by simp [hk1]
        have HK := Lib.hid hk1; clear hk1
        go_wp2_with fail
        go_region_law ((go_simp; go_at_call 33; refine (l1Below_any cb 2 _ (Cur.ext hd3.cur bxt) (by omega)).mono ?_; rintro e w4 ⟨v, ⟨v0, v1, -⟩, rfl, hd4⟩; have v1 := v1 (by omega); have hz4 := hd4.size; (try simp at hz4); have s4_0 : w.heap.size < w4.heap.size := (by omega); have c4_0_0 : w4.cell? ⟨w.heap.size, 0, none⟩ = some (.slice none 0 0) := (hd4.cell (x := w.heap.size) (o := 0) smx (by omega)).trans kpx; have f4_0_0 : w4.frozen? ⟨w.heap.size, 0, none⟩ = false := (hd4.frozen (x := w.heap.size) (o := 0) smx (by omega)).trans kfx; have c4_0_1 : w4.cell? ⟨w.heap.size, 1, none⟩ = some (.slice none 0 0) := (hd4.cell (x := w.heap.size) (o := 1) smx (by omega)).trans kpx; have f4_0_1 : w4.frozen? ⟨w.heap.size, 1, none⟩ = false := (hd4.frozen (x := w.heap.size) (o := 1) smx (by omega)).trans kfx; have c4_0_2 : w4.cell? ⟨w.heap.size, 2, none⟩ = some (.int .i64 0) := (hd4.cell (x := w.heap.size) (o := 2) smx (by omega)).trans kpx; have f4_0_2 : w4.frozen? ⟨w.heap.size, 2, none⟩ = false := (hd4.frozen (x := w.heap.size) (o := 2) smx (by omega)).trans kfx; have s4_1 : w1.heap.size < w4.heap.size := (by omega); have c4_1_0 : w4.cell? ⟨w1.heap.size, 0, none⟩ = some (.slice ba zs.length bc) := (hd4.cell (x := w1.heap.size) (o := 0) smx (by omega)).trans kpx; have f4_1_0 : w4.frozen? ⟨w1.heap.size, 0, none⟩ = false := (hd4.frozen (x := w1.heap.size) (o := 0) smx (by omega)).trans kfx; have c4_1_1 : w4.cell? ⟨w1.heap.size, 1, none⟩ = some (.slice la l.length lc) := (hd4.cell (x := w1.heap.size) (o := 1) smx (by omega)).trans kpx; have f4_1_1 : w4.frozen? ⟨w1.heap.size, 1, none⟩ = false := (hd4.frozen (x := w1.heap.size) (o := 1) smx (by omega)).trans kfx; have c4_1_2 : w4.cell? ⟨w1.heap.size, 2, none⟩ = some (.int .i64 gv) := (hd4.cell (x := w1.heap.size) (o := 2) smx (by omega)).trans kpx; have f4_1_2 : w4.frozen? ⟨w1.heap.size, 2, none⟩ = false := (hd4.frozen (x := w1.heap.size) (o := 2) smx (by omega)).trans kfx; have s4_2 : w3.heap.size < w4.heap.size := (by omega); have c4_2_0 : w4.cell? ⟨w3.heap.size, 0, none⟩ = some (.int .i64 m.kind) := (hd4.cell (x := w3.heap.size) (o := 0) smx (by omega)).trans kpx; have f4_2_0 : w4.frozen? ⟨w3.heap.size, 0, none⟩ = false := (hd4.frozen (x := w3.heap.size) (o := 0) smx (by omega)).trans kfx; have c4_2_1 : w4.cell? ⟨w3.heap.size, 1, none⟩ = some (.int .i64 m.validity) := (hd4.cell (x := w3.heap.size) (o := 1) smx (by omega)).trans kpx; have f4_2_1 : w4.frozen? ⟨w3.heap.size, 1, none⟩ = false := (hd4.frozen (x := w3.heap.size) (o := 1) smx (by omega)).trans kfx; have c4_2_2 : w4.cell? ⟨w3.heap.size, 2, none⟩ = some (.int .i64 m.uid) := (hd4.cell (x := w3.heap.size) (o := 2) smx (by omega)).trans kpx; have f4_2_2 : w4.frozen? ⟨w3.heap.size, 2, none⟩ = false := (hd4.frozen (x := w3.heap.size) (o := 2) smx (by omega)).trans kfx; have c4_2_3 : w4.cell? ⟨w3.heap.size, 3, none⟩ = some (.int .i64 m.flags) := (hd4.cell (x := w3.heap.size) (o := 3) smx (by omega)).trans kpx; have f4_2_3 : w4.frozen? ⟨w3.heap.size, 3, none⟩ = false := (hd4.frozen (x := w3.heap.size) (o := 3) smx (by omega)).trans kfx; have c4_2_4 : w4.cell? ⟨w3.heap.size, 4, none⟩ = some (.string m.name) := (hd4.cell (x := w3.heap.size) (o := 4) smx (by omega)).trans kpx; have f4_2_4 : w4.frozen? ⟨w3.heap.size, 4, none⟩ = false := (hd4.frozen (x := w3.heap.size) (o := 4) smx (by omega)).trans kfx; have c4_2_5 : w4.cell? ⟨w3.heap.size, 5, none⟩ = some (.string m.text) := (hd4.cell (x := w3.heap.size) (o := 5) smx (by omega)).trans kpx; have f4_2_5 : w4.frozen? ⟨w3.heap.size, 5, none⟩ = false := (hd4.frozen (x := w3.heap.size) (o := 5) smx (by omega)).trans kfx))
        all_goals (
          obtain ⟨rs, rok, hrel⟩ := cmtRel_ex ⟨zs.map PBox.box, l, gv⟩ (⟨m.kind, wrap64 (wrap64 (gv + 1) + v), m.uid, m.flags, m.name, m.text⟩ : DCommit)
          obtain ⟨t1, t2, t3, t4⟩ := cmt_small hrel (N := 4) (by omega) (by simpa using hzl) (smD_map.2 HSM.out) HSL.out hmn hmt
          have HSM1 := Lib.hid (show ∀ y ∈ zs, y.msgs.length ≤ 1048576 from fun y hy => by have := (HSM.out y hy).2.1; omega); have HSM2 := Lib.hid (show ∀ y ∈ zs, y.name.size ≤ 9223372036854775807 from fun y hy => by have := (HSM.out y hy).1; omega); have HSM3 := Lib.hid (show ∀ y ∈ zs, ∀ t ∈ y.msgs, t.text.size ≤ 9223372036854775807 from fun y hy t ht => by have := (HSM.out y hy).2.2 t ht; omega)
          have HREL := Lib.hid hrel; have HT2 := Lib.hid t2; have HT4 := Lib.hid t4; clear hrel t2 t4
          go_wp2_with fail
          with_reducible refine (specCommitted_at zs ba bc l la lc gv m.kind (wrap64 (wrap64 (gv + 1) + v)) m.uid m.flags m.name m.text _ (OwnSt.le (OwnSt.dr (cb := cb) HO.out dtx (by omega)) (Nat.zero_le _)) (by omega) HSM1.out (by omega) HSM2.out HSM3.out (by omega) (by omega) rs rok HREL).mono ?_
          rintro e w9 ⟨g9, q9, z9, g8, q8, rfl, hown, hzb, hb9⟩
          have dq : Dr cb wr w9 := dtx
          have HBS9 := Lib.hid (HBS.out.dr dq (by omega)); have HBZ9 := Lib.hid (HBZ.out.dr dq (by omega))
          have HNE9 := Lib.hid (hown.ne_at (b := w1.heap.size) (Or.inl smx)); have HO9 := Lib.hid (hown.le (B' := w.heap.size + 1) smx); have HZB := Lib.hid hzb
          clear hown hzb
          obtain ⟨y0, z0⟩ := HBS9.out.at 0 _ rfl
          obtain ⟨y1, z1⟩ := HBS9.out.at 1 _ rfl
          obtain ⟨y2, z2⟩ := HBS9.out.at 2 _ rfl
          have sb9 : w1.heap.size < w9.heap.size := HBS9.out.lt
          have HN : Hid (RSt cb w w1.heap.size (k + 1) (putW w9 w1.heap.size 0 [.slice g9 z9.length q9, .slice g8 rs.log.length q8, .int .i64 rs.given])) := ⟨g9, q9, z9, g8, q8, rs.log, rs.given, by rw [map_len HZB.out]; exact t1, smD_map.1 (by rw [HZB.out]; exact HT2.out), Nat.le_trans t3 (by show l.length + 1 ≤ _; omega), HT4.out, HBS9.out.put _ rfl, HBZ9.out.putn _ _ (by omega), HO9.out.putN HNE9.out _ _, HNE9.out, Dr.putW (by omega) _ _ _ (hd.trans dq)⟩
          go_wp2_with fail
          go_roundw
          case rel => exact ⟨k + 1, by omega, by go_num, HN.out⟩
          case measure => simp [intOf]; omega
          )
      · have ek : (m.kind == 1) = false := by simpa using hk1
        have HK := Lib.hid hk1; clear hk1
        by_cases hk2 : m.kind = 2
        · have ek2 : (m.kind == 2) = true := by simpa using hk2
          have HK2 := Lib.hid hk2; clear hk2
          go_wp2_with fail
          refine (l1Once_any cb 3 _ (hd3.cur.ext bxt) (by omega)).mono ?_
          rintro e w5 ⟨v, rfl, hd5⟩
          have hz5 := hd5.size; (try simp at hz5)
          have s5_0 : w.heap.size < w5.heap.size := (by omega)
          have c5_0_0 : w5.cell? ⟨w.heap.size, 0, none⟩ = some (.slice none 0 0) := (hd5.cell (x := w.heap.size) (o := 0) smx (by omega)).trans kpx
          have f5_0_0 : w5.frozen? ⟨w.heap.size, 0, none⟩ = false := (hd5.frozen (x := w.heap.size) (o := 0) smx (by omega)).trans kfx
          have c5_0_1 : w5.cell? ⟨w.heap.size, 1, none⟩ = some (.slice none 0 0) := (hd5.cell (x := w.heap.size) (o := 1) smx (by omega)).trans kpx
          have f5_0_1 : w5.frozen? ⟨w.heap.size, 1, none⟩ = false := (hd5.frozen (x := w.heap.size) (o := 1) smx (by omega)).trans kfx
          have c5_0_2 : w5.cell? ⟨w.heap.size, 2, none⟩ = some (.int .i64 0) := (hd5.cell (x := w.heap.size) (o := 2) smx (by omega)).trans kpx
          have f5_0_2 : w5.frozen? ⟨w.heap.size, 2, none⟩ = false := (hd5.frozen (x := w.heap.size) (o := 2) smx (by omega)).trans kfx
          have s5_1 : w1.heap.size < w5.heap.size := (by omega)
          have c5_1_0 : w5.cell? ⟨w1.heap.size, 0, none⟩ = some (.slice ba zs.length bc) := (hd5.cell (x := w1.heap.size) (o := 0) smx (by omega)).trans kpx
          have f5_1_0 : w5.frozen? ⟨w1.heap.size, 0, none⟩ = false := (hd5.frozen (x := w1.heap.size) (o := 0) smx (by omega)).trans kfx
          have c5_1_1 : w5.cell? ⟨w1.heap.size, 1, none⟩ = some (.slice la l.length lc) := (hd5.cell (x := w1.heap.size) (o := 1) smx (by omega)).trans kpx
          have f5_1_1 : w5.frozen? ⟨w1.heap.size, 1, none⟩ = false := (hd5.frozen (x := w1.heap.size) (o := 1) smx (by omega)).trans kfx
          have c5_1_2 : w5.cell? ⟨w1.heap.size, 2, none⟩ = some (.int .i64 gv) := (hd5.cell (x := w1.heap.size) (o := 2) smx (by omega)).trans kpx
          have f5_1_2 : w5.frozen? ⟨w1.heap.size, 2, none⟩ = false := (hd5.frozen (x := w1.heap.size) (o := 2) smx (by omega)).trans kfx
          have s5_2 : w3.heap.size < w5.heap.size := (by omega)
          have c5_2_0 : w5.cell? ⟨w3.heap.size, 0, none⟩ = some (.int .i64 m.kind) := (hd5.cell (x := w3.heap.size) (o := 0) smx (by omega)).trans kpx
          have f5_2_0 : w5.frozen? ⟨w3.heap.size, 0, none⟩ = false := (hd5.frozen (x := w3.heap.size) (o := 0) smx (by omega)).trans kfx
          have c5_2_1 : w5.cell? ⟨w3.heap.size, 1, none⟩ = some (.int .i64 m.validity) := (hd5.cell (x := w3.heap.size) (o := 1) smx (by omega)).trans kpx
          have f5_2_1 : w5.frozen? ⟨w3.heap.size, 1, none⟩ = false := (hd5.frozen (x := w3.heap.size) (o := 1) smx (by omega)).trans kfx
          have c5_2_2 : w5.cell? ⟨w3.heap.size, 2, none⟩ = some (.int .i64 m.uid) := (hd5.cell (x := w3.heap.size) (o := 2) smx (by omega)).trans kpx
          have f5_2_2 : w5.frozen? ⟨w3.heap.size, 2, none⟩ = false := (hd5.frozen (x := w3.heap.size) (o := 2) smx (by omega)).trans kfx
          have c5_2_3 : w5.cell? ⟨w3.heap.size, 3, none⟩ = some (.int .i64 m.flags) := (hd5.cell (x := w3.heap.size) (o := 3) smx (by omega)).trans kpx
          have f5_2_3 : w5.frozen? ⟨w3.heap.size, 3, none⟩ = false := (hd5.frozen (x := w3.heap.size) (o := 3) smx (by omega)).trans kfx
          have c5_2_4 : w5.cell? ⟨w3.heap.size, 4, none⟩ = some (.string m.name) := (hd5.cell (x := w3.heap.size) (o := 4) smx (by omega)).trans kpx
          have f5_2_4 : w5.frozen? ⟨w3.heap.size, 4, none⟩ = false := (hd5.frozen (x := w3.heap.size) (o := 4) smx (by omega)).trans kfx
          have c5_2_5 : w5.cell? ⟨w3.heap.size, 5, none⟩ = some (.string m.text) := (hd5.cell (x := w3.heap.size) (o := 5) smx (by omega)).trans kpx
          have f5_2_5 : w5.frozen? ⟨w3.heap.size, 5, none⟩ = false := (hd5.frozen (x := w3.heap.size) (o := 5) smx (by omega)).trans kfx
          cases v
          · skip
            have dq : Dr cb wr w5 := dtx
            have HN : Hid (RSt cb w w1.heap.size (k + 1) w5) := ⟨ba, bc, zs, la, lc, l, gv, hzl, HSM.out, by omega, HSL.out, HBS.out.dr dq (by omega), HBZ.out.dr dq (by omega), HO.out.dr dq (by omega), HNE.out, hd.trans dq⟩
            go_wp2_with fail
            go_roundw
            case rel => exact ⟨k + 1, by omega, by go_num, HN.out⟩
            case measure => simp [intOf]; omega
          · skip
            obtain ⟨rs, rok, hrel⟩ := cmtRel_ex ⟨zs.map PBox.box, l, gv⟩ (⟨m.kind, m.validity, m.uid, m.flags, m.name, m.text⟩ : DCommit)
            obtain ⟨t1, t2, t3, t4⟩ := cmt_small hrel (N := 4) (by omega) (by simpa using hzl) (smD_map.2 HSM.out) HSL.out hmn hmt
            have HSM1 := Lib.hid (show ∀ y ∈ zs, y.msgs.length ≤ 1048576 from fun y hy => by have := (HSM.out y hy).2.1; omega); have HSM2 := Lib.hid (show ∀ y ∈ zs, y.name.size ≤ 9223372036854775807 from fun y hy => by have := (HSM.out y hy).1; omega); have HSM3 := Lib.hid (show ∀ y ∈ zs, ∀ t ∈ y.msgs, t.text.size ≤ 9223372036854775807 from fun y hy t ht => by have := (HSM.out y hy).2.2 t ht; omega)
            have HREL := Lib.hid hrel; have HT2 := Lib.hid t2; have HT4 := Lib.hid t4; clear hrel t2 t4
            go_wp2_with fail
            with_reducible refine (specCommitted_at zs ba bc l la lc gv m.kind (m.validity) m.uid m.flags m.name m.text _ (OwnSt.le (OwnSt.dr (cb := cb) HO.out dtx (by omega)) (Nat.zero_le _)) (by omega) HSM1.out (by omega) HSM2.out HSM3.out (by omega) (by omega) rs rok HREL).mono ?_
            rintro e w9 ⟨g9, q9, z9, g8, q8, rfl, hown, hzb, hb9⟩
            have dq : Dr cb wr w9 := dtx
            have HBS9 := Lib.hid (HBS.out.dr dq (by omega)); have HBZ9 := Lib.hid (HBZ.out.dr dq (by omega))
            have HNE9 := Lib.hid (hown.ne_at (b := w1.heap.size) (Or.inl smx)); have HO9 := Lib.hid (hown.le (B' := w.heap.size + 1) smx); have HZB := Lib.hid hzb
            clear hown hzb
            obtain ⟨y0, z0⟩ := HBS9.out.at 0 _ rfl
            obtain ⟨y1, z1⟩ := HBS9.out.at 1 _ rfl
            obtain ⟨y2, z2⟩ := HBS9.out.at 2 _ rfl
            have sb9 : w1.heap.size < w9.heap.size := HBS9.out.lt
            have HN : Hid (RSt cb w w1.heap.size (k + 1) (putW w9 w1.heap.size 0 [.slice g9 z9.length q9, .slice g8 rs.log.length q8, .int .i64 rs.given])) := ⟨g9, q9, z9, g8, q8, rs.log, rs.given, by rw [map_len HZB.out]; exact t1, smD_map.1 (by rw [HZB.out]; exact HT2.out), Nat.le_trans t3 (by show l.length + 1 ≤ _; omega), HT4.out, HBS9.out.put _ rfl, HBZ9.out.putn _ _ (by omega), HO9.out.putN HNE9.out _ _, HNE9.out, Dr.putW (by omega) _ _ _ (hd.trans dq)⟩
            go_wp2_with fail
            go_roundw
            case rel => exact ⟨k + 1, by omega, by go_num, HN.out⟩
            case measure => simp [intOf]; omega
        · have ek2 : (m.kind == 2) = false := by simpa using hk2
          have HK2 := Lib.hid hk2; clear hk2
          obtain ⟨rs, rok, hrel⟩ := cmtRel_ex ⟨zs.map PBox.box, l, gv⟩ (⟨m.kind, m.validity, m.uid, m.flags, m.name, m.text⟩ : DCommit)
          obtain ⟨t1, t2, t3, t4⟩ := cmt_small hrel (N := 4) (by omega) (by simpa using hzl) (smD_map.2 HSM.out) HSL.out hmn hmt
          have HSM1 := Lib.hid (show ∀ y ∈ zs, y.msgs.length ≤ 1048576 from fun y hy => by have := (HSM.out y hy).2.1; omega); have HSM2 := Lib.hid (show ∀ y ∈ zs, y.name.size ≤ 9223372036854775807 from fun y hy => by have := (HSM.out y hy).1; omega); have HSM3 := Lib.hid (show ∀ y ∈ zs, ∀ t ∈ y.msgs, t.text.size ≤ 9223372036854775807 from fun y hy t ht => by have := (HSM.out y hy).2.2 t ht; omega)
          have HREL := Lib.hid hrel; have HT2 := Lib.hid t2; have HT4 := Lib.hid t4; clear hrel t2 t4
          go_wp2_with fail
          with_reducible refine (specCommitted_at zs ba bc l la lc gv m.kind (m.validity) m.uid m.flags m.name m.text _ (OwnSt.le (OwnSt.dr (cb := cb) HO.out dtx (by omega)) (Nat.zero_le _)) (by omega) HSM1.out (by omega) HSM2.out HSM3.out (by omega) (by omega) rs rok HREL).mono ?_
          rintro e w9 ⟨g9, q9, z9, g8, q8, rfl, hown, hzb, hb9⟩
          have dq : Dr cb wr w9 := dtx
          have HBS9 := Lib.hid (HBS.out.dr dq (by omega)); have HBZ9 := Lib.hid (HBZ.out.dr dq (by omega))
          have HNE9 := Lib.hid (hown.ne_at (b := w1.heap.size) (Or.inl smx)); have HO9 := Lib.hid (hown.le (B' := w.heap.size + 1) smx); have HZB := Lib.hid hzb
          clear hown hzb
          obtain ⟨y0, z0⟩ := HBS9.out.at 0 _ rfl
          obtain ⟨y1, z1⟩ := HBS9.out.at 1 _ rfl
          obtain ⟨y2, z2⟩ := HBS9.out.at 2 _ rfl
          have sb9 : w1.heap.size < w9.heap.size := HBS9.out.lt
          have HN : Hid (RSt cb w w1.heap.size (k + 1) (putW w9 w1.heap.size 0 [.slice g9 z9.length q9, .slice g8 rs.log.length q8, .int .i64 rs.given])) := ⟨g9, q9, z9, g8, q8, rs.log, rs.given, by rw [map_len HZB.out]; exact t1, smD_map.1 (by rw [HZB.out]; exact HT2.out), Nat.le_trans t3 (by show l.length + 1 ≤ _; omega), HT4.out, HBS9.out.put _ rfl, HBZ9.out.putn _ _ (by omega), HO9.out.putN HNE9.out _ _, HNE9.out, Dr.putW (by omega) _ _ _ (hd.trans dq)⟩
          go_wp2_with fail
          go_roundw
          case rel => exact ⟨k + 1, by omega, by go_num, HN.out⟩
          case measure => simp [intOf]; omega
    · skip
      go_wp2_with fail
      refine bodyPost_ret (v := .agg #[.slice ba zs.length bc, .slice la l.length lc, .int .i64 gv]) (by simp [results, Tryz.results32, go_sem, *]) rfl ⟨ba, bc, zs, la, lc, l, gv, hzl, HSM.out, by omega, HSL.out, rfl, ?_, dtx⟩
      refine OwnSt.le (B := w.heap.size + 1) ?_ (by omega)
      exact (by repeat' (first | with_reducible exact HO.out | with_reducible refine OwnSt.setB ?_ smx _ | with_reducible refine OwnSt.alloc1 ?_ _))
end Go.Proofs.YtemgabekckhckaaGreat

namespace Go.Proofs.YtemgabekckhckaaGreat
open Go.RowKit
set_option linter.unusedVariables false
set_option linter.unusedSimpArgs false

/-- a store of the call's own, some of whose mailboxes may share their messages -/
structure OwnRt (w : World) (B E EM EC : Nat) (ba : Option Addr) (bc : Nat) (zs : List PBox) (la : Option Addr) (lc : Nat) (l : List DCommit) : Prop where
  rs : OwnRs w B E EM ba bc zs
  log : Own w B EC 6 (.slice la l.length lc) l.length (l.flatMap DCommit.cells)
theorem OwnRt.ext {w w' : World} {B E EM EC : Nat} {ba la : Option Addr} {bc lc : Nat} {zs : List PBox} {l : List DCommit} (h : OwnRt w B E EM EC ba bc zs la lc l) (hb : Below w.heap.size w w') : OwnRt w' B E EM EC ba bc zs la lc l := ⟨h.rs.ext hb, h.log.ext hb⟩
theorem OwnRt.le {w : World} {B B' E EM EC : Nat} {ba la : Option Addr} {bc lc : Nat} {zs : List PBox} {l : List DCommit} (h : OwnRt w B E EM EC ba bc zs la lc l) (hb : B' ≤ B) : OwnRt w B' E EM EC ba bc zs la lc l := ⟨h.rs.le hb, h.log.le hb⟩
theorem OwnRt.dr {w w' : World} {cb B E EM EC : Nat} {ba la : Option Addr} {bc lc : Nat} {zs : List PBox} {l : List DCommit} (h : OwnRt w B E EM EC ba bc zs la lc l) (hd : Dr cb w w') (hB : cb < B) : OwnRt w' B E EM EC ba bc zs la lc l := ⟨h.rs.dr hd hB, h.log.dr hd hB⟩
theorem OwnRt.set_below {w : World} {B E EM EC : Nat} {ba la : Option Addr} {bc lc : Nat} {zs : List PBox} {l : List DCommit} (h : OwnRt w B E EM EC ba bc zs la lc l) {p : Addr} (hp : p.block < B) (u : Value) : OwnRt (w.setCell p u) B E EM EC ba bc zs la lc l := ⟨h.rs.set_below hp u, h.log.set_below hp u⟩
theorem OwnRs.off {w w' : World} {B E EM c : Nat} {a : Option Addr} {l : List PBox} {row : Option Nat} (h : OwnRs w B E EM a c l) (hg : w.grownBy w' row) (hn : ∀ k, rowsB a c l k → row ≠ some k) : OwnRs w' B E EM a c l :=
  ⟨h.row.chg (S := fun k => row = some k) (Chg.grown hg (fun _ e => e)) (fun k hk => hn k (Or.inl hk)), fun z hz => (h.msg z hz).chg (S := fun k => row = some k) (Chg.grown hg (fun _ e => e)) (fun k hk => hn k (Or.inr ⟨z.key, List.mem_map_of_mem hz, hk⟩))⟩
theorem OwnRs.set_ne {w : World} {B E EM c : Nat} {a : Option Addr} {l : List PBox} (h : OwnRs w B E EM a c l) {p : Addr} (hp : ∀ k, rowsB a c l k → k ≠ p.block) (u : Value) : OwnRs (w.setCell p u) B E EM a c l :=
  h.off (grown_so (World.grownBy.refl w (some p.block)) rfl u) (fun k hk e => hp k hk (Option.some.inj e).symm)
theorem SmL.app {l : List DCommit} {m : DCommit} (h : SmL l) (h1 : m.name.size ≤ 41) (h2 : m.text.size ≤ 41) : SmL (l ++ [m]) := fun y hy => by
  rcases List.mem_append.1 hy with hy | hy
  · exact h y hy
  · rw [List.mem_singleton.1 hy]; exact ⟨h1, h2⟩
theorem SmL.take {l : List DCommit} (h : SmL l) (k : Nat) : SmL (l.take k) := fun y hy => h y (List.mem_of_mem_take hy)
theorem OwnRs.rows_lt {w : World} {B E EM c : Nat} {a : Option Addr} {l : List PBox} (h : OwnRs w B E EM a c l) : ∀ k, rowsB a c l k → B ≤ k ∧ k < w.heap.size := fun k hk => by
  rcases hk with hk | ⟨v, hv, hk⟩
  · exact h.row.lt k hk
  · obtain ⟨z, hz, rfl⟩ := List.mem_map.1 hv
    exact (h.msg z hz).lt k hk
def DrSt (cb : Nat) (w : World) (e : Ending) (w' : World) : Prop := ∃ (ba : Option Addr) (bc : Nat) (zs : List PBox) (la : Option Addr) (lc : Nat) (l : List DCommit) (gv : Int), zs.length ≤ 5 ∧ SmB 6 zs ∧ l.length ≤ 320 ∧ SmL l ∧ e = .returned (.agg #[.slice ba zs.length bc, .slice la l.length lc, .int .i64 gv]) ∧ OwnRt w' w.heap.size 32 60 45 ba bc zs la lc l ∧ Dr cb w w'
/-- the loop that lengthens the log -/
def GSt (cb : Nat) (w : World) (b bm : Nat) (ba : Option Addr) (bc : Nat) (zs : List PBox) (gv : Int) (n : Nat) (wx : World) : Prop := ∃ (la : Option Addr) (lc : Nat) (l : List DCommit), l.length + n = 320 ∧ SmL l ∧ Bx wx b [.slice ba zs.length bc, .slice la l.length lc, .int .i64 gv] ∧ Bx wx bm [.int .i64 5, .int .i64 1, .int .i64 1, .int .i64 3, .string ⟨#[]⟩, .string ⟨#[]⟩] ∧ Bx wx w.heap.size [.slice none 0 0, .slice none 0 0, .int .i64 0] ∧ OwnRt wx (w.heap.size + 1) 32 60 45 ba bc zs la lc l ∧ (∀ k, rowsS ba bc zs la lc l.length k → k ≠ b ∧ k ≠ bm) ∧ (∀ k, rowsB ba bc zs k → foot (.slice la l.length lc) ≠ some k) ∧ Dr cb w wx
set_option maxRecDepth 100000 in
set_option maxHeartbeats 8000000 in
theorem l11Bent_any (cb : Nat) (w : World) (hc : Cur w cb) :
    Calls Tryz.prog 15 #[.pointer (some ⟨cb, 0, none⟩)] w (DrSt cb w) := by
  obtain ⟨i0, hi, hy0, hy1, hy2⟩ := info_parts info_Commit
  have hcl := hc.lt
  have HC := Lib.hid hc
  clear hc
  go_enter Tryz.func15, Tryz.ntmps15
  go_wp2_with fail
  refine (l11Right_any cb _ (HC.out.ext bxt)).mono ?_
  rintro e w1 ⟨ba, bc, zs, la, lc, l, gv, hzl, hsm, hll, hsl, rfl, ho, hd1⟩
  have hz1 := hd1.size; (try simp at hz1)
  have s1_0 : w.heap.size < w1.heap.size := (by omega)
  have c1_0_0 : w1.cell? ⟨w.heap.size, 0, none⟩ = some (.slice none 0 0) := (hd1.cell (x := w.heap.size) (o := 0) smx (by omega)).trans kpx
  have f1_0_0 : w1.frozen? ⟨w.heap.size, 0, none⟩ = false := (hd1.frozen (x := w.heap.size) (o := 0) smx (by omega)).trans kfx
  have c1_0_1 : w1.cell? ⟨w.heap.size, 1, none⟩ = some (.slice none 0 0) := (hd1.cell (x := w.heap.size) (o := 1) smx (by omega)).trans kpx
  have f1_0_1 : w1.frozen? ⟨w.heap.size, 1, none⟩ = false := (hd1.frozen (x := w.heap.size) (o := 1) smx (by omega)).trans kfx
  have c1_0_2 : w1.cell? ⟨w.heap.size, 2, none⟩ = some (.int .i64 0) := (hd1.cell (x := w.heap.size) (o := 2) smx (by omega)).trans kpx
  have f1_0_2 : w1.frozen? ⟨w.heap.size, 2, none⟩ = false := (hd1.frozen (x := w.heap.size) (o := 2) smx (by omega)).trans kfx
  have HSM := Lib.hid hsm; have HSL := Lib.hid hsl; have HNE := Lib.hid (ho.ne_at (b := w1.heap.size) (Or.inr (Nat.le_refl _))); have HO := Lib.hid (ho.le (B' := w.heap.size + 1) (by simp)); clear hsm hsl ho
  have HAP := Lib.hid (fun k hk => HO.out.apart (k := k) hk)
  go_wp2_with fail
  refine (l1Below_any cb 10 _ (hd1.cur.ext bxt) (by omega)).mono ?_
  rintro e w2 ⟨v, ⟨v0, v1, -⟩, rfl, hd2⟩
  have v1 := v1 (by omega)
  have hz2 := hd2.size; (try simp at hz2)
  have s2_0 : w.heap.size < w2.heap.size := (by omega)
  have c2_0_0 : w2.cell? ⟨w.heap.size, 0, none⟩ = some (.slice none 0 0) := (hd2.cell (x := w.heap.size) (o := 0) smx (by omega)).trans kpx
  have f2_0_0 : w2.frozen? ⟨w.heap.size, 0, none⟩ = false := (hd2.frozen (x := w.heap.size) (o := 0) smx (by omega)).trans kfx
  have c2_0_1 : w2.cell? ⟨w.heap.size, 1, none⟩ = some (.slice none 0 0) := (hd2.cell (x := w.heap.size) (o := 1) smx (by omega)).trans kpx
  have f2_0_1 : w2.frozen? ⟨w.heap.size, 1, none⟩ = false := (hd2.frozen (x := w.heap.size) (o := 1) smx (by omega)).trans kfx
  have c2_0_2 : w2.cell? ⟨w.heap.size, 2, none⟩ = some (.int .i64 0) := (hd2.cell (x := w.heap.size) (o := 2) smx (by omega)).trans kpx
  have f2_0_2 : w2.frozen? ⟨w.heap.size, 2, none⟩ = false := (hd2.frozen (x := w.heap.size) (o := 2) smx (by omega)).trans kfx
  have s2_1 : w1.heap.size < w2.heap.size := (by omega)
  have c2_1_0 : w2.cell? ⟨w1.heap.size, 0, none⟩ = some (.slice ba zs.length bc) := (hd2.cell (x := w1.heap.size) (o := 0) smx (by omega)).trans kpx
  have f2_1_0 : w2.frozen? ⟨w1.heap.size, 0, none⟩ = false := (hd2.frozen (x := w1.heap.size) (o := 0) smx (by omega)).trans kfx
  have c2_1_1 : w2.cell? ⟨w1.heap.size, 1, none⟩ = some (.slice la l.length lc) := (hd2.cell (x := w1.heap.size) (o := 1) smx (by omega)).trans kpx
  have f2_1_1 : w2.frozen? ⟨w1.heap.size, 1, none⟩ = false := (hd2.frozen (x := w1.heap.size) (o := 1) smx (by omega)).trans kfx
  have c2_1_2 : w2.cell? ⟨w1.heap.size, 2, none⟩ = some (.int .i64 gv) := (hd2.cell (x := w1.heap.size) (o := 2) smx (by omega)).trans kpx
  have f2_1_2 : w2.frozen? ⟨w1.heap.size, 2, none⟩ = false := (hd2.frozen (x := w1.heap.size) (o := 2) smx (by omega)).trans kfx
  have HCR := Lib.hid hd1.cur; have hdo : Dr cb w1 w2 := dtx; have HCS := Lib.hid hd2.cur; have HO2 := Lib.hid (HO.out.dr hdo (by omega))
  have HNEB := fun (k : Nat) (hk : rowsB ba bc zs k) => HNE.out k (Or.inl hk)
  have HNEB := Lib.hid HNEB
  have nlog : foot (.slice la l.length lc) ≠ some w1.heap.size := fun e => HNE.out _ (Or.inr e) rfl
  have HB2 : Hid (Bx w2 w1.heap.size [.slice ba zs.length bc, .slice la l.length lc, .int .i64 gv]) := (Bx.mk rfl _ rfl).dr hd2 (by omega)
  by_cases hv0 : v = 0
  · subst hv0
    go_wp2_with fail
    refine (l9Bent_any cb _ (hd2.cur.ext bxt)).mono ?_
    rintro e w3 ⟨g, q, ys, hyl, hys, rfl, hoy, hd3⟩
    have hz3 := hd3.size; (try simp at hz3)
    have s3_0 : w.heap.size < w3.heap.size := (by omega)
    have c3_0_0 : w3.cell? ⟨w.heap.size, 0, none⟩ = some (.slice none 0 0) := (hd3.cell (x := w.heap.size) (o := 0) smx (by omega)).trans kpx
    have f3_0_0 : w3.frozen? ⟨w.heap.size, 0, none⟩ = false := (hd3.frozen (x := w.heap.size) (o := 0) smx (by omega)).trans kfx
    have c3_0_1 : w3.cell? ⟨w.heap.size, 1, none⟩ = some (.slice none 0 0) := (hd3.cell (x := w.heap.size) (o := 1) smx (by omega)).trans kpx
    have f3_0_1 : w3.frozen? ⟨w.heap.size, 1, none⟩ = false := (hd3.frozen (x := w.heap.size) (o := 1) smx (by omega)).trans kfx
    have c3_0_2 : w3.cell? ⟨w.heap.size, 2, none⟩ = some (.int .i64 0) := (hd3.cell (x := w.heap.size) (o := 2) smx (by omega)).trans kpx
    have f3_0_2 : w3.frozen? ⟨w.heap.size, 2, none⟩ = false := (hd3.frozen (x := w.heap.size) (o := 2) smx (by omega)).trans kfx
    have s3_1 : w1.heap.size < w3.heap.size := (by omega)
    have c3_1_0 : w3.cell? ⟨w1.heap.size, 0, none⟩ = some (.slice ba zs.length bc) := (hd3.cell (x := w1.heap.size) (o := 0) smx (by omega)).trans kpx
    have f3_1_0 : w3.frozen? ⟨w1.heap.size, 0, none⟩ = false := (hd3.frozen (x := w1.heap.size) (o := 0) smx (by omega)).trans kfx
    have c3_1_1 : w3.cell? ⟨w1.heap.size, 1, none⟩ = some (.slice la l.length lc) := (hd3.cell (x := w1.heap.size) (o := 1) smx (by omega)).trans kpx
    have f3_1_1 : w3.frozen? ⟨w1.heap.size, 1, none⟩ = false := (hd3.frozen (x := w1.heap.size) (o := 1) smx (by omega)).trans kfx
    have c3_1_2 : w3.cell? ⟨w1.heap.size, 2, none⟩ = some (.int .i64 gv) := (hd3.cell (x := w1.heap.size) (o := 2) smx (by omega)).trans kpx
    have f3_1_2 : w3.frozen? ⟨w1.heap.size, 2, none⟩ = false := (hd3.frozen (x := w1.heap.size) (o := 2) smx (by omega)).trans kfx
    have HOY := Lib.hid hoy; have HYS := Lib.hid hys; clear hoy hys; have hdq : Dr cb w2 w3 := dtx; have HL3 := Lib.hid (HO2.out.log.dr hdq (by omega)); have hs2 : w1.heap.size < w2.heap.size := by omega
    go_wp2_with fail
    refine bodyPost_ret (v := .agg #[.slice g ys.length q, .slice la l.length lc, .int .i64 gv]) (by simp [results, Tryz.results15, go_sem, *]) rfl ⟨g, q, ys, la, lc, l, gv, hyl, HYS.out, by omega, HSL.out, rfl, ?_, dtx⟩
    refine OwnRt.mk ?_ ?_
    · refine OwnRs.le (B := w2.heap.size) ?_ (by omega); exact (by repeat' (first | with_reducible exact HOY.out | with_reducible refine OwnRs.set_below ?_ smx _))
    · refine Own.le (B := w.heap.size + 1) ?_ (by omega); exact (by repeat' (first | with_reducible exact HL3.out | with_reducible refine Own.set_below ?_ smx _ | with_reducible refine Own.set_off ?_ (by with_reducible exact nlog) _ | with_reducible refine Own.alloc1 ?_ _ | with_reducible refine Own.drew1 ?_ | with_reducible refine Own.drewN1 ?_ | with_reducible refine Own.ext ?_ (by assumption)))
  · have ev0 : (v == 0) = false := by simpa using hv0
    by_cases hv1 : v = 1
    · subst hv1
      go_wp2_with fail
      go_region_law ((first | (go_simp; go_at_call 35; refine (l10Bent_any cb zs ba bc (w.heap.size + 1) _ (HCS.out.ext bxt) (OwnRs.ext (OwnBs.rs (OwnSt.box HO2.out)) bxt) (by omega) (by omega) (fun y hy => by have := (HSM.out y hy).2.1; omega)).mono ?_; rintro e w4 ⟨m, hmn, hmt, rfl, hd4⟩; have hz4 := hd4.size; (try simp at hz4); have s4_0 : w.heap.size < w4.heap.size := (by omega); have c4_0_0 : w4.cell? ⟨w.heap.size, 0, none⟩ = some (.slice none 0 0) := (hd4.cell (x := w.heap.size) (o := 0) smx (by omega)).trans kpx; have f4_0_0 : w4.frozen? ⟨w.heap.size, 0, none⟩ = false := (hd4.frozen (x := w.heap.size) (o := 0) smx (by omega)).trans kfx; have c4_0_1 : w4.cell? ⟨w.heap.size, 1, none⟩ = some (.slice none 0 0) := (hd4.cell (x := w.heap.size) (o := 1) smx (by omega)).trans kpx; have f4_0_1 : w4.frozen? ⟨w.heap.size, 1, none⟩ = false := (hd4.frozen (x := w.heap.size) (o := 1) smx (by omega)).trans kfx; have c4_0_2 : w4.cell? ⟨w.heap.size, 2, none⟩ = some (.int .i64 0) := (hd4.cell (x := w.heap.size) (o := 2) smx (by omega)).trans kpx; have f4_0_2 : w4.frozen? ⟨w.heap.size, 2, none⟩ = false := (hd4.frozen (x := w.heap.size) (o := 2) smx (by omega)).trans kfx; have s4_1 : w1.heap.size < w4.heap.size := (by omega); have c4_1_0 : w4.cell? ⟨w1.heap.size, 0, none⟩ = some (.slice ba zs.length bc) := (hd4.cell (x := w1.heap.size) (o := 0) smx (by omega)).trans kpx; have f4_1_0 : w4.frozen? ⟨w1.heap.size, 0, none⟩ = false := (hd4.frozen (x := w1.heap.size) (o := 0) smx (by omega)).trans kfx; have c4_1_1 : w4.cell? ⟨w1.heap.size, 1, none⟩ = some (.slice la l.length lc) := (hd4.cell (x := w1.heap.size) (o := 1) smx (by omega)).trans kpx; have f4_1_1 : w4.frozen? ⟨w1.heap.size, 1, none⟩ = false := (hd4.frozen (x := w1.heap.size) (o := 1) smx (by omega)).trans kfx; have c4_1_2 : w4.cell? ⟨w1.heap.size, 2, none⟩ = some (.int .i64 gv) := (hd4.cell (x := w1.heap.size) (o := 2) smx (by omega)).trans kpx; have f4_1_2 : w4.frozen? ⟨w1.heap.size, 2, none⟩ = false := (hd4.frozen (x := w1.heap.size) (o := 2) smx (by omega)).trans kfx; have hdq : Dr cb w2 w4 := dtx; have HO3 := Lib.hid (HO2.out.dr hdq (by omega)); have hdw : Dr cb w w4 := dtx) | (refine step_appD (B := w.heap.size + 1) (v := .slice la l.length lc) rfl (.tmp 17) (.tmp 22) 25 rfl i0 _ _ Tryz.underlying25 hi hy0 hy1 hy2 rfl (by decide) (by simp [Act.eval, Act.put]) (HO3.out.log.ext bxt) (some ⟨w4.heap.size, 0, none⟩) 1 1 m.cells (by simp [Act.eval, Act.put]) (Rd.lit _ _ _ _ 6 _ (by simp) rfl (by omega)) (DCommit.one m) (by omega) (by omega) smx ?_; intro g2 q2 w5 hown hg hwl; have n0 := HO3.out.log.ne_lt (b := w.heap.size) (by omega); have nn1 : foot (.slice g2 (l.length + 1) q2) ≠ some w1.heap.size := (fun e => by rcases hwl _ e with h | h; exact nlog h; (try simp at h); omega); have s5_0 : w.heap.size < w5.heap.size := (by have hss := hg.size; first | omega | (simp at hss; omega)); have c5_0_0 : w5.cell? ⟨w.heap.size, 0, none⟩ = some (.slice none 0 0) := grown_cell hg kpx n0; have f5_0_0 : w5.frozen? ⟨w.heap.size, 0, none⟩ = false := grown_frz hg smx kfx n0; have c5_0_1 : w5.cell? ⟨w.heap.size, 1, none⟩ = some (.slice none 0 0) := grown_cell hg kpx n0; have f5_0_1 : w5.frozen? ⟨w.heap.size, 1, none⟩ = false := grown_frz hg smx kfx n0; have c5_0_2 : w5.cell? ⟨w.heap.size, 2, none⟩ = some (.int .i64 0) := grown_cell hg kpx n0; have f5_0_2 : w5.frozen? ⟨w.heap.size, 2, none⟩ = false := grown_frz hg smx kfx n0; have s5_1 : w1.heap.size < w5.heap.size := (by have hss := hg.size; first | omega | (simp at hss; omega)); have c5_1_0 : w5.cell? ⟨w1.heap.size, 0, none⟩ = some (.slice ba zs.length bc) := grown_cell hg kpx nlog; have f5_1_0 : w5.frozen? ⟨w1.heap.size, 0, none⟩ = false := grown_frz hg smx kfx nlog; have c5_1_1 : w5.cell? ⟨w1.heap.size, 1, none⟩ = some (.slice la l.length lc) := grown_cell hg kpx nlog; have f5_1_1 : w5.frozen? ⟨w1.heap.size, 1, none⟩ = false := grown_frz hg smx kfx nlog; have c5_1_2 : w5.cell? ⟨w1.heap.size, 2, none⟩ = some (.int .i64 gv) := grown_cell hg kpx nlog; have f5_1_2 : w5.frozen? ⟨w1.heap.size, 2, none⟩ = false := grown_frz hg smx kfx nlog; have HR5 := Lib.hid ((OwnRs.ext (w' := _) (OwnBs.rs (OwnSt.box HO3.out)) bxt).off hg (fun k hk e => HAP.out k hk e)); have HW := Lib.hid hown; have hdg : Dr cb w w5 := Dr.grown (b := _) (Dr.alloc hdw _) hg (fun k hk => Nat.le_trans (Nat.le_succ _) (HO3.out.log.lt k hk).1); clear hown hwl)))
      all_goals go_wp2_with fail
      all_goals refine bodyPost_ret (v := .agg #[.slice ba zs.length bc, .slice g2 (l.length + 1) q2, .int .i64 gv]) (by simp [results, Tryz.results15, go_sem, *]) rfl ⟨ba, bc, zs, g2, q2, l ++ [m], gv, by omega, HSM.out, by simp; omega, HSL.out.app hmn hmt, by simp, ?_, dtx⟩
      all_goals refine OwnRt.mk ?_ ?_
      all_goals first | (refine OwnRs.le (B := w.heap.size + 1) ?_ (by omega); exact (by repeat' (first | with_reducible exact HR5.out | with_reducible refine OwnRs.set_below ?_ smx _ | with_reducible refine OwnRs.set_ne ?_ (by with_reducible exact HNEB.out) _ ))) | (simp only [List.length_append, List.length_cons, List.length_nil, List.flatMap_append, List.flatMap_cons, List.flatMap_nil, List.append_nil, Nat.zero_add]; refine Own.le (B := w.heap.size + 1) ?_ (by omega); exact (by repeat' (first | with_reducible exact HW.out | with_reducible refine Own.set_below ?_ smx _ | with_reducible refine Own.set_off ?_ (by with_reducible exact nn1) _ | with_reducible refine Own.alloc1 ?_ _ | with_reducible refine Own.drew1 ?_ | with_reducible refine Own.drewN1 ?_ | with_reducible refine Own.ext ?_ (by assumption))))
    · have ev1 : (v == 1) = false := by simpa using hv1
      by_cases hv2 : v = 2
      · subst hv2
        go_wp2_with fail
        refine (l1PickInt_any cb _ _ _ _ _ (hd2.cur.ext bxt) (Rd.lit _ _ _ _ 1 _ rfl rfl (by omega)) (by omega) (by omega) (by rfl) (fun b o e => by have hq := (hd2.cur.ext bxt).lt; simp at e; (try simp at hq); omega)).mono ?_
        rintro e w6 ⟨pk, hpk, rfl, hd6⟩
        have hz6 := hd6.size; (try simp at hz6)
        have s6_0 : w.heap.size < w6.heap.size := (by omega)
        have c6_0_0 : w6.cell? ⟨w.heap.size, 0, none⟩ = some (.slice none 0 0) := (hd6.cell (x := w.heap.size) (o := 0) smx (by omega)).trans kpx
        have f6_0_0 : w6.frozen? ⟨w.heap.size, 0, none⟩ = false := (hd6.frozen (x := w.heap.size) (o := 0) smx (by omega)).trans kfx
        have c6_0_1 : w6.cell? ⟨w.heap.size, 1, none⟩ = some (.slice none 0 0) := (hd6.cell (x := w.heap.size) (o := 1) smx (by omega)).trans kpx
        have f6_0_1 : w6.frozen? ⟨w.heap.size, 1, none⟩ = false := (hd6.frozen (x := w.heap.size) (o := 1) smx (by omega)).trans kfx
        have c6_0_2 : w6.cell? ⟨w.heap.size, 2, none⟩ = some (.int .i64 0) := (hd6.cell (x := w.heap.size) (o := 2) smx (by omega)).trans kpx
        have f6_0_2 : w6.frozen? ⟨w.heap.size, 2, none⟩ = false := (hd6.frozen (x := w.heap.size) (o := 2) smx (by omega)).trans kfx
        have s6_1 : w1.heap.size < w6.heap.size := (by omega)
        have c6_1_0 : w6.cell? ⟨w1.heap.size, 0, none⟩ = some (.slice ba zs.length bc) := (hd6.cell (x := w1.heap.size) (o := 0) smx (by omega)).trans kpx
        have f6_1_0 : w6.frozen? ⟨w1.heap.size, 0, none⟩ = false := (hd6.frozen (x := w1.heap.size) (o := 0) smx (by omega)).trans kfx
        have c6_1_1 : w6.cell? ⟨w1.heap.size, 1, none⟩ = some (.slice la l.length lc) := (hd6.cell (x := w1.heap.size) (o := 1) smx (by omega)).trans kpx
        have f6_1_1 : w6.frozen? ⟨w1.heap.size, 1, none⟩ = false := (hd6.frozen (x := w1.heap.size) (o := 1) smx (by omega)).trans kfx
        have c6_1_2 : w6.cell? ⟨w1.heap.size, 2, none⟩ = some (.int .i64 gv) := (hd6.cell (x := w1.heap.size) (o := 2) smx (by omega)).trans kpx
        have f6_1_2 : w6.frozen? ⟨w1.heap.size, 2, none⟩ = false := (hd6.frozen (x := w1.heap.size) (o := 2) smx (by omega)).trans kfx
        have hdq : Dr cb w2 w6 := dtx; have HO3 := Lib.hid (HO2.out.dr hdq (by omega))
        go_wp2_with fail
        refine bodyPost_ret (v := .agg #[.slice ba zs.length bc, .slice la l.length lc, .int .i64 pk]) (by simp [results, Tryz.results15, go_sem, *]) rfl ⟨ba, bc, zs, la, lc, l, pk, by omega, HSM.out, by omega, HSL.out, rfl, ?_, dtx⟩
        refine OwnRt.mk ?_ ?_
        · refine OwnRs.le (B := w.heap.size + 1) ?_ (by omega); exact (by repeat' (first | with_reducible exact HO3.out.box.rs | with_reducible refine OwnRs.set_below ?_ smx _ | with_reducible refine OwnRs.set_ne ?_ (by with_reducible exact HNEB.out) _ ))
        · refine Own.le (B := w.heap.size + 1) ?_ (by omega); exact (by repeat' (first | with_reducible exact HO3.out.log | with_reducible refine Own.set_below ?_ smx _ | with_reducible refine Own.set_off ?_ (by with_reducible exact nlog) _ | with_reducible refine Own.alloc1 ?_ _ | with_reducible refine Own.drew1 ?_ | with_reducible refine Own.drewN1 ?_ | with_reducible refine Own.ext ?_ (by assumption)))
      · have ev2 : (v == 2) = false := by simpa using hv2
        by_cases hv3 : v = 3
        · subst hv3
          have hcap := HO2.out.log.cap
          have hw1 : IntKind.i64.wrap ((l.length : Int) + 1) = (l.length : Int) + 1 := IntWalk.i64_in _ (by omega)
          go_wp2_with fail
          have HW1 := Lib.hid hw1
          go_region_law ((go_simp; go_at_call 33; refine (l1Below_any cb ((l.length : Int) + 1) _ (HCS.out.ext bxt) (by omega)).mono ?_; rintro e w7 ⟨kv, ⟨kv0, kv1, -⟩, rfl, hd7⟩; have kv1 := kv1 (by omega); obtain ⟨k, rfl⟩ : ∃ k : Nat, kv = k := ⟨kv.toNat, (by omega)⟩; have hkl : k ≤ l.length := (by omega); have hkc : (k : Int) ≤ (lc : Int) := (by omega); have hz7 := hd7.size; (try simp at hz7); have s7_0 : w.heap.size < w7.heap.size := (by omega); have c7_0_0 : w7.cell? ⟨w.heap.size, 0, none⟩ = some (.slice none 0 0) := (hd7.cell (x := w.heap.size) (o := 0) smx (by omega)).trans kpx; have f7_0_0 : w7.frozen? ⟨w.heap.size, 0, none⟩ = false := (hd7.frozen (x := w.heap.size) (o := 0) smx (by omega)).trans kfx; have c7_0_1 : w7.cell? ⟨w.heap.size, 1, none⟩ = some (.slice none 0 0) := (hd7.cell (x := w.heap.size) (o := 1) smx (by omega)).trans kpx; have f7_0_1 : w7.frozen? ⟨w.heap.size, 1, none⟩ = false := (hd7.frozen (x := w.heap.size) (o := 1) smx (by omega)).trans kfx; have c7_0_2 : w7.cell? ⟨w.heap.size, 2, none⟩ = some (.int .i64 0) := (hd7.cell (x := w.heap.size) (o := 2) smx (by omega)).trans kpx; have f7_0_2 : w7.frozen? ⟨w.heap.size, 2, none⟩ = false := (hd7.frozen (x := w.heap.size) (o := 2) smx (by omega)).trans kfx; have s7_1 : w1.heap.size < w7.heap.size := (by omega); have c7_1_0 : w7.cell? ⟨w1.heap.size, 0, none⟩ = some (.slice ba zs.length bc) := (hd7.cell (x := w1.heap.size) (o := 0) smx (by omega)).trans kpx; have f7_1_0 : w7.frozen? ⟨w1.heap.size, 0, none⟩ = false := (hd7.frozen (x := w1.heap.size) (o := 0) smx (by omega)).trans kfx; have c7_1_1 : w7.cell? ⟨w1.heap.size, 1, none⟩ = some (.slice la l.length lc) := (hd7.cell (x := w1.heap.size) (o := 1) smx (by omega)).trans kpx; have f7_1_1 : w7.frozen? ⟨w1.heap.size, 1, none⟩ = false := (hd7.frozen (x := w1.heap.size) (o := 1) smx (by omega)).trans kfx; have c7_1_2 : w7.cell? ⟨w1.heap.size, 2, none⟩ = some (.int .i64 gv) := (hd7.cell (x := w1.heap.size) (o := 2) smx (by omega)).trans kpx; have f7_1_2 : w7.frozen? ⟨w1.heap.size, 2, none⟩ = false := (hd7.frozen (x := w1.heap.size) (o := 2) smx (by omega)).trans kfx; have hdq : Dr cb w2 w7 := dtx; have HO3 := Lib.hid (HO2.out.dr hdq (by omega))))
          all_goals go_wp2_with fail
          all_goals have htk : (l.take k).length = k := by simp; omega
          all_goals have HTK := Lib.hid htk
          all_goals clear htk
          all_goals refine bodyPost_ret (v := .agg #[.slice ba zs.length bc, .slice la k lc, .int .i64 gv]) (by simp [results, Tryz.results15, go_sem, *]) rfl ⟨ba, bc, zs, la, lc, l.take k, gv, by omega, HSM.out, by rw [HTK.out]; omega, HSL.out.take k, by rw [HTK.out], ?_, dtx⟩
          all_goals refine OwnRt.mk ?_ ?_
          all_goals have HC3 : Hid (Own w7 (w.heap.size + 1) 45 6 (.slice la k lc) k ((l.take k).flatMap DCommit.cells)) := by (have h := HO3.out.log.cut hkl; rw [flat_take DCommit.cells_len] at h; exact h)
          all_goals have nl2 : foot (.slice la k lc) ≠ some w1.heap.size := foot_ne nlog
          all_goals first | (refine OwnRs.le (B := w.heap.size + 1) ?_ (by omega); exact (by repeat' (first | with_reducible exact HO3.out.box.rs | with_reducible refine OwnRs.set_below ?_ smx _ | with_reducible refine OwnRs.set_ne ?_ (by with_reducible exact HNEB.out) _ ))) | (rw [HTK.out]; refine Own.le (B := w.heap.size + 1) ?_ (by omega); exact (by repeat' (first | with_reducible exact HC3.out | with_reducible refine Own.set_below ?_ smx _ | with_reducible refine Own.set_off ?_ (by with_reducible exact nl2) _ | with_reducible refine Own.alloc1 ?_ _ | with_reducible refine Own.drew1 ?_ | with_reducible refine Own.drewN1 ?_ | with_reducible refine Own.ext ?_ (by assumption))))
        · have ev3 : (v == 3) = false := by simpa using hv3
          by_cases hv4 : v = 4
          · subst hv4
            go_wp2_with fail
            refine (l1Once_any cb 4 _ (hd2.cur.ext bxt) (by omega)).mono ?_
            rintro e w8 ⟨t, rfl, hd8⟩
            have hz8 := hd8.size; (try simp at hz8)
            have s8_0 : w.heap.size < w8.heap.size := (by omega)
            have c8_0_0 : w8.cell? ⟨w.heap.size, 0, none⟩ = some (.slice none 0 0) := (hd8.cell (x := w.heap.size) (o := 0) smx (by omega)).trans kpx
            have f8_0_0 : w8.frozen? ⟨w.heap.size, 0, none⟩ = false := (hd8.frozen (x := w.heap.size) (o := 0) smx (by omega)).trans kfx
            have c8_0_1 : w8.cell? ⟨w.heap.size, 1, none⟩ = some (.slice none 0 0) := (hd8.cell (x := w.heap.size) (o := 1) smx (by omega)).trans kpx
            have f8_0_1 : w8.frozen? ⟨w.heap.size, 1, none⟩ = false := (hd8.frozen (x := w.heap.size) (o := 1) smx (by omega)).trans kfx
            have c8_0_2 : w8.cell? ⟨w.heap.size, 2, none⟩ = some (.int .i64 0) := (hd8.cell (x := w.heap.size) (o := 2) smx (by omega)).trans kpx
            have f8_0_2 : w8.frozen? ⟨w.heap.size, 2, none⟩ = false := (hd8.frozen (x := w.heap.size) (o := 2) smx (by omega)).trans kfx
            have s8_1 : w1.heap.size < w8.heap.size := (by omega)
            have c8_1_0 : w8.cell? ⟨w1.heap.size, 0, none⟩ = some (.slice ba zs.length bc) := (hd8.cell (x := w1.heap.size) (o := 0) smx (by omega)).trans kpx
            have f8_1_0 : w8.frozen? ⟨w1.heap.size, 0, none⟩ = false := (hd8.frozen (x := w1.heap.size) (o := 0) smx (by omega)).trans kfx
            have c8_1_1 : w8.cell? ⟨w1.heap.size, 1, none⟩ = some (.slice la l.length lc) := (hd8.cell (x := w1.heap.size) (o := 1) smx (by omega)).trans kpx
            have f8_1_1 : w8.frozen? ⟨w1.heap.size, 1, none⟩ = false := (hd8.frozen (x := w1.heap.size) (o := 1) smx (by omega)).trans kfx
            have c8_1_2 : w8.cell? ⟨w1.heap.size, 2, none⟩ = some (.int .i64 gv) := (hd8.cell (x := w1.heap.size) (o := 2) smx (by omega)).trans kpx
            have f8_1_2 : w8.frozen? ⟨w1.heap.size, 2, none⟩ = false := (hd8.frozen (x := w1.heap.size) (o := 2) smx (by omega)).trans kfx
            have hdq : Dr cb w2 w8 := dtx; have HO3 := Lib.hid (HO2.out.dr hdq (by omega))
            cases t
            · skip
              go_wp2_with fail
              refine bodyPost_ret (v := .agg #[.slice ba zs.length bc, .slice la l.length lc, .int .i64 gv]) (by simp [results, Tryz.results15, go_sem, *]) rfl ⟨ba, bc, zs, la, lc, l, gv, by omega, HSM.out, by omega, HSL.out, rfl, ?_, dtx⟩
              refine OwnRt.mk ?_ ?_
              · refine OwnRs.le (B := w.heap.size + 1) ?_ (by omega); exact (by repeat' (first | with_reducible exact HO3.out.box.rs | with_reducible refine OwnRs.set_below ?_ smx _ | with_reducible refine OwnRs.set_ne ?_ (by with_reducible exact HNEB.out) _ ))
              · refine Own.le (B := w.heap.size + 1) ?_ (by omega); exact (by repeat' (first | with_reducible exact HO3.out.log | with_reducible refine Own.set_below ?_ smx _ | with_reducible refine Own.set_off ?_ (by with_reducible exact nlog) _ | with_reducible refine Own.alloc1 ?_ _ | with_reducible refine Own.drew1 ?_ | with_reducible refine Own.drewN1 ?_ | with_reducible refine Own.ext ?_ (by assumption)))
            · skip
              have hdw : Dr cb w w8 := dtx
              have HGS : Hid (GSt cb w w1.heap.size w8.heap.size ba bc zs gv (320 - l.length) (w8.alloc (.cells #[.int .i64 5, .int .i64 1, .int .i64 1, .int .i64 3, .string ⟨#[]⟩, .string ⟨#[]⟩] 45))) := ⟨la, lc, l, by omega, HSL.out, (HB2.out.dr hd8 (by omega)).ext (w' := _) bxt, Bx.mk rfl _ rfl, (((((Bx.ext (Bx.mk rfl _ rfl) bxt).dr hd1 (by omega)).ext (w' := w1.alloc _) bxt).dr hd2 (by omega)).dr hd8 (by omega)).ext (w' := _) bxt, ⟨OwnRs.ext (w' := _) (OwnBs.rs (OwnSt.box HO3.out)) bxt, HO3.out.log.ext bxt⟩, fun k hk => ⟨HNE.out k hk, by have := (HO3.out.rows_lt k hk).2; omega⟩, HAP.out, hdw.alloc _⟩
              go_wp2_with fail
              go_loopg [] (320 - l.length) (fun gk wr => Hid (GSt cb w w1.heap.size w8.heap.size ba bc zs gv gk wr))
              case atStart => exact HGS.out
              case round =>
                clear HGS
                obtain ⟨lb, ld, lx, hln, hsx, hbs, hbm, hbz, hox, hnx, hax, hdx⟩ := hrel.out
                obtain ⟨p0, q0⟩ := hbs.at 0 _ rfl
                obtain ⟨p1, q1⟩ := hbs.at 1 _ rfl
                obtain ⟨p2, q2⟩ := hbs.at 2 _ rfl
                obtain ⟨m0, n0⟩ := hbm.at 0 _ rfl
                obtain ⟨m1, n1⟩ := hbm.at 1 _ rfl
                obtain ⟨m2, n2⟩ := hbm.at 2 _ rfl
                obtain ⟨m3, n3⟩ := hbm.at 3 _ rfl
                obtain ⟨m4, n4⟩ := hbm.at 4 _ rfl
                obtain ⟨m5, n5⟩ := hbm.at 5 _ rfl
                obtain ⟨r0, s0⟩ := hbz.at 0 _ rfl
                obtain ⟨r1, s1⟩ := hbz.at 1 _ rfl
                obtain ⟨r2, s2⟩ := hbz.at 2 _ rfl
                have sb := hbs.lt; have sm := hbm.lt; have sr := hbz.lt
                have HBS := Lib.hid hbs; have HBM := Lib.hid hbm; have HBZ := Lib.hid hbz; have HOX := Lib.hid hox; have HNX := Lib.hid hnx; have HAX := Lib.hid hax; have HSX := Lib.hid hsx; have hcx := Lib.hid hdx.cur; have hlx : lx.length ≤ 320 := (by omega)
                clear hbs hbm hbz hox hnx hax hsx
                go_wp2_with fail
                go_region_law ((go_simp; go_at_call 33; refine (l1Below_any cb 3 _ (hcx.out.ext bxt) (by omega)).mono ?_; rintro e w9 ⟨u, ⟨u0, u1, -⟩, rfl, hd9⟩; have u1 := u1 (by omega); have hz9 := hd9.size; (try simp at hz9); have s9_0 : w1.heap.size < w9.heap.size := (by omega); have c9_0_0 : w9.cell? ⟨w1.heap.size, 0, none⟩ = some (.slice ba zs.length bc) := (hd9.cell (x := w1.heap.size) (o := 0) smx (by omega)).trans kpx; have f9_0_0 : w9.frozen? ⟨w1.heap.size, 0, none⟩ = false := (hd9.frozen (x := w1.heap.size) (o := 0) smx (by omega)).trans kfx; have c9_0_1 : w9.cell? ⟨w1.heap.size, 1, none⟩ = some (.slice lb lx.length ld) := (hd9.cell (x := w1.heap.size) (o := 1) smx (by omega)).trans kpx; have f9_0_1 : w9.frozen? ⟨w1.heap.size, 1, none⟩ = false := (hd9.frozen (x := w1.heap.size) (o := 1) smx (by omega)).trans kfx; have c9_0_2 : w9.cell? ⟨w1.heap.size, 2, none⟩ = some (.int .i64 gv) := (hd9.cell (x := w1.heap.size) (o := 2) smx (by omega)).trans kpx; have f9_0_2 : w9.frozen? ⟨w1.heap.size, 2, none⟩ = false := (hd9.frozen (x := w1.heap.size) (o := 2) smx (by omega)).trans kfx; have s9_1 : w8.heap.size < w9.heap.size := (by omega); have c9_1_0 : w9.cell? ⟨w8.heap.size, 0, none⟩ = some (.int .i64 5) := (hd9.cell (x := w8.heap.size) (o := 0) smx (by omega)).trans kpx; have f9_1_0 : w9.frozen? ⟨w8.heap.size, 0, none⟩ = false := (hd9.frozen (x := w8.heap.size) (o := 0) smx (by omega)).trans kfx; have c9_1_1 : w9.cell? ⟨w8.heap.size, 1, none⟩ = some (.int .i64 1) := (hd9.cell (x := w8.heap.size) (o := 1) smx (by omega)).trans kpx; have f9_1_1 : w9.frozen? ⟨w8.heap.size, 1, none⟩ = false := (hd9.frozen (x := w8.heap.size) (o := 1) smx (by omega)).trans kfx; have c9_1_2 : w9.cell? ⟨w8.heap.size, 2, none⟩ = some (.int .i64 1) := (hd9.cell (x := w8.heap.size) (o := 2) smx (by omega)).trans kpx; have f9_1_2 : w9.frozen? ⟨w8.heap.size, 2, none⟩ = false := (hd9.frozen (x := w8.heap.size) (o := 2) smx (by omega)).trans kfx; have c9_1_3 : w9.cell? ⟨w8.heap.size, 3, none⟩ = some (.int .i64 3) := (hd9.cell (x := w8.heap.size) (o := 3) smx (by omega)).trans kpx; have f9_1_3 : w9.frozen? ⟨w8.heap.size, 3, none⟩ = false := (hd9.frozen (x := w8.heap.size) (o := 3) smx (by omega)).trans kfx; have c9_1_4 : w9.cell? ⟨w8.heap.size, 4, none⟩ = some (.string ⟨#[]⟩) := (hd9.cell (x := w8.heap.size) (o := 4) smx (by omega)).trans kpx; have f9_1_4 : w9.frozen? ⟨w8.heap.size, 4, none⟩ = false := (hd9.frozen (x := w8.heap.size) (o := 4) smx (by omega)).trans kfx; have c9_1_5 : w9.cell? ⟨w8.heap.size, 5, none⟩ = some (.string ⟨#[]⟩) := (hd9.cell (x := w8.heap.size) (o := 5) smx (by omega)).trans kpx; have f9_1_5 : w9.frozen? ⟨w8.heap.size, 5, none⟩ = false := (hd9.frozen (x := w8.heap.size) (o := 5) smx (by omega)).trans kfx; have s9_2 : w.heap.size < w9.heap.size := (by omega); have c9_2_0 : w9.cell? ⟨w.heap.size, 0, none⟩ = some (.slice none 0 0) := (hd9.cell (x := w.heap.size) (o := 0) smx (by omega)).trans kpx; have f9_2_0 : w9.frozen? ⟨w.heap.size, 0, none⟩ = false := (hd9.frozen (x := w.heap.size) (o := 0) smx (by omega)).trans kfx; have c9_2_1 : w9.cell? ⟨w.heap.size, 1, none⟩ = some (.slice none 0 0) := (hd9.cell (x := w.heap.size) (o := 1) smx (by omega)).trans kpx; have f9_2_1 : w9.frozen? ⟨w.heap.size, 1, none⟩ = false := (hd9.frozen (x := w.heap.size) (o := 1) smx (by omega)).trans kfx; have c9_2_2 : w9.cell? ⟨w.heap.size, 2, none⟩ = some (.int .i64 0) := (hd9.cell (x := w.heap.size) (o := 2) smx (by omega)).trans kpx; have f9_2_2 : w9.frozen? ⟨w.heap.size, 2, none⟩ = false := (hd9.frozen (x := w.heap.size) (o := 2) smx (by omega)).trans kfx))
                all_goals (
                  rw [IntWalk.i64_in (299 + u) (by omega)]
                  have hdq5 : Dr cb wr w9 := Dr.trans (Dr.drew (Dr.refl hcx.out)) hd9
                  have HOX5 := Lib.hid (HOX.out.dr hdq5 (by omega)); have hdw5 := hdx.trans hdq5; have HBS5 := Lib.hid (HBS.out.dr hdq5 (by omega)); have HBM5 := Lib.hid (HBM.out.dr hdq5 (by omega)); have HBZ5 := Lib.hid (HBZ.out.dr hdq5 (by omega))
                  by_cases hlt : (lx.length : Int) < 299 + u
                  · skip
                    go_wp2_with ((at_builtin; refine wpList_appL (B := w.heap.size + 1) (v := .slice lb lx.length ld) (n := lx.length) (xs := lx.flatMap DCommit.cells) (s := 6) rfl _ _ _ rfl 45 i0 _ _ Tryz.underlying25 hi hy0 hy1 hy2 rfl (by decide) rfl (HOX5.out.log.ext bxt) (some ⟨w9.heap.size, 0, none⟩) 1 1 (DCommit.cells ⟨5, 1, 1, 3, ⟨#[]⟩, ⟨#[]⟩⟩) rfl (Rd.lit _ _ _ _ 6 _ (by simp) rfl (by omega)) (DCommit.one _) (by omega) (by omega) smx ?_))
                    intro g2 q2 w10 hown hg hwl
                    have n0 := HOX.out.log.ne_lt (b := w.heap.size) (by omega)
                    have n1 : foot (.slice lb lx.length ld) ≠ some w1.heap.size := fun e => (HNX.out _ (Or.inr e)).1 rfl
                    have n2 : foot (.slice lb lx.length ld) ≠ some w8.heap.size := fun e => (HNX.out _ (Or.inr e)).2 rfl
                    have HWL : Hid (∀ k, foot (.slice g2 (lx.length + 1) q2) = some k → foot (.slice lb lx.length ld) = some k ∨ k = w9.heap.size + 1) := Lib.hid (fun k hk => by simpa using hwl k hk)
                    have s10_0 : w1.heap.size < w10.heap.size := (by have hss := hg.size; first | omega | (simp at hss; omega))
                    have c10_0_0 : w10.cell? ⟨w1.heap.size, 0, none⟩ = some (.slice ba zs.length bc) := grown_cell hg kpx n1
                    have f10_0_0 : w10.frozen? ⟨w1.heap.size, 0, none⟩ = false := grown_frz hg smx kfx n1
                    have c10_0_1 : w10.cell? ⟨w1.heap.size, 1, none⟩ = some (.slice lb lx.length ld) := grown_cell hg kpx n1
                    have f10_0_1 : w10.frozen? ⟨w1.heap.size, 1, none⟩ = false := grown_frz hg smx kfx n1
                    have c10_0_2 : w10.cell? ⟨w1.heap.size, 2, none⟩ = some (.int .i64 gv) := grown_cell hg kpx n1
                    have f10_0_2 : w10.frozen? ⟨w1.heap.size, 2, none⟩ = false := grown_frz hg smx kfx n1
                    have s10_1 : w8.heap.size < w10.heap.size := (by have hss := hg.size; first | omega | (simp at hss; omega))
                    have c10_1_0 : w10.cell? ⟨w8.heap.size, 0, none⟩ = some (.int .i64 5) := grown_cell hg kpx n2
                    have f10_1_0 : w10.frozen? ⟨w8.heap.size, 0, none⟩ = false := grown_frz hg smx kfx n2
                    have c10_1_1 : w10.cell? ⟨w8.heap.size, 1, none⟩ = some (.int .i64 1) := grown_cell hg kpx n2
                    have f10_1_1 : w10.frozen? ⟨w8.heap.size, 1, none⟩ = false := grown_frz hg smx kfx n2
                    have c10_1_2 : w10.cell? ⟨w8.heap.size, 2, none⟩ = some (.int .i64 1) := grown_cell hg kpx n2
                    have f10_1_2 : w10.frozen? ⟨w8.heap.size, 2, none⟩ = false := grown_frz hg smx kfx n2
                    have c10_1_3 : w10.cell? ⟨w8.heap.size, 3, none⟩ = some (.int .i64 3) := grown_cell hg kpx n2
                    have f10_1_3 : w10.frozen? ⟨w8.heap.size, 3, none⟩ = false := grown_frz hg smx kfx n2
                    have c10_1_4 : w10.cell? ⟨w8.heap.size, 4, none⟩ = some (.string ⟨#[]⟩) := grown_cell hg kpx n2
                    have f10_1_4 : w10.frozen? ⟨w8.heap.size, 4, none⟩ = false := grown_frz hg smx kfx n2
                    have c10_1_5 : w10.cell? ⟨w8.heap.size, 5, none⟩ = some (.string ⟨#[]⟩) := grown_cell hg kpx n2
                    have f10_1_5 : w10.frozen? ⟨w8.heap.size, 5, none⟩ = false := grown_frz hg smx kfx n2
                    have s10_2 : w.heap.size < w10.heap.size := (by have hss := hg.size; first | omega | (simp at hss; omega))
                    have c10_2_0 : w10.cell? ⟨w.heap.size, 0, none⟩ = some (.slice none 0 0) := grown_cell hg kpx n0
                    have f10_2_0 : w10.frozen? ⟨w.heap.size, 0, none⟩ = false := grown_frz hg smx kfx n0
                    have c10_2_1 : w10.cell? ⟨w.heap.size, 1, none⟩ = some (.slice none 0 0) := grown_cell hg kpx n0
                    have f10_2_1 : w10.frozen? ⟨w.heap.size, 1, none⟩ = false := grown_frz hg smx kfx n0
                    have c10_2_2 : w10.cell? ⟨w.heap.size, 2, none⟩ = some (.int .i64 0) := grown_cell hg kpx n0
                    have f10_2_2 : w10.frozen? ⟨w.heap.size, 2, none⟩ = false := grown_frz hg smx kfx n0
                    have hdg : Dr cb w w10 := Dr.grown (hdw5.ext (c := _) bxt) hg (fun x hx => Nat.le_trans (Nat.le_succ _) (HOX.out.log.lt x hx).1)
                    have HR5 := Lib.hid ((OwnRs.ext (w' := _) HOX5.out.rs bxt).off hg (fun k hk e => HAX.out k hk e))
                    have HN : Hid (GSt cb w w1.heap.size w8.heap.size ba bc zs gv (gk - 1) (w10.setCell ⟨w1.heap.size, 1, none⟩ (.slice g2 (lx.length + 1) q2))) := by
                      refine ⟨g2, q2, lx ++ [⟨5, 1, 1, 3, ⟨#[]⟩, ⟨#[]⟩⟩], by simp; omega, HSX.out.app (by show (⟨#[]⟩ : ByteArray).size ≤ 41; decide) (by show (⟨#[]⟩ : ByteArray).size ≤ 41; decide), ?_, ((HBM5.out.ext (w' := _) bxt).grown hg n2).set (p := ⟨w1.heap.size, 1, none⟩) (by show w1.heap.size ≠ w8.heap.size; omega) _, ((HBZ5.out.ext (w' := _) bxt).grown hg n0).set (p := ⟨w1.heap.size, 1, none⟩) (by show w1.heap.size ≠ w.heap.size; omega) _, ⟨HR5.out.set_ne (p := ⟨w1.heap.size, 1, none⟩) (fun k hk => (HNX.out k (Or.inl hk)).1) _, ?_⟩, fun k hk => ?_, fun k hk e => ?_, hdg.setCell (by show w.heap.size ≤ w1.heap.size; omega) _⟩
                      · simpa using ((HBS5.out.ext (w' := _) bxt).grown hg n1).put1 1 _ rfl
                      · have h := hown.set_off (p := ⟨w1.heap.size, 1, none⟩) (fun e => by have e2 : foot (.slice g2 (lx.length + 1) q2) = some w1.heap.size := e; rcases HWL.out _ e2 with h | h; exact n1 h; omega) (.slice g2 (lx.length + 1) q2)
                        simpa using h
                      · rcases hk with hk | hk
                        · exact HNX.out k (Or.inl hk)
                        · rcases HWL.out k (by simpa using hk) with h | h
                          · exact HNX.out k (Or.inr h)
                          · exact ⟨by omega, by omega⟩
                      · rcases HWL.out k (by simpa using e) with h | h
                        · exact HAX.out k hk h
                        · have := ((OwnRs.rows_lt HOX5.out.rs) k hk).2; omega
                    clear hown hwl hg
                    go_wp2_with fail
                    go_roundg (gk - 1)
                    case measure => omega
                    case rel => exact HN
                  · skip
                    go_wp2_with fail
                    refine bodyPost_ret (v := .agg #[.slice ba zs.length bc, .slice lb lx.length ld, .int .i64 gv]) (by simp [results, Tryz.results15, go_sem, *]) rfl ⟨ba, bc, zs, lb, ld, lx, gv, by omega, HSM.out, hlx, HSX.out, rfl, ?_, dtx⟩
                    refine OwnRt.le (B := w.heap.size + 1) ?_ (by omega); exact (by repeat' (first | with_reducible exact HOX5.out | with_reducible refine OwnRt.set_below ?_ smx _)))
          · have ev4 : (v == 4) = false := by simpa using hv4
            go_wp2_with fail
            refine bodyPost_ret (v := .agg #[.slice ba zs.length bc, .slice la l.length lc, .int .i64 gv]) (by simp [results, Tryz.results15, go_sem, *]) rfl ⟨ba, bc, zs, la, lc, l, gv, by omega, HSM.out, by omega, HSL.out, rfl, ?_, dtx⟩
            refine OwnRt.mk ?_ ?_
            · refine OwnRs.le (B := w.heap.size + 1) ?_ (by omega); exact (by repeat' (first | with_reducible exact HO2.out.box.rs | with_reducible refine OwnRs.set_below ?_ smx _ | with_reducible refine OwnRs.set_ne ?_ (by with_reducible exact HNEB.out) _ ))
            · refine Own.le (B := w.heap.size + 1) ?_ (by omega); exact (by repeat' (first | with_reducible exact HO2.out.log | with_reducible refine Own.set_below ?_ smx _ | with_reducible refine Own.set_off ?_ (by with_reducible exact nlog) _ | with_reducible refine Own.alloc1 ?_ _ | with_reducible refine Own.drew1 ?_ | with_reducible refine Own.drewN1 ?_ | with_reducible refine Own.ext ?_ (by assumption)))
end Go.Proofs.YtemgabekckhckaaGreat
