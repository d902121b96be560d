/-
  The draw of several commits on a store.
-/
import Derived.Test.YtjcnhkmhcfmoeaaGreatDraw13
namespace Go.Proofs.YtjcnhkmhcfmoeaaGreat
open Go.RowKit
set_option linter.unusedVariables false
set_option linter.unusedSimpArgs false

theorem OwnRt.rows_ltB {w : World} {B E EM EC : Nat} {ba la : Option Addr} {bc lc : Nat} {zs : List PBox} {l : List DCommit} (h : OwnRt w B E EM EC ba bc zs la lc l) : ∀ k, rowsS ba bc zs la lc l.length k → B ≤ k ∧ k < w.heap.size := fun k hk => by
  rcases hk with hk | hk
  · exact h.rs.rows_lt k hk
  · exact h.log.lt k hk
theorem OwnRt.offB {w w' : World} {B E EM EC : Nat} {ba la : Option Addr} {bc lc : Nat} {zs : List PBox} {l : List DCommit} {row : Option Nat} (h : OwnRt w B E EM EC ba bc zs la lc l) (hg : w.grownBy w' row) (hn : ∀ k, rowsS ba bc zs la lc l.length k → row ≠ some k) : OwnRt w' B E EM EC ba bc zs la lc l :=
  ⟨h.rs.off hg (fun k hk => hn k (Or.inl hk)), h.log.chg (S := fun k => row = some k) (Chg.grown hg (fun _ e => e)) (fun k hk => hn k (Or.inr hk))⟩
theorem OwnRt.set_neB {w : World} {B E EM EC : Nat} {ba la : Option Addr} {bc lc : Nat} {zs : List PBox} {l : List DCommit} (h : OwnRt w B E EM EC ba bc zs la lc l) {p : Addr} (hp : ∀ k, rowsS ba bc zs la lc l.length k → k ≠ p.block) (u : Value) : OwnRt (w.setCell p u) B E EM EC ba bc zs la lc l :=
  h.offB (grown_so (World.grownBy.refl w (some p.block)) rfl u) (fun k hk e => hp k hk (Option.some.inj e).symm)
theorem OwnRt.putB {B E EM EC b : Nat} {ba la : Option Addr} {bc lc : Nat} {zs : List PBox} {l : List DCommit} (hn : ∀ k, rowsS ba bc zs la lc l.length k → k ≠ b) : ∀ (us : List Value) (w : World) (p : Nat), OwnRt w B E EM EC ba bc zs la lc l → OwnRt (putW w b p us) B E EM EC ba bc zs la lc l
  | [], w, p, h => h
  | u :: us, w, p, h => OwnRt.putB hn us _ (p + 1) (h.set_neB (p := ⟨b, p, none⟩) hn u)
theorem Own.putC {B E s n b : Nat} {v : Value} {xs : List Value} (hn : foot v ≠ some b) : ∀ (us : List Value) (w : World) (p : Nat), Own w B E s v n xs → Own (putW w b p us) B E s v n xs
  | [], w, p, h => h
  | u :: us, w, p, h => Own.putC hn us _ (p + 1) (h.set_off (p := ⟨b, p, none⟩) hn u)
theorem specCommitted_rt {B : Nat} (b : List PBox) (ba : Option Addr) (bc : Nat) (l : List DCommit) (la : Option Addr) (lc : Nat) (gv : Int) (mk mv mu mf : Int) (mn mt : ByteArray) (w : World) (R : OwnRt w B 49 66 41 ba bc b la lc l) (hz : b.length ≤ 5) (hs : SmB 6 b) (hl : l.length ≤ 320) (g1 : mn.size ≤ 41) (g2n : mt.size ≤ 41) (rs : DStore) (rok : Bool) (H : Hid (CmtRel ⟨b.map PBox.box, l, gv⟩ ⟨mk, mv, mu, mf, mn, mt⟩ rs rok)) :
    Calls Tryz.prog 26 #[.agg #[.slice ba b.length bc, .slice la l.length lc, .int .i64 gv], .agg #[.int .i64 mk, .int .i64 mv, .int .i64 mu, .int .i64 mf, .string mn, .string mt]] w fun e w' => ∃ g q zs g2 q2, e = .returned (.tuple #[.agg #[.slice g zs.length q, .slice g2 rs.log.length q2, .int .i64 rs.given], .bool rok]) ∧ OwnSt w' w.heap.size 49 66 41 g q zs g2 q2 rs.log ∧ zs.map PBox.box = rs.boxes ∧ Ext w w' :=
  specCommitted_law b ba bc l la lc gv ⟨mk, mv, mu, mf, mn, mt⟩ w R.rs.rd R.rs.rdm (Rd.of_Own R.log) (by omega) (fun y hy => by have := (hs y hy).2.1; omega) (by omega) (fun y hy => by have := (hs y hy).1; omega) (fun y hy t ht => by have := (hs y hy).2.2 t ht; omega) (Nat.le_trans g1 (by omega)) (Nat.le_trans g2n (by omega)) rs rok H
theorem cmt_log {s rs : DStore} {m : DCommit} {rok : Bool} (h : CmtRel s m rs rok) (hl : s.log.length ≤ 320) : rs.log.length ≤ 320 := by
  obtain ⟨ht, rfl⟩ := h
  cases rok with
  | false => exact hl
  | true => have h3 := (yes_of ht).2.1; show (s.log ++ [m]).length ≤ 320; simp; omega
def DrCA (w : World) (e : Ending) (w' : World) : Prop := ∃ (ba : Option Addr) (bc : Nat) (zs : List PBox) (la : Option Addr) (lc : Nat) (lg : List DCommit) (gv : Int) (ka : Option Addr) (kc : Nat) (log : List DCommit), log.length ≤ 20 ∧ SmL log ∧ zs.length ≤ 5 ∧ SmB 6 zs ∧ lg.length ≤ 320 ∧ SmL lg ∧ e = .returned (.tuple #[.agg #[.slice ba zs.length bc, .slice la lg.length lc, .int .i64 gv], .slice ka log.length kc]) ∧ OwnRt w' w.heap.size 49 66 41 ba bc zs la lc lg ∧ Own w' w.heap.size 41 6 (.slice ka log.length kc) log.length (log.flatMap DCommit.cells) ∧ Ext w w'
/-- the loop that gathers commits; b5: the store's box, b7: the box of the store as it stands -/
def KSt (cb : Nat) (w : World) (B b0 b5 b7 : Nat) (ba : Option Addr) (bc : Nat) (zs : List PBox) (la : Option Addr) (lc : Nat) (lg : List DCommit) (gv : Int) (K : Nat) (lv : Value) (wr : World) : Prop :=
  ∃ (na : Option Addr) (nc : Nat) (ns : List PBox) (ma : Option Addr) (mc : Nat) (ml : List DCommit) (nv : Int) (kl kc : Nat) (log : List DCommit), ns.length ≤ 5 ∧ SmB 6 ns ∧ ml.length ≤ 320 ∧ SmL ml ∧ lv = .slice (some ⟨kl, 0, none⟩) log.length kc ∧ log.length ≤ K ∧ SmL log ∧
    Bx wr b7 [.slice na ns.length nc, .slice ma ml.length mc, .int .i64 nv] ∧ Bx wr b5 [.slice ba zs.length bc, .slice la lg.length lc, .int .i64 gv] ∧ Bx wr b0 [.slice none 0 0, .slice none 0 0, .int .i64 0] ∧ OwnRt wr B 49 66 41 na nc ns ma mc ml ∧ OwnRt wr B 49 66 41 ba bc zs la lc lg ∧ Own wr B 41 6 (.slice (some ⟨kl, 0, none⟩) log.length kc) log.length (log.flatMap DCommit.cells) ∧
    (∀ k, rowsS na nc ns ma mc ml.length k → k ≠ b7 ∧ foot (.slice (some ⟨kl, 0, none⟩) log.length kc) ≠ some k) ∧ (∀ k, rowsS ba bc zs la lc lg.length k → k ≠ b7 ∧ foot (.slice (some ⟨kl, 0, none⟩) log.length kc) ≠ some k) ∧ foot (.slice (some ⟨kl, 0, none⟩) log.length kc) ≠ some b5 ∧ foot (.slice (some ⟨kl, 0, none⟩) log.length kc) ≠ some b7 ∧ Dr cb w wr
def KLoop (cb : Nat) (w : World) (B b0 b5 b7 : Nat) (ba : Option Addr) (bc : Nat) (zs : List PBox) (la : Option Addr) (lc : Nat) (lg : List DCommit) (gv : Int) (n : Int) (lv i : Value) (wr : World) : Prop := ∃ k : Nat, (k : Int) ≤ n ∧ i = .int .i64 k ∧ Hid (KSt cb w B b0 b5 b7 ba bc zs la lc lg gv k lv wr)
set_option maxRecDepth 100000 in
set_option maxHeartbeats 16000000 in
theorem drawCommitAll_any (lb : List Int) (a : Option Addr) (c : Nat) (w : World) (R : Rd w a c 1 lb.length (lb.flatMap byteCells)) (hb : ∀ y ∈ lb, 0 ≤ y ∧ y ≤ 255) (hl : lb.length ≤ 1048576) :
    Calls Tryz.prog 13 #[.slice a lb.length c] w (DrCA w) := by
  obtain ⟨i0, hi, hy0, hy1, hy2⟩ := info_parts info_Commit
  have HR := Lib.hid R
  have HB := Lib.hid hb
  clear R hb
  go_enter Tryz.func13, Tryz.ntmps13
  go_wp2_with fail
  refine (l1New_any lb a c _ (HR.out.ext bxt) HB.out hl).mono ?_
  rintro e w1 ⟨cb, hcb, rfl, hcu, hb1⟩
  (try simp at hcb)
  have hcl := hcu.lt
  have HCU := Lib.hid hcu
  clear hcu
  have hz1 := hb1.size; (try simp at hz1)
  have s1_0 : w.heap.size < w1.heap.size := (by omega)
  have c1_0_0 : w1.cell? ⟨w.heap.size, 0, none⟩ = some (.slice none 0 0) := (hb1.cell (p := ⟨w.heap.size, 0, none⟩) smx).trans kpx
  have f1_0_0 : w1.frozen? ⟨w.heap.size, 0, none⟩ = false := (hb1.frozen (p := ⟨w.heap.size, 0, none⟩) smx).trans kfx
  have c1_0_1 : w1.cell? ⟨w.heap.size, 1, none⟩ = some (.slice none 0 0) := (hb1.cell (p := ⟨w.heap.size, 1, none⟩) smx).trans kpx
  have f1_0_1 : w1.frozen? ⟨w.heap.size, 1, none⟩ = false := (hb1.frozen (p := ⟨w.heap.size, 1, none⟩) smx).trans kfx
  have c1_0_2 : w1.cell? ⟨w.heap.size, 2, none⟩ = some (.int .i64 0) := (hb1.cell (p := ⟨w.heap.size, 2, none⟩) smx).trans kpx
  have f1_0_2 : w1.frozen? ⟨w.heap.size, 2, none⟩ = false := (hb1.frozen (p := ⟨w.heap.size, 2, none⟩) smx).trans kfx
  go_wp2_with fail
  refine (l12Store_any cb _ (HCU.out.ext bxt)).mono ?_
  rintro e w2 ⟨ba, bc, zs, la, lc, lg, gv, hzl, hsm, hll, hsl, rfl, ho, hd2⟩
  have hz2 := hd2.size; (try simp at hz2)
  have s2_0 : w.heap.size < w2.heap.size := (by omega)
  have c2_0_0 : w2.cell? ⟨w.heap.size, 0, none⟩ = some (.slice none 0 0) := (hd2.cell (x := w.heap.size) (o := 0) smx (by omega)).trans kpx
  have f2_0_0 : w2.frozen? ⟨w.heap.size, 0, none⟩ = false := (hd2.frozen (x := w.heap.size) (o := 0) smx (by omega)).trans kfx
  have c2_0_1 : w2.cell? ⟨w.heap.size, 1, none⟩ = some (.slice none 0 0) := (hd2.cell (x := w.heap.size) (o := 1) smx (by omega)).trans kpx
  have f2_0_1 : w2.frozen? ⟨w.heap.size, 1, none⟩ = false := (hd2.frozen (x := w.heap.size) (o := 1) smx (by omega)).trans kfx
  have c2_0_2 : w2.cell? ⟨w.heap.size, 2, none⟩ = some (.int .i64 0) := (hd2.cell (x := w.heap.size) (o := 2) smx (by omega)).trans kpx
  have f2_0_2 : w2.frozen? ⟨w.heap.size, 2, none⟩ = false := (hd2.frozen (x := w.heap.size) (o := 2) smx (by omega)).trans kfx
  have HSM := Lib.hid hsm; have HSL := Lib.hid hsl; have HO := Lib.hid ho; have HRW := Lib.hid ho.rows_ltB; clear hsm hsl ho
  have hcr2 := Lib.hid hd2.cur; have hE1 := Lib.hid (show Ext w w2 from btx); have hdw2 : Hid (Dr cb w1 w2) := hd2
  have HBZ2 : Hid (Bx w2 w.heap.size [.slice none 0 0, .slice none 0 0, .int .i64 0]) := ((Bx.mk rfl _ rfl).ext hb1).dr hd2 (by omega)
  go_wp2_with fail
  refine (l1Below_any cb 4 _ (hcr2.out.ext bxt) (by omega)).mono ?_
  rintro e w3 ⟨n, ⟨n0, n1, -⟩, rfl, hd3⟩
  have n1 := n1 (by omega)
  have hs3 := hd3.size; (try simp at hs3)
  have hs2 := hdw2.out.size
  have HS0 : Hid (KSt cb w1 w1.heap.size w.heap.size w2.heap.size (w2.heap.size + 1 + 1) ba bc zs la lc lg gv 0 (.slice (some ⟨w2.heap.size + 1, 0, none⟩) 0 0) w3) := ⟨ba, bc, zs, la, lc, lg, gv, w2.heap.size + 1, 0, [], by omega, HSM.out, by omega, HSL.out, rfl, Nat.le_refl _, (fun y hy => by cases hy), ((Bx.mk (by simp) _ rfl : Bx (((w2.alloc (.cells #[.slice ba zs.length bc, .slice la lg.length lc, .int .i64 gv] 27)).alloc (.cells #[] 41)).alloc (.cells #[.slice ba zs.length bc, .slice la lg.length lc, .int .i64 gv] 27)) (w2.heap.size + 1 + 1) _).dr hd3 (by omega)), (((((Bx.mk rfl _ rfl : Bx (w2.alloc _) w2.heap.size [.slice ba zs.length bc, .slice la lg.length lc, .int .i64 gv]).ext (w' := _) bxt).ext (w' := (((w2.alloc (.cells #[.slice ba zs.length bc, .slice la lg.length lc, .int .i64 gv] 27)).alloc (.cells #[] 41)).alloc (.cells #[.slice ba zs.length bc, .slice la lg.length lc, .int .i64 gv] 27))) bxt).dr hd3 (by omega))), ((HBZ2.out.ext (w' := (((w2.alloc (.cells #[.slice ba zs.length bc, .slice la lg.length lc, .int .i64 gv] 27)).alloc (.cells #[] 41)).alloc (.cells #[.slice ba zs.length bc, .slice la lg.length lc, .int .i64 gv] 27))) bxt).dr hd3 (by omega)), ((HO.out.ext (w' := (((w2.alloc (.cells #[.slice ba zs.length bc, .slice la lg.length lc, .int .i64 gv] 27)).alloc (.cells #[] 41)).alloc (.cells #[.slice ba zs.length bc, .slice la lg.length lc, .int .i64 gv] 27))) bxt).dr hd3 (by omega)), ((HO.out.ext (w' := (((w2.alloc (.cells #[.slice ba zs.length bc, .slice la lg.length lc, .int .i64 gv] 27)).alloc (.cells #[] 41)).alloc (.cells #[.slice ba zs.length bc, .slice la lg.length lc, .int .i64 gv] 27))) bxt).dr hd3 (by omega)), Own.none0 _, (fun k hk => ⟨by (have h := (HRW.out k hk).2; omega), fun e => by simp [foot] at e⟩), (fun k hk => ⟨by (have h := (HRW.out k hk).2; omega), fun e => by simp [foot] at e⟩), (fun e => by simp [foot] at e), (fun e => by simp [foot] at e), ((((hdw2.out.alloc _).alloc _).alloc _).trans hd3)⟩
  have HSMb := HSM; have HE01 := Lib.hid (show Ext w w1 from btx); clear HO hd3 HBZ2 hb1 hd2
  go_wp2_with fail
  go_loopw [6, 9] (KLoop cb w1 w1.heap.size w.heap.size w2.heap.size (w2.heap.size + 1 + 1) ba bc zs la lc lg gv n) (fun _ i _ => (n - intOf i).toNat)
  case atStart => exact ⟨0, n0, rfl, HS0.out⟩
  case round =>
    obtain ⟨k, hk, rfl, HS⟩ := hrel
    clear HS0
    obtain ⟨na, nc, ns, ma, mc, ml, nv, kl, kc, log, hnl, hns, hml, hms, rfl, hkl, hks, hb7, hb5, hb0, hon, hos, hol, hrn, hrs, hf5, hf7, hd⟩ := HS.out
    obtain ⟨p0, q0⟩ := hb7.at 0 _ rfl
    obtain ⟨p1, q1⟩ := hb7.at 1 _ rfl
    obtain ⟨p2, q2⟩ := hb7.at 2 _ rfl
    obtain ⟨r0, s0⟩ := hb5.at 0 _ rfl
    obtain ⟨r1, s1⟩ := hb5.at 1 _ rfl
    obtain ⟨r2, s2⟩ := hb5.at 2 _ rfl
    obtain ⟨t0, u0⟩ := hb0.at 0 _ rfl
    obtain ⟨t1, u1⟩ := hb0.at 1 _ rfl
    obtain ⟨t2, u2⟩ := hb0.at 2 _ rfl
    have sb7 : w2.heap.size + 1 + 1 < wr.heap.size := hb7.lt; have sb5 : w2.heap.size < wr.heap.size := hb5.lt; have sb0 : w.heap.size < wr.heap.size := hb0.lt
    have HB7 := Lib.hid hb7; have HB5 := Lib.hid hb5; have HB0 := Lib.hid hb0; have HON := Lib.hid hon; have HOS := Lib.hid hos; have HOL := Lib.hid hol; have HRN := Lib.hid hrn; have HRS := Lib.hid hrs; have HF5 := Lib.hid hf5; have HF7 := Lib.hid hf7; have HNS := Lib.hid hns; have HMS := Lib.hid hms; have HKS := Lib.hid hks; have hcr := Lib.hid hd.cur; have HFL := Lib.hid (fun j (hj : foot (.slice (some ⟨kl, 0, none⟩) log.length kc) = some j) => hol.lt j hj)
    clear hb7 hb5 hb0 hon hos hol hrn hrs hf5 hf7 hns hms hks HS
    have hsz := hd.size
    by_cases hlt : (k : Int) < n
    · skip
      go_wp2_with fail
      refine (l10Commit_any cb ns na nc w1.heap.size _ (hcr.out.ext bxt) (HON.out.rs.ext bxt) (by omega) (by omega) (fun y hy => by have := (HNS.out y hy).2.1; omega)).mono ?_
      rintro e w4 ⟨m, hmn, hmt, rfl, hd4⟩
      have hz4 := hd4.size; (try simp at hz4)
      have s4_0 : w2.heap.size + 1 + 1 < w4.heap.size := (by omega)
      have c4_0_0 : w4.cell? ⟨w2.heap.size + 1 + 1, 0, none⟩ = some (.slice na ns.length nc) := (hd4.cell (x := w2.heap.size + 1 + 1) (o := 0) smx (by omega)).trans kpx
      have f4_0_0 : w4.frozen? ⟨w2.heap.size + 1 + 1, 0, none⟩ = false := (hd4.frozen (x := w2.heap.size + 1 + 1) (o := 0) smx (by omega)).trans kfx
      have c4_0_1 : w4.cell? ⟨w2.heap.size + 1 + 1, 1, none⟩ = some (.slice ma ml.length mc) := (hd4.cell (x := w2.heap.size + 1 + 1) (o := 1) smx (by omega)).trans kpx
      have f4_0_1 : w4.frozen? ⟨w2.heap.size + 1 + 1, 1, none⟩ = false := (hd4.frozen (x := w2.heap.size + 1 + 1) (o := 1) smx (by omega)).trans kfx
      have c4_0_2 : w4.cell? ⟨w2.heap.size + 1 + 1, 2, none⟩ = some (.int .i64 nv) := (hd4.cell (x := w2.heap.size + 1 + 1) (o := 2) smx (by omega)).trans kpx
      have f4_0_2 : w4.frozen? ⟨w2.heap.size + 1 + 1, 2, none⟩ = false := (hd4.frozen (x := w2.heap.size + 1 + 1) (o := 2) smx (by omega)).trans kfx
      have hs4 := hd4.size; (try simp at hs4)
      have hda : Dr cb wr w4 := dtx
      have HB74 := Lib.hid (HB7.out.dr hda (by omega)); have HB54 := Lib.hid (HB5.out.dr hda (by omega)); have HB04 := Lib.hid (HB0.out.dr hda (by omega)); have HON4 := Lib.hid (HON.out.dr hda (by omega)); have HOS4 := Lib.hid (HOS.out.dr hda (by omega)); have HOL4 := Lib.hid (HOL.out.dr hda (by omega)); have hdw := hd.trans hda; have HD4 := Lib.hid hdw; have hs14 := hdw.size
      clear HB7 HB5 HB0 HON HOS HOL hda hd4 hdw
      by_cases hk1 : m.kind = 1
      · have ek : (m.kind == 1) = true := by simpa using hk1
        have HK := Lib.hid hk1; clear hk1
        go_upto_region 12 with fail
        refine wp_world (fun wa hwa => ?_)
        have HBMa : Hid (Bx wa w4.heap.size [.int .i64 m.kind, .int .i64 (wrap64 (nv + 1)), .int .i64 m.uid, .int .i64 m.flags, .string m.name, .string m.text]) := by (rw [hwa]; exact Bx.mk rfl _ rfl)
        have HB7a : Hid (Bx wa (w2.heap.size + 1 + 1) [.slice na ns.length nc, .slice ma ml.length mc, .int .i64 nv]) := by (rw [hwa]; exact HB74.out.ext (w' := _) ((Below.refl _ _).alloc (Nat.le_refl _) _))
        have HB5a : Hid (Bx wa w2.heap.size [.slice ba zs.length bc, .slice la lg.length lc, .int .i64 gv]) := by (rw [hwa]; exact HB54.out.ext (w' := _) ((Below.refl _ _).alloc (Nat.le_refl _) _))
        have HB0a : Hid (Bx wa w.heap.size [.slice none 0 0, .slice none 0 0, .int .i64 0]) := by (rw [hwa]; exact HB04.out.ext (w' := _) ((Below.refl _ _).alloc (Nat.le_refl _) _))
        have HONa : Hid (OwnRt wa w1.heap.size 49 66 41 na nc ns ma mc ml) := by (rw [hwa]; exact HON4.out.ext (w' := _) ((Below.refl _ _).alloc (Nat.le_refl _) _))
        have HOSa : Hid (OwnRt wa w1.heap.size 49 66 41 ba bc zs la lc lg) := by (rw [hwa]; exact HOS4.out.ext (w' := _) ((Below.refl _ _).alloc (Nat.le_refl _) _))
        have HOLa : Hid (Own wa w1.heap.size 41 6 (.slice (some ⟨kl, 0, none⟩) log.length kc) log.length (log.flatMap DCommit.cells)) := by (rw [hwa]; exact HOL4.out.ext (w' := _) ((Below.refl _ _).alloc (Nat.le_refl _) _))
        have HDa : Hid (Dr cb w1 wa) := by (rw [hwa]; exact HD4.out.alloc _)
        have hsa : wa.heap.size = w4.heap.size + 1 := by rw [hwa]; simp
        clear hwa HB74 HB54 HB04 HON4 HOS4 HOL4 HD4
        obtain ⟨pa0, qa0⟩ := HB7a.out.at 0 _ rfl
        obtain ⟨pa1, qa1⟩ := HB7a.out.at 1 _ rfl
        obtain ⟨pa2, qa2⟩ := HB7a.out.at 2 _ rfl
        obtain ⟨ma0, xa0⟩ := HBMa.out.at 0 _ rfl
        obtain ⟨ma1, xa1⟩ := HBMa.out.at 1 _ rfl
        obtain ⟨ma2, xa2⟩ := HBMa.out.at 2 _ rfl
        obtain ⟨ma3, xa3⟩ := HBMa.out.at 3 _ rfl
        obtain ⟨ma4, xa4⟩ := HBMa.out.at 4 _ rfl
        obtain ⟨ma5, xa5⟩ := HBMa.out.at 5 _ rfl
        obtain ⟨rs, rok, hrel⟩ := cmtRel_ex ⟨ns.map PBox.box, ml, nv⟩ (⟨m.kind, wrap64 (nv + 1), m.uid, m.flags, m.name, m.text⟩ : DCommit)
        obtain ⟨t1, t2, t3, t4⟩ := cmt_small hrel (N := 5) (by omega) (by simpa using hnl) (smD_map.2 HNS.out) HMS.out hmn hmt
        have t5 := cmt_log hrel hml
        have HREL := Lib.hid hrel; have HT2 := Lib.hid t2; have HT4 := Lib.hid t4; clear hrel t2 t3 t4
        go_wp2_with fail
        refine (specCommitted_rt ns na nc ml ma mc nv m.kind (wrap64 (nv + 1)) m.uid m.flags m.name m.text _ HONa.out hnl HNS.out hml hmn hmt rs rok HREL).mono ?_
        rintro e w5 ⟨g9, q9, z9, g8, q8, rfl, hown, hzb, hb5⟩
        have hs5 := hb5.size
        have HOX := Lib.hid (hown.rt.le (B' := w1.heap.size) (by omega)); have HRX := Lib.hid hown.rt.rows_ltB; have hzl9 : z9.length ≤ 5 := (by rw [map_len hzb]; exact t1); have HSX := Lib.hid (show SmB 6 z9 from smD_map.1 (by rw [hzb]; exact HT2.out)); clear hown hzb
        have HB75 := Lib.hid (HB7a.out.ext hb5); have HB55 := Lib.hid (HB5a.out.ext hb5); have HB05 := Lib.hid (HB0a.out.ext hb5); have HBM5 := Lib.hid (HBMa.out.ext hb5); have HON5 := Lib.hid (HONa.out.ext hb5); have HOS5 := Lib.hid (HOSa.out.ext hb5); have HOL5 := Lib.hid (HOLa.out.ext hb5); have HD5 := Lib.hid (HDa.out.ext hb5)
        clear pa0 qa0 pa1 qa1 pa2 qa2 ma0 xa0 ma1 xa1 ma2 xa2 ma3 xa3 ma4 xa4 ma5 xa5 HB7a HB5a HB0a HBMa HONa HOSa HOLa HDa HREL
        go_upto_region 13 with fail
        refine wp_world (fun w6 hw6 => ?_)
        have HBX : Hid (Bx w6 w5.heap.size [.slice g9 z9.length q9, .slice g8 rs.log.length q8, .int .i64 rs.given]) := by (rw [hw6]; exact Bx.mk rfl _ rfl)
        have HB76 : Hid (Bx w6 (w2.heap.size + 1 + 1) [.slice na ns.length nc, .slice ma ml.length mc, .int .i64 nv]) := by (rw [hw6]; exact HB75.out.ext (w' := _) ((Below.refl _ _).alloc (Nat.le_refl _) _))
        have HB56 : Hid (Bx w6 w2.heap.size [.slice ba zs.length bc, .slice la lg.length lc, .int .i64 gv]) := by (rw [hw6]; exact HB55.out.ext (w' := _) ((Below.refl _ _).alloc (Nat.le_refl _) _))
        have HB06 : Hid (Bx w6 w.heap.size [.slice none 0 0, .slice none 0 0, .int .i64 0]) := by (rw [hw6]; exact HB05.out.ext (w' := _) ((Below.refl _ _).alloc (Nat.le_refl _) _))
        have HBM6 : Hid (Bx w6 w4.heap.size [.int .i64 m.kind, .int .i64 (wrap64 (nv + 1)), .int .i64 m.uid, .int .i64 m.flags, .string m.name, .string m.text]) := by (rw [hw6]; exact HBM5.out.ext (w' := _) ((Below.refl _ _).alloc (Nat.le_refl _) _))
        have HON6 : Hid (OwnRt w6 w1.heap.size 49 66 41 na nc ns ma mc ml) := by (rw [hw6]; exact HON5.out.ext (w' := _) ((Below.refl _ _).alloc (Nat.le_refl _) _))
        have HOS6 : Hid (OwnRt w6 w1.heap.size 49 66 41 ba bc zs la lc lg) := by (rw [hw6]; exact HOS5.out.ext (w' := _) ((Below.refl _ _).alloc (Nat.le_refl _) _))
        have HOX6 : Hid (OwnRt w6 w1.heap.size 49 66 41 g9 q9 z9 g8 q8 rs.log) := by (rw [hw6]; exact HOX.out.ext (w' := _) ((Below.refl _ _).alloc (Nat.le_refl _) _))
        have HOL6 : Hid (Own w6 w1.heap.size 41 6 (.slice (some ⟨kl, 0, none⟩) log.length kc) log.length (log.flatMap DCommit.cells)) := by (rw [hw6]; exact HOL5.out.ext (w' := _) ((Below.refl _ _).alloc (Nat.le_refl _) _))
        have HD6 : Hid (Dr cb w1 w6) := by (rw [hw6]; exact HD5.out.alloc _)
        have hs6 : w5.heap.size + 1 ≤ w6.heap.size ∧ w6.heap.size ≤ w5.heap.size + 1 := by rw [hw6]; simp
        clear hw6 HB75 HB55 HB05 HBM5 HON5 HOS5 HOX HOL5 HD5 hb5
        have hcr6 := Lib.hid HD6.out.cur
        cases rok
        · skip
          go_wp2_with fail
          refine (l1Once_any cb 6 _ (hcr6.out.ext bxt) (by omega)).mono ?_
          rintro e w7 ⟨t, rfl, hd7⟩
          have hz7 := hd7.size; (try simp at hz7)
          have hs7 := hd7.size; (try simp at hs7)
          cases t
          · skip
            have HN : Hid (KSt cb w1 w1.heap.size w.heap.size w2.heap.size (w2.heap.size + 1 + 1) ba bc zs la lc lg gv (k + 1) (.slice (some ⟨kl, 0, none⟩) log.length kc) w7) := ⟨na, nc, ns, ma, mc, ml, nv, kl, kc, log, hnl, HNS.out, hml, HMS.out, rfl, by omega, HKS.out, HB76.out.dr hd7 (by omega), HB56.out.dr hd7 (by omega), HB06.out.dr hd7 (by omega), HON6.out.dr hd7 (by omega), HOS6.out.dr hd7 (by omega), HOL6.out.dr hd7 (by omega), HRN.out, HRS.out, HF5.out, HF7.out, HD6.out.trans hd7⟩
            go_wp2_with fail
            go_roundw
            case rel => exact ⟨k + 1, by omega, by go_num, HN.out⟩
            case measure => simp [intOf]; omega
          · skip
            have HBMw : Hid (Bx w7 w4.heap.size [.int .i64 m.kind, .int .i64 (wrap64 (nv + 1)), .int .i64 m.uid, .int .i64 m.flags, .string m.name, .string m.text]) := (HBM6.out.dr hd7 (by omega))
            obtain ⟨ma0, xa0⟩ := HBMw.out.at 0 _ rfl
            obtain ⟨ma1, xa1⟩ := HBMw.out.at 1 _ rfl
            obtain ⟨ma2, xa2⟩ := HBMw.out.at 2 _ rfl
            obtain ⟨ma3, xa3⟩ := HBMw.out.at 3 _ rfl
            obtain ⟨ma4, xa4⟩ := HBMw.out.at 4 _ rfl
            obtain ⟨ma5, xa5⟩ := HBMw.out.at 5 _ rfl
            have HDw : Hid (Dr cb w1 w7) := HD6.out.trans hd7
            have hsw := hd7.size
            go_wp2_with ((at_builtin; refine Hid.out ?_))
            refine Lib.hid ?_
            refine wpList_appL (B := w1.heap.size) (v := .slice (some ⟨kl, 0, none⟩) log.length kc) rfl _ _ 25 rfl 41 i0 _ _ Tryz.underlying25 hi hy0 hy1 hy2 rfl (by decide) rfl (Own.ext ((HOL6.out.dr hd7 (by omega))) bxt) (some ⟨w7.heap.size, 0, none⟩) 1 1 (DCommit.cells (⟨m.kind, wrap64 (nv + 1), m.uid, m.flags, m.name, m.text⟩ : DCommit)) rfl (Rd.lit _ _ _ _ 6 _ (by simp) rfl (by omega)) (DCommit.one _) (by omega) (by omega) smx ?_
            intro gg qq w9 hown hg hwl
            have hgs := hg.size; (try simp at hgs)
            have hgc := hown.cap
            obtain ⟨gx, rfl, -⟩ := hown.row (by omega)
            have HFN := Lib.hid (show ∀ j, foot (.slice (some ⟨gx, 0, none⟩) (log ++ [(⟨m.kind, wrap64 (nv + 1), m.uid, m.flags, m.name, m.text⟩ : DCommit)]).length qq) = some j → foot (.slice (some ⟨kl, 0, none⟩) log.length kc) = some j ∨ w7.heap.size < j + 1 ∧ w7.heap.size ≤ j from fun j hj => by rcases hwl j ((foot_len (some ⟨gx, 0, none⟩) (log.length + 1) _ qq).trans hj) with h | h; exact Or.inl h; (right; (try simp at h); omega))
            have HB79 := Lib.hid (Bx.grown ((HB76.out.dr hd7 (by omega)) |>.ext (w' := _) ((Below.refl _ _).alloc (Nat.le_refl _) _)) hg HF7.out); have HB59 := Lib.hid (Bx.grown ((HB56.out.dr hd7 (by omega)) |>.ext (w' := _) ((Below.refl _ _).alloc (Nat.le_refl _) _)) hg HF5.out); have HB09 := Lib.hid (Bx.grown ((HB06.out.dr hd7 (by omega)) |>.ext (w' := _) ((Below.refl _ _).alloc (Nat.le_refl _) _)) hg (fun e => by have h := (HFL.out _ e).1; omega)); have HBX9 := Lib.hid (Bx.grown ((HBX.out.dr hd7 (by omega)) |>.ext (w' := _) ((Below.refl _ _).alloc (Nat.le_refl _) _)) hg (fun e => by have h := (HFL.out _ e).2; omega))
            have HOS9 := Lib.hid (OwnRt.offB ((HOS6.out.dr hd7 (by omega)) |>.ext (w' := _) ((Below.refl _ _).alloc (Nat.le_refl _) _)) hg (fun j hj => (HRS.out j hj).2)); have HOX9 := Lib.hid (OwnRt.offB ((HOX6.out.dr hd7 (by omega)) |>.ext (w' := _) ((Below.refl _ _).alloc (Nat.le_refl _) _)) hg (fun j hj e => by have h1 := (HFL.out _ e).2; have h2 := (HRX.out j hj).1; omega))
            have HD9 : Hid (Dr cb w1 w9) := (HDw.out.alloc _).grown hg (fun x hx => (HFL.out x hx).1)
            obtain ⟨xx0, xf0⟩ := HBX9.out.at 0 _ rfl
            obtain ⟨xx1, xf1⟩ := HBX9.out.at 1 _ rfl
            obtain ⟨xx2, xf2⟩ := HBX9.out.at 2 _ rfl
            obtain ⟨yy0, yf0⟩ := HB79.out.at 0 _ rfl
            obtain ⟨yy1, yf1⟩ := HB79.out.at 1 _ rfl
            obtain ⟨yy2, yf2⟩ := HB79.out.at 2 _ rfl
            have sx9 : w5.heap.size < w9.heap.size := HBX9.out.lt; have s79 : w2.heap.size + 1 + 1 < w9.heap.size := HB79.out.lt
            have HRX7 := Lib.hid (show ∀ j, rowsS g9 q9 z9 g8 q8 rs.log.length j → j ≠ (w2.heap.size + 1 + 1) from fun j hj e => by have h2 := (HRX.out j hj).1; omega)
            have HN : Hid (KSt cb w1 w1.heap.size w.heap.size w2.heap.size (w2.heap.size + 1 + 1) ba bc zs la lc lg gv (k + 1) (.slice (some ⟨gx, 0, none⟩) (log.length + 1) qq) (putW w9 (w2.heap.size + 1 + 1) 0 [.slice g9 z9.length q9, .slice g8 rs.log.length q8, .int .i64 rs.given])) := ⟨g9, q9, z9, g8, q8, rs.log, rs.given, gx, qq, log ++ [(⟨m.kind, wrap64 (nv + 1), m.uid, m.flags, m.name, m.text⟩ : DCommit)], hzl9, HSX.out, t5, HT4.out, by simp, by simp; omega, HKS.out.app hmn hmt, HB79.out.put _ rfl, HB59.out.putn _ _ (by omega), HB09.out.putn _ _ (by omega), OwnRt.putB HRX7.out _ _ _ HOX9.out, OwnRt.putB (fun j hj => (HRS.out j hj).1) _ _ _ HOS9.out, Own.putC (fun e => by rcases HFN.out _ e with h | h; (have h9 := HFL.out _ h; exact absurd h (HF7.out)); omega) _ _ _ (by simpa using hown), (fun j hj => ⟨HRX7.out j hj, fun e => by rcases HFN.out _ e with h | h; (have h1 := (HFL.out _ h).2; have h2 := (HRX.out j hj).1; omega); (have h2 := (HRX.out j hj).2; omega)⟩), (fun j hj => ⟨(HRS.out j hj).1, fun e => by rcases HFN.out _ e with h | h; exact (HRS.out j hj).2 h; (have h2 := (HOS6.out.rows_ltB j hj).2; omega)⟩), (fun e => by rcases HFN.out _ e with h | h; (have h9 := HFL.out _ h; exact absurd h (HF5.out)); omega), (fun e => by rcases HFN.out _ e with h | h; (have h9 := HFL.out _ h; exact absurd h (HF7.out)); omega), Dr.putW (by omega) _ _ _ HD9.out⟩
            clear hown hg hwl
            go_wp2_with fail
            go_roundw
            case rel => exact ⟨k + 1, by omega, by go_num, HN.out⟩
            case measure => simp [intOf]; omega
        · skip
          have HBMw : Hid (Bx w6 w4.heap.size [.int .i64 m.kind, .int .i64 (wrap64 (nv + 1)), .int .i64 m.uid, .int .i64 m.flags, .string m.name, .string m.text]) := HBM6.out
          obtain ⟨ma0, xa0⟩ := HBMw.out.at 0 _ rfl
          obtain ⟨ma1, xa1⟩ := HBMw.out.at 1 _ rfl
          obtain ⟨ma2, xa2⟩ := HBMw.out.at 2 _ rfl
          obtain ⟨ma3, xa3⟩ := HBMw.out.at 3 _ rfl
          obtain ⟨ma4, xa4⟩ := HBMw.out.at 4 _ rfl
          obtain ⟨ma5, xa5⟩ := HBMw.out.at 5 _ rfl
          have HDw : Hid (Dr cb w1 w6) := HD6
          have hsw := Nat.le_refl w6.heap.size
          go_wp2_with ((at_builtin; refine Hid.out ?_))
          refine Lib.hid ?_
          refine wpList_appL (B := w1.heap.size) (v := .slice (some ⟨kl, 0, none⟩) log.length kc) rfl _ _ 25 rfl 41 i0 _ _ Tryz.underlying25 hi hy0 hy1 hy2 rfl (by decide) rfl (Own.ext (HOL6.out) bxt) (some ⟨w6.heap.size, 0, none⟩) 1 1 (DCommit.cells (⟨m.kind, wrap64 (nv + 1), m.uid, m.flags, m.name, m.text⟩ : DCommit)) rfl (Rd.lit _ _ _ _ 6 _ (by simp) rfl (by omega)) (DCommit.one _) (by omega) (by omega) smx ?_
          intro gg qq w9 hown hg hwl
          have hgs := hg.size; (try simp at hgs)
          have hgc := hown.cap
          obtain ⟨gx, rfl, -⟩ := hown.row (by omega)
          have HFN := Lib.hid (show ∀ j, foot (.slice (some ⟨gx, 0, none⟩) (log ++ [(⟨m.kind, wrap64 (nv + 1), m.uid, m.flags, m.name, m.text⟩ : DCommit)]).length qq) = some j → foot (.slice (some ⟨kl, 0, none⟩) log.length kc) = some j ∨ w6.heap.size < j + 1 ∧ w6.heap.size ≤ j from fun j hj => by rcases hwl j ((foot_len (some ⟨gx, 0, none⟩) (log.length + 1) _ qq).trans hj) with h | h; exact Or.inl h; (right; (try simp at h); omega))
          have HB79 := Lib.hid (Bx.grown (HB76.out |>.ext (w' := _) ((Below.refl _ _).alloc (Nat.le_refl _) _)) hg HF7.out); have HB59 := Lib.hid (Bx.grown (HB56.out |>.ext (w' := _) ((Below.refl _ _).alloc (Nat.le_refl _) _)) hg HF5.out); have HB09 := Lib.hid (Bx.grown (HB06.out |>.ext (w' := _) ((Below.refl _ _).alloc (Nat.le_refl _) _)) hg (fun e => by have h := (HFL.out _ e).1; omega)); have HBX9 := Lib.hid (Bx.grown (HBX.out |>.ext (w' := _) ((Below.refl _ _).alloc (Nat.le_refl _) _)) hg (fun e => by have h := (HFL.out _ e).2; omega))
          have HOS9 := Lib.hid (OwnRt.offB (HOS6.out |>.ext (w' := _) ((Below.refl _ _).alloc (Nat.le_refl _) _)) hg (fun j hj => (HRS.out j hj).2)); have HOX9 := Lib.hid (OwnRt.offB (HOX6.out |>.ext (w' := _) ((Below.refl _ _).alloc (Nat.le_refl _) _)) hg (fun j hj e => by have h1 := (HFL.out _ e).2; have h2 := (HRX.out j hj).1; omega))
          have HD9 : Hid (Dr cb w1 w9) := (HDw.out.alloc _).grown hg (fun x hx => (HFL.out x hx).1)
          obtain ⟨xx0, xf0⟩ := HBX9.out.at 0 _ rfl
          obtain ⟨xx1, xf1⟩ := HBX9.out.at 1 _ rfl
          obtain ⟨xx2, xf2⟩ := HBX9.out.at 2 _ rfl
          obtain ⟨yy0, yf0⟩ := HB79.out.at 0 _ rfl
          obtain ⟨yy1, yf1⟩ := HB79.out.at 1 _ rfl
          obtain ⟨yy2, yf2⟩ := HB79.out.at 2 _ rfl
          have sx9 : w5.heap.size < w9.heap.size := HBX9.out.lt; have s79 : w2.heap.size + 1 + 1 < w9.heap.size := HB79.out.lt
          have HRX7 := Lib.hid (show ∀ j, rowsS g9 q9 z9 g8 q8 rs.log.length j → j ≠ (w2.heap.size + 1 + 1) from fun j hj e => by have h2 := (HRX.out j hj).1; omega)
          have HN : Hid (KSt cb w1 w1.heap.size w.heap.size w2.heap.size (w2.heap.size + 1 + 1) ba bc zs la lc lg gv (k + 1) (.slice (some ⟨gx, 0, none⟩) (log.length + 1) qq) (putW w9 (w2.heap.size + 1 + 1) 0 [.slice g9 z9.length q9, .slice g8 rs.log.length q8, .int .i64 rs.given])) := ⟨g9, q9, z9, g8, q8, rs.log, rs.given, gx, qq, log ++ [(⟨m.kind, wrap64 (nv + 1), m.uid, m.flags, m.name, m.text⟩ : DCommit)], hzl9, HSX.out, t5, HT4.out, by simp, by simp; omega, HKS.out.app hmn hmt, HB79.out.put _ rfl, HB59.out.putn _ _ (by omega), HB09.out.putn _ _ (by omega), OwnRt.putB HRX7.out _ _ _ HOX9.out, OwnRt.putB (fun j hj => (HRS.out j hj).1) _ _ _ HOS9.out, Own.putC (fun e => by rcases HFN.out _ e with h | h; (have h9 := HFL.out _ h; exact absurd h (HF7.out)); omega) _ _ _ (by simpa using hown), (fun j hj => ⟨HRX7.out j hj, fun e => by rcases HFN.out _ e with h | h; (have h1 := (HFL.out _ h).2; have h2 := (HRX.out j hj).1; omega); (have h2 := (HRX.out j hj).2; omega)⟩), (fun j hj => ⟨(HRS.out j hj).1, fun e => by rcases HFN.out _ e with h | h; exact (HRS.out j hj).2 h; (have h2 := (HOS6.out.rows_ltB j hj).2; omega)⟩), (fun e => by rcases HFN.out _ e with h | h; (have h9 := HFL.out _ h; exact absurd h (HF5.out)); omega), (fun e => by rcases HFN.out _ e with h | h; (have h9 := HFL.out _ h; exact absurd h (HF7.out)); omega), Dr.putW (by omega) _ _ _ HD9.out⟩
          clear hown hg hwl
          go_wp2_with fail
          go_roundw
          case rel => exact ⟨k + 1, by omega, by go_num, HN.out⟩
          case measure => simp [intOf]; omega
      · have ek : (m.kind == 1) = false := by simpa using hk1
        have HK := Lib.hid hk1; clear hk1
        go_upto_region 12 with fail
        refine wp_world (fun wa hwa => ?_)
        have HBMa : Hid (Bx wa w4.heap.size [.int .i64 m.kind, .int .i64 (m.validity), .int .i64 m.uid, .int .i64 m.flags, .string m.name, .string m.text]) := by (rw [hwa]; exact Bx.mk rfl _ rfl)
        have HB7a : Hid (Bx wa (w2.heap.size + 1 + 1) [.slice na ns.length nc, .slice ma ml.length mc, .int .i64 nv]) := by (rw [hwa]; exact HB74.out.ext (w' := _) ((Below.refl _ _).alloc (Nat.le_refl _) _))
        have HB5a : Hid (Bx wa w2.heap.size [.slice ba zs.length bc, .slice la lg.length lc, .int .i64 gv]) := by (rw [hwa]; exact HB54.out.ext (w' := _) ((Below.refl _ _).alloc (Nat.le_refl _) _))
        have HB0a : Hid (Bx wa w.heap.size [.slice none 0 0, .slice none 0 0, .int .i64 0]) := by (rw [hwa]; exact HB04.out.ext (w' := _) ((Below.refl _ _).alloc (Nat.le_refl _) _))
        have HONa : Hid (OwnRt wa w1.heap.size 49 66 41 na nc ns ma mc ml) := by (rw [hwa]; exact HON4.out.ext (w' := _) ((Below.refl _ _).alloc (Nat.le_refl _) _))
        have HOSa : Hid (OwnRt wa w1.heap.size 49 66 41 ba bc zs la lc lg) := by (rw [hwa]; exact HOS4.out.ext (w' := _) ((Below.refl _ _).alloc (Nat.le_refl _) _))
        have HOLa : Hid (Own wa w1.heap.size 41 6 (.slice (some ⟨kl, 0, none⟩) log.length kc) log.length (log.flatMap DCommit.cells)) := by (rw [hwa]; exact HOL4.out.ext (w' := _) ((Below.refl _ _).alloc (Nat.le_refl _) _))
        have HDa : Hid (Dr cb w1 wa) := by (rw [hwa]; exact HD4.out.alloc _)
        have hsa : wa.heap.size = w4.heap.size + 1 := by rw [hwa]; simp
        clear hwa HB74 HB54 HB04 HON4 HOS4 HOL4 HD4
        obtain ⟨pa0, qa0⟩ := HB7a.out.at 0 _ rfl
        obtain ⟨pa1, qa1⟩ := HB7a.out.at 1 _ rfl
        obtain ⟨pa2, qa2⟩ := HB7a.out.at 2 _ rfl
        obtain ⟨ma0, xa0⟩ := HBMa.out.at 0 _ rfl
        obtain ⟨ma1, xa1⟩ := HBMa.out.at 1 _ rfl
        obtain ⟨ma2, xa2⟩ := HBMa.out.at 2 _ rfl
        obtain ⟨ma3, xa3⟩ := HBMa.out.at 3 _ rfl
        obtain ⟨ma4, xa4⟩ := HBMa.out.at 4 _ rfl
        obtain ⟨ma5, xa5⟩ := HBMa.out.at 5 _ rfl
        obtain ⟨rs, rok, hrel⟩ := cmtRel_ex ⟨ns.map PBox.box, ml, nv⟩ (⟨m.kind, m.validity, m.uid, m.flags, m.name, m.text⟩ : DCommit)
        obtain ⟨t1, t2, t3, t4⟩ := cmt_small hrel (N := 5) (by omega) (by simpa using hnl) (smD_map.2 HNS.out) HMS.out hmn hmt
        have t5 := cmt_log hrel hml
        have HREL := Lib.hid hrel; have HT2 := Lib.hid t2; have HT4 := Lib.hid t4; clear hrel t2 t3 t4
        go_wp2_with fail
        refine (specCommitted_rt ns na nc ml ma mc nv m.kind (m.validity) m.uid m.flags m.name m.text _ HONa.out hnl HNS.out hml hmn hmt rs rok HREL).mono ?_
        rintro e w5 ⟨g9, q9, z9, g8, q8, rfl, hown, hzb, hb5⟩
        have hs5 := hb5.size
        have HOX := Lib.hid (hown.rt.le (B' := w1.heap.size) (by omega)); have HRX := Lib.hid hown.rt.rows_ltB; have hzl9 : z9.length ≤ 5 := (by rw [map_len hzb]; exact t1); have HSX := Lib.hid (show SmB 6 z9 from smD_map.1 (by rw [hzb]; exact HT2.out)); clear hown hzb
        have HB75 := Lib.hid (HB7a.out.ext hb5); have HB55 := Lib.hid (HB5a.out.ext hb5); have HB05 := Lib.hid (HB0a.out.ext hb5); have HBM5 := Lib.hid (HBMa.out.ext hb5); have HON5 := Lib.hid (HONa.out.ext hb5); have HOS5 := Lib.hid (HOSa.out.ext hb5); have HOL5 := Lib.hid (HOLa.out.ext hb5); have HD5 := Lib.hid (HDa.out.ext hb5)
        clear pa0 qa0 pa1 qa1 pa2 qa2 ma0 xa0 ma1 xa1 ma2 xa2 ma3 xa3 ma4 xa4 ma5 xa5 HB7a HB5a HB0a HBMa HONa HOSa HOLa HDa HREL
        go_upto_region 13 with fail
        refine wp_world (fun w6 hw6 => ?_)
        have HBX : Hid (Bx w6 w5.heap.size [.slice g9 z9.length q9, .slice g8 rs.log.length q8, .int .i64 rs.given]) := by (rw [hw6]; exact Bx.mk rfl _ rfl)
        have HB76 : Hid (Bx w6 (w2.heap.size + 1 + 1) [.slice na ns.length nc, .slice ma ml.length mc, .int .i64 nv]) := by (rw [hw6]; exact HB75.out.ext (w' := _) ((Below.refl _ _).alloc (Nat.le_refl _) _))
        have HB56 : Hid (Bx w6 w2.heap.size [.slice ba zs.length bc, .slice la lg.length lc, .int .i64 gv]) := by (rw [hw6]; exact HB55.out.ext (w' := _) ((Below.refl _ _).alloc (Nat.le_refl _) _))
        have HB06 : Hid (Bx w6 w.heap.size [.slice none 0 0, .slice none 0 0, .int .i64 0]) := by (rw [hw6]; exact HB05.out.ext (w' := _) ((Below.refl _ _).alloc (Nat.le_refl _) _))
        have HBM6 : Hid (Bx w6 w4.heap.size [.int .i64 m.kind, .int .i64 (m.validity), .int .i64 m.uid, .int .i64 m.flags, .string m.name, .string m.text]) := by (rw [hw6]; exact HBM5.out.ext (w' := _) ((Below.refl _ _).alloc (Nat.le_refl _) _))
        have HON6 : Hid (OwnRt w6 w1.heap.size 49 66 41 na nc ns ma mc ml) := by (rw [hw6]; exact HON5.out.ext (w' := _) ((Below.refl _ _).alloc (Nat.le_refl _) _))
        have HOS6 : Hid (OwnRt w6 w1.heap.size 49 66 41 ba bc zs la lc lg) := by (rw [hw6]; exact HOS5.out.ext (w' := _) ((Below.refl _ _).alloc (Nat.le_refl _) _))
        have HOX6 : Hid (OwnRt w6 w1.heap.size 49 66 41 g9 q9 z9 g8 q8 rs.log) := by (rw [hw6]; exact HOX.out.ext (w' := _) ((Below.refl _ _).alloc (Nat.le_refl _) _))
        have HOL6 : Hid (Own w6 w1.heap.size 41 6 (.slice (some ⟨kl, 0, none⟩) log.length kc) log.length (log.flatMap DCommit.cells)) := by (rw [hw6]; exact HOL5.out.ext (w' := _) ((Below.refl _ _).alloc (Nat.le_refl _) _))
        have HD6 : Hid (Dr cb w1 w6) := by (rw [hw6]; exact HD5.out.alloc _)
        have hs6 : w5.heap.size + 1 ≤ w6.heap.size ∧ w6.heap.size ≤ w5.heap.size + 1 := by rw [hw6]; simp
        clear hw6 HB75 HB55 HB05 HBM5 HON5 HOS5 HOX HOL5 HD5 hb5
        have hcr6 := Lib.hid HD6.out.cur
        cases rok
        · skip
          go_wp2_with fail
          refine (l1Once_any cb 6 _ (hcr6.out.ext bxt) (by omega)).mono ?_
          rintro e w7 ⟨t, rfl, hd7⟩
          have hz7 := hd7.size; (try simp at hz7)
          have hs7 := hd7.size; (try simp at hs7)
          cases t
          · skip
            have HN : Hid (KSt cb w1 w1.heap.size w.heap.size w2.heap.size (w2.heap.size + 1 + 1) ba bc zs la lc lg gv (k + 1) (.slice (some ⟨kl, 0, none⟩) log.length kc) w7) := ⟨na, nc, ns, ma, mc, ml, nv, kl, kc, log, hnl, HNS.out, hml, HMS.out, rfl, by omega, HKS.out, HB76.out.dr hd7 (by omega), HB56.out.dr hd7 (by omega), HB06.out.dr hd7 (by omega), HON6.out.dr hd7 (by omega), HOS6.out.dr hd7 (by omega), HOL6.out.dr hd7 (by omega), HRN.out, HRS.out, HF5.out, HF7.out, HD6.out.trans hd7⟩
            go_wp2_with fail
            go_roundw
            case rel => exact ⟨k + 1, by omega, by go_num, HN.out⟩
            case measure => simp [intOf]; omega
          · skip
            have HBMw : Hid (Bx w7 w4.heap.size [.int .i64 m.kind, .int .i64 (m.validity), .int .i64 m.uid, .int .i64 m.flags, .string m.name, .string m.text]) := (HBM6.out.dr hd7 (by omega))
            obtain ⟨ma0, xa0⟩ := HBMw.out.at 0 _ rfl
            obtain ⟨ma1, xa1⟩ := HBMw.out.at 1 _ rfl
            obtain ⟨ma2, xa2⟩ := HBMw.out.at 2 _ rfl
            obtain ⟨ma3, xa3⟩ := HBMw.out.at 3 _ rfl
            obtain ⟨ma4, xa4⟩ := HBMw.out.at 4 _ rfl
            obtain ⟨ma5, xa5⟩ := HBMw.out.at 5 _ rfl
            have HDw : Hid (Dr cb w1 w7) := HD6.out.trans hd7
            have hsw := hd7.size
            go_wp2_with ((at_builtin; refine Hid.out ?_))
            refine Lib.hid ?_
            refine wpList_appL (B := w1.heap.size) (v := .slice (some ⟨kl, 0, none⟩) log.length kc) rfl _ _ 25 rfl 41 i0 _ _ Tryz.underlying25 hi hy0 hy1 hy2 rfl (by decide) rfl (Own.ext ((HOL6.out.dr hd7 (by omega))) bxt) (some ⟨w7.heap.size, 0, none⟩) 1 1 (DCommit.cells (⟨m.kind, m.validity, m.uid, m.flags, m.name, m.text⟩ : DCommit)) rfl (Rd.lit _ _ _ _ 6 _ (by simp) rfl (by omega)) (DCommit.one _) (by omega) (by omega) smx ?_
            intro gg qq w9 hown hg hwl
            have hgs := hg.size; (try simp at hgs)
            have hgc := hown.cap
            obtain ⟨gx, rfl, -⟩ := hown.row (by omega)
            have HFN := Lib.hid (show ∀ j, foot (.slice (some ⟨gx, 0, none⟩) (log ++ [(⟨m.kind, m.validity, m.uid, m.flags, m.name, m.text⟩ : DCommit)]).length qq) = some j → foot (.slice (some ⟨kl, 0, none⟩) log.length kc) = some j ∨ w7.heap.size < j + 1 ∧ w7.heap.size ≤ j from fun j hj => by rcases hwl j ((foot_len (some ⟨gx, 0, none⟩) (log.length + 1) _ qq).trans hj) with h | h; exact Or.inl h; (right; (try simp at h); omega))
            have HB79 := Lib.hid (Bx.grown ((HB76.out.dr hd7 (by omega)) |>.ext (w' := _) ((Below.refl _ _).alloc (Nat.le_refl _) _)) hg HF7.out); have HB59 := Lib.hid (Bx.grown ((HB56.out.dr hd7 (by omega)) |>.ext (w' := _) ((Below.refl _ _).alloc (Nat.le_refl _) _)) hg HF5.out); have HB09 := Lib.hid (Bx.grown ((HB06.out.dr hd7 (by omega)) |>.ext (w' := _) ((Below.refl _ _).alloc (Nat.le_refl _) _)) hg (fun e => by have h := (HFL.out _ e).1; omega)); have HBX9 := Lib.hid (Bx.grown ((HBX.out.dr hd7 (by omega)) |>.ext (w' := _) ((Below.refl _ _).alloc (Nat.le_refl _) _)) hg (fun e => by have h := (HFL.out _ e).2; omega))
            have HOS9 := Lib.hid (OwnRt.offB ((HOS6.out.dr hd7 (by omega)) |>.ext (w' := _) ((Below.refl _ _).alloc (Nat.le_refl _) _)) hg (fun j hj => (HRS.out j hj).2)); have HOX9 := Lib.hid (OwnRt.offB ((HOX6.out.dr hd7 (by omega)) |>.ext (w' := _) ((Below.refl _ _).alloc (Nat.le_refl _) _)) hg (fun j hj e => by have h1 := (HFL.out _ e).2; have h2 := (HRX.out j hj).1; omega))
            have HD9 : Hid (Dr cb w1 w9) := (HDw.out.alloc _).grown hg (fun x hx => (HFL.out x hx).1)
            obtain ⟨xx0, xf0⟩ := HBX9.out.at 0 _ rfl
            obtain ⟨xx1, xf1⟩ := HBX9.out.at 1 _ rfl
            obtain ⟨xx2, xf2⟩ := HBX9.out.at 2 _ rfl
            obtain ⟨yy0, yf0⟩ := HB79.out.at 0 _ rfl
            obtain ⟨yy1, yf1⟩ := HB79.out.at 1 _ rfl
            obtain ⟨yy2, yf2⟩ := HB79.out.at 2 _ rfl
            have sx9 : w5.heap.size < w9.heap.size := HBX9.out.lt; have s79 : w2.heap.size + 1 + 1 < w9.heap.size := HB79.out.lt
            have HRX7 := Lib.hid (show ∀ j, rowsS g9 q9 z9 g8 q8 rs.log.length j → j ≠ (w2.heap.size + 1 + 1) from fun j hj e => by have h2 := (HRX.out j hj).1; omega)
            have HN : Hid (KSt cb w1 w1.heap.size w.heap.size w2.heap.size (w2.heap.size + 1 + 1) ba bc zs la lc lg gv (k + 1) (.slice (some ⟨gx, 0, none⟩) (log.length + 1) qq) (putW w9 (w2.heap.size + 1 + 1) 0 [.slice g9 z9.length q9, .slice g8 rs.log.length q8, .int .i64 rs.given])) := ⟨g9, q9, z9, g8, q8, rs.log, rs.given, gx, qq, log ++ [(⟨m.kind, m.validity, m.uid, m.flags, m.name, m.text⟩ : DCommit)], hzl9, HSX.out, t5, HT4.out, by simp, by simp; omega, HKS.out.app hmn hmt, HB79.out.put _ rfl, HB59.out.putn _ _ (by omega), HB09.out.putn _ _ (by omega), OwnRt.putB HRX7.out _ _ _ HOX9.out, OwnRt.putB (fun j hj => (HRS.out j hj).1) _ _ _ HOS9.out, Own.putC (fun e => by rcases HFN.out _ e with h | h; (have h9 := HFL.out _ h; exact absurd h (HF7.out)); omega) _ _ _ (by simpa using hown), (fun j hj => ⟨HRX7.out j hj, fun e => by rcases HFN.out _ e with h | h; (have h1 := (HFL.out _ h).2; have h2 := (HRX.out j hj).1; omega); (have h2 := (HRX.out j hj).2; omega)⟩), (fun j hj => ⟨(HRS.out j hj).1, fun e => by rcases HFN.out _ e with h | h; exact (HRS.out j hj).2 h; (have h2 := (HOS6.out.rows_ltB j hj).2; omega)⟩), (fun e => by rcases HFN.out _ e with h | h; (have h9 := HFL.out _ h; exact absurd h (HF5.out)); omega), (fun e => by rcases HFN.out _ e with h | h; (have h9 := HFL.out _ h; exact absurd h (HF7.out)); omega), Dr.putW (by omega) _ _ _ HD9.out⟩
            clear hown hg hwl
            go_wp2_with fail
            go_roundw
            case rel => exact ⟨k + 1, by omega, by go_num, HN.out⟩
            case measure => simp [intOf]; omega
        · skip
          have HBMw : Hid (Bx w6 w4.heap.size [.int .i64 m.kind, .int .i64 (m.validity), .int .i64 m.uid, .int .i64 m.flags, .string m.name, .string m.text]) := HBM6.out
          obtain ⟨ma0, xa0⟩ := HBMw.out.at 0 _ rfl
          obtain ⟨ma1, xa1⟩ := HBMw.out.at 1 _ rfl
          obtain ⟨ma2, xa2⟩ := HBMw.out.at 2 _ rfl
          obtain ⟨ma3, xa3⟩ := HBMw.out.at 3 _ rfl
          obtain ⟨ma4, xa4⟩ := HBMw.out.at 4 _ rfl
          obtain ⟨ma5, xa5⟩ := HBMw.out.at 5 _ rfl
          have HDw : Hid (Dr cb w1 w6) := HD6
          have hsw := Nat.le_refl w6.heap.size
          go_wp2_with ((at_builtin; refine Hid.out ?_))
          refine Lib.hid ?_
          refine wpList_appL (B := w1.heap.size) (v := .slice (some ⟨kl, 0, none⟩) log.length kc) rfl _ _ 25 rfl 41 i0 _ _ Tryz.underlying25 hi hy0 hy1 hy2 rfl (by decide) rfl (Own.ext (HOL6.out) bxt) (some ⟨w6.heap.size, 0, none⟩) 1 1 (DCommit.cells (⟨m.kind, m.validity, m.uid, m.flags, m.name, m.text⟩ : DCommit)) rfl (Rd.lit _ _ _ _ 6 _ (by simp) rfl (by omega)) (DCommit.one _) (by omega) (by omega) smx ?_
          intro gg qq w9 hown hg hwl
          have hgs := hg.size; (try simp at hgs)
          have hgc := hown.cap
          obtain ⟨gx, rfl, -⟩ := hown.row (by omega)
          have HFN := Lib.hid (show ∀ j, foot (.slice (some ⟨gx, 0, none⟩) (log ++ [(⟨m.kind, m.validity, m.uid, m.flags, m.name, m.text⟩ : DCommit)]).length qq) = some j → foot (.slice (some ⟨kl, 0, none⟩) log.length kc) = some j ∨ w6.heap.size < j + 1 ∧ w6.heap.size ≤ j from fun j hj => by rcases hwl j ((foot_len (some ⟨gx, 0, none⟩) (log.length + 1) _ qq).trans hj) with h | h; exact Or.inl h; (right; (try simp at h); omega))
          have HB79 := Lib.hid (Bx.grown (HB76.out |>.ext (w' := _) ((Below.refl _ _).alloc (Nat.le_refl _) _)) hg HF7.out); have HB59 := Lib.hid (Bx.grown (HB56.out |>.ext (w' := _) ((Below.refl _ _).alloc (Nat.le_refl _) _)) hg HF5.out); have HB09 := Lib.hid (Bx.grown (HB06.out |>.ext (w' := _) ((Below.refl _ _).alloc (Nat.le_refl _) _)) hg (fun e => by have h := (HFL.out _ e).1; omega)); have HBX9 := Lib.hid (Bx.grown (HBX.out |>.ext (w' := _) ((Below.refl _ _).alloc (Nat.le_refl _) _)) hg (fun e => by have h := (HFL.out _ e).2; omega))
          have HOS9 := Lib.hid (OwnRt.offB (HOS6.out |>.ext (w' := _) ((Below.refl _ _).alloc (Nat.le_refl _) _)) hg (fun j hj => (HRS.out j hj).2)); have HOX9 := Lib.hid (OwnRt.offB (HOX6.out |>.ext (w' := _) ((Below.refl _ _).alloc (Nat.le_refl _) _)) hg (fun j hj e => by have h1 := (HFL.out _ e).2; have h2 := (HRX.out j hj).1; omega))
          have HD9 : Hid (Dr cb w1 w9) := (HDw.out.alloc _).grown hg (fun x hx => (HFL.out x hx).1)
          obtain ⟨xx0, xf0⟩ := HBX9.out.at 0 _ rfl
          obtain ⟨xx1, xf1⟩ := HBX9.out.at 1 _ rfl
          obtain ⟨xx2, xf2⟩ := HBX9.out.at 2 _ rfl
          obtain ⟨yy0, yf0⟩ := HB79.out.at 0 _ rfl
          obtain ⟨yy1, yf1⟩ := HB79.out.at 1 _ rfl
          obtain ⟨yy2, yf2⟩ := HB79.out.at 2 _ rfl
          have sx9 : w5.heap.size < w9.heap.size := HBX9.out.lt; have s79 : w2.heap.size + 1 + 1 < w9.heap.size := HB79.out.lt
          have HRX7 := Lib.hid (show ∀ j, rowsS g9 q9 z9 g8 q8 rs.log.length j → j ≠ (w2.heap.size + 1 + 1) from fun j hj e => by have h2 := (HRX.out j hj).1; omega)
          have HN : Hid (KSt cb w1 w1.heap.size w.heap.size w2.heap.size (w2.heap.size + 1 + 1) ba bc zs la lc lg gv (k + 1) (.slice (some ⟨gx, 0, none⟩) (log.length + 1) qq) (putW w9 (w2.heap.size + 1 + 1) 0 [.slice g9 z9.length q9, .slice g8 rs.log.length q8, .int .i64 rs.given])) := ⟨g9, q9, z9, g8, q8, rs.log, rs.given, gx, qq, log ++ [(⟨m.kind, m.validity, m.uid, m.flags, m.name, m.text⟩ : DCommit)], hzl9, HSX.out, t5, HT4.out, by simp, by simp; omega, HKS.out.app hmn hmt, HB79.out.put _ rfl, HB59.out.putn _ _ (by omega), HB09.out.putn _ _ (by omega), OwnRt.putB HRX7.out _ _ _ HOX9.out, OwnRt.putB (fun j hj => (HRS.out j hj).1) _ _ _ HOS9.out, Own.putC (fun e => by rcases HFN.out _ e with h | h; (have h9 := HFL.out _ h; exact absurd h (HF7.out)); omega) _ _ _ (by simpa using hown), (fun j hj => ⟨HRX7.out j hj, fun e => by rcases HFN.out _ e with h | h; (have h1 := (HFL.out _ h).2; have h2 := (HRX.out j hj).1; omega); (have h2 := (HRX.out j hj).2; omega)⟩), (fun j hj => ⟨(HRS.out j hj).1, fun e => by rcases HFN.out _ e with h | h; exact (HRS.out j hj).2 h; (have h2 := (HOS6.out.rows_ltB j hj).2; omega)⟩), (fun e => by rcases HFN.out _ e with h | h; (have h9 := HFL.out _ h; exact absurd h (HF5.out)); omega), (fun e => by rcases HFN.out _ e with h | h; (have h9 := HFL.out _ h; exact absurd h (HF7.out)); omega), Dr.putW (by omega) _ _ _ HD9.out⟩
          clear hown hg hwl
          go_wp2_with fail
          go_roundw
          case rel => exact ⟨k + 1, by omega, by go_num, HN.out⟩
          case measure => simp [intOf]; omega
    · skip
      go_wp2_with fail
      refine bodyPost_ret (v := .tuple #[.agg #[.slice ba zs.length bc, .slice la lg.length lc, .int .i64 gv], .slice (some ⟨kl, 0, none⟩) log.length kc]) (by simp [results, Tryz.results13, go_sem, *]) rfl ⟨ba, bc, zs, la, lc, lg, gv, some ⟨kl, 0, none⟩, kc, log, by omega, HKS.out, by omega, HSMb.out, by omega, HSL.out, rfl, ?_, ?_, ?_⟩
      · refine OwnRt.le (B := w1.heap.size) ?_ (by have := hE1.out.size; omega)
        exact (by repeat' (first | with_reducible exact HOS.out | with_reducible refine OwnRt.set_below ?_ smx _))
      · refine Own.le (B := w1.heap.size) ?_ (by have := hE1.out.size; omega)
        exact (by repeat' (first | with_reducible exact HOL.out | with_reducible refine Own.set_below ?_ smx _))
      · have hbw : Below w.heap.size w wr := HE01.out.trans (hd.chg.below (fun x hx => by have hx' : x = cb := hx; omega) (by have := HE01.out.size; omega))
        exact btx
end Go.Proofs.YtjcnhkmhcfmoeaaGreat
