/-
  The lines that are drawn.
-/
import Derived.Test.YtpameapajhbdnaaK18
import Derived.Test.YtpameapajhbdnaaK27
import Derived.Test.YtpameapajhbdnaaK11
import Derived.Test.YtpameapajhbdnaaK15
import Derived.Test.YtpameapajhbdnaaK14
namespace Go.Proofs.Ytpameapajhbdnaa
open Go.RowKit
set_option linter.unusedVariables false
set_option linter.unusedSimpArgs false

/-- another mailbox, its row apart from the others -/
theorem LSt.setBoxA {w : World} {B cb b3 b5 : Nat} {nm : ByteArray} {va nx : Int} {ga : Option Addr} {qa : Nat} {ms : List DMsg} {gv : Option Addr} {qv : Nat} {vs : List DSeen} {go : Option Addr} {qo : Nat} {os : List DReply} (h : LSt w B cb b3 b5 nm va nx ga qa ms gv qv vs go qo os) {nm2 : ByteArray} {va2 nx2 : Int} {g2 : Option Addr} {q2 B2 : Nat} {ms2 : List DMsg} (hn : Own w B2 111 3 (.slice g2 ms2.length q2) ms2.length (ms2.flatMap DMsg.cells))
    (n3 : foot (.slice g2 ms2.length q2) ≠ some b3) (n5 : foot (.slice g2 ms2.length q2) ≠ some b5) (ho : ∀ k, foot (.slice g2 ms2.length q2) = some k → foot (.slice go os.length qo) ≠ some k) (hB2 : B ≤ B2 := by omega) : LSt (putW w b3 0 [.string nm2, .int .i64 va2, .int .i64 nx2, .slice g2 ms2.length q2]) B cb b3 b5 nm2 va2 nx2 g2 q2 ms2 gv qv vs go qo os :=
  ⟨h.bx.put _ rfl, h.bv.putn _ _ h.h35, ((((hn.le hB2).set_off (p := ⟨b3, 0, none⟩) n3 _).set_off (p := ⟨b3, 1, none⟩) n3 _).set_off (p := ⟨b3, 2, none⟩) n3 _).set_off (p := ⟨b3, 3, none⟩) n3 _,
    (((h.ov.set_off (p := ⟨b3, 0, none⟩) h.v3 _).set_off (p := ⟨b3, 1, none⟩) h.v3 _).set_off (p := ⟨b3, 2, none⟩) h.v3 _).set_off (p := ⟨b3, 3, none⟩) h.v3 _,
    (((h.oo.set_off (p := ⟨b3, 0, none⟩) h.o3 _).set_off (p := ⟨b3, 1, none⟩) h.o3 _).set_off (p := ⟨b3, 2, none⟩) h.o3 _).set_off (p := ⟨b3, 3, none⟩) h.o3 _,
    h.hB, h.h3, h.h5, h.h35, n3, n5, h.v3, h.v5, h.o3, h.o5, ho, h.vo⟩
theorem Rd.none0A {s : Nat} (w : World) (a : Option Addr) : Rd w a 0 s 0 [] := ⟨by simp, Nat.le_refl _, by omega, fun h => absurd h (by omega)⟩
theorem ownRs_lit2 {w : World} {B E EM g0 : Nat} (nm : ByteArray) (va nx : Int) (ms : List DMsg) (g : Option Addr) (q : Nat) (hB : B ≤ w.heap.size) (hg : w.heap.size = g0) (h : Own w B EM 3 (.slice g ms.length q) ms.length (ms.flatMap DMsg.cells)) :
    OwnRs (w.alloc (.cells #[.string nm, .int .i64 va, .int .i64 nx, .slice g ms.length q] E)) B E EM (some ⟨g0, 0, none⟩) 1 [⟨nm, va, nx, ms, g, q⟩] :=
  ⟨(own_lit (n := 1) hg rfl rfl (by omega)).le hB, fun z hz => by obtain rfl := List.mem_singleton.1 hz; exact h.alloc1 _⟩
theorem Bx.drR4 {cb : Nat} {w w' : World} {b : Nat} {cs : List Value} (hd : Dr cb w w') (h : Bx w b cs) (hn : b ≠ cb) : Bx w' b cs := h.dr hd hn
/-- replies that are drawn -/
def DrLn (cb : Nat) (w : World) (e : Ending) (w' : World) : Prop := ∃ (g : Option Addr) (q : Nat) (os : List DReply), os.length ≤ 60 ∧ e = .returned (.slice g os.length q) ∧ Own w' w.heap.size 131 6 (.slice g os.length q) os.length (os.flatMap DReply.cells) ∧ Dr cb w w'
def LRel (cb : Nat) (w : World) (b3 b5 K : Nat) (ov : Value) (wr : World) : Prop := ∃ (nm : ByteArray) (va nx : Int) (ga : Option Addr) (qa : Nat) (ms : List DMsg) (gv : Option Addr) (qv : Nat) (vs : List DSeen) (go : Option Addr) (qo : Nat) (os : List DReply),
  ov = .slice go os.length qo ∧ nm.size ≤ 41 ∧ ms.length ≤ 6 ∧ (∀ y ∈ ms, y.text.size ≤ 41) ∧ vs.length ≤ 6 + K ∧ os.length ≤ 10 + 2 * K ∧ LSt wr w.heap.size cb b3 b5 nm va nx ga qa ms gv qv vs go qo os ∧ Dr cb w wr
def LLoop (cb : Nat) (w : World) (b3 b5 : Nat) (n : Int) (ov i : Value) (wr : World) : Prop := ∃ k : Nat, (k : Int) ≤ n ∧ i = .int .i64 k ∧ Hid (LRel cb w b3 b5 k ov wr)
set_option maxRecDepth 100000 in
set_option maxHeartbeats 4000000 in
theorem l15Lines_any (cb : Nat) (w : World) (hc : Cur w cb) :
    Calls Try.prog 107 #[.pointer (some ⟨cb, 0, none⟩)] w (DrLn cb w) := by
  obtain ⟨i0, hi, hy0, hy1, hy2⟩ := info_parts info_Reply
  have hcl := hc.lt
  have HC := Lib.hid hc
  clear hc
  go_enter Try.func107, Try.ntmps107
  go_wp2_with fail
  refine (l9Box_any cb _ _ _ (HC.out.ext bxt)).mono ?_
  rintro e w1 ⟨nx, ga, qa, ms, hml, htx, rfl, ho, hd1⟩
  have hz1 := hd1.size; (try simp at hz1)
  have HO := Lib.hid ho; have HTX := Lib.hid htx; clear ho htx
  obtain ⟨rr, hrr⟩ : ∃ r, selecting ⟨#[97]⟩ 2 nx ms = r := ⟨_, rfl⟩
  have hrl : rr.length ≤ 8 := by (rw [← hrr]; have := selecting_len ⟨#[97]⟩ 2 nx ms; omega)
  have HRR := Lib.hid hrr; clear hrr
  go_wp2_with fail
  refine (specSelecting_any ⟨#[97]⟩ 2 nx ms ga qa _ (Rd.of_Own (HO.out.ext bxt)) (by omega) (by decide) (fun y hy => by have := HTX.out y hy; omega) rr HRR).mono ?_
  rintro e w2 ⟨go, qo, rfl, hoo, hb2⟩
  have hz2 := hb2.size; (try simp at hz2)
  have s2_0 : w1.heap.size < w2.heap.size := (by omega)
  have c2_0_0 : w2.cell? ⟨w1.heap.size, 0, none⟩ = some (.string ⟨#[97]⟩) := (hb2.cell (p := ⟨w1.heap.size, 0, none⟩) smx).trans kpx
  have f2_0_0 : w2.frozen? ⟨w1.heap.size, 0, none⟩ = false := (hb2.frozen (p := ⟨w1.heap.size, 0, none⟩) smx).trans kfx
  have c2_0_1 : w2.cell? ⟨w1.heap.size, 1, none⟩ = some (.int .i64 2) := (hb2.cell (p := ⟨w1.heap.size, 1, none⟩) smx).trans kpx
  have f2_0_1 : w2.frozen? ⟨w1.heap.size, 1, none⟩ = false := (hb2.frozen (p := ⟨w1.heap.size, 1, none⟩) smx).trans kfx
  have c2_0_2 : w2.cell? ⟨w1.heap.size, 2, none⟩ = some (.int .i64 nx) := (hb2.cell (p := ⟨w1.heap.size, 2, none⟩) smx).trans kpx
  have f2_0_2 : w2.frozen? ⟨w1.heap.size, 2, none⟩ = false := (hb2.frozen (p := ⟨w1.heap.size, 2, none⟩) smx).trans kfx
  have c2_0_3 : w2.cell? ⟨w1.heap.size, 3, none⟩ = some (.slice ga ms.length qa) := (hb2.cell (p := ⟨w1.heap.size, 3, none⟩) smx).trans kpx
  have f2_0_3 : w2.frozen? ⟨w1.heap.size, 3, none⟩ = false := (hb2.frozen (p := ⟨w1.heap.size, 3, none⟩) smx).trans kfx
  have HOO := Lib.hid hoo; clear hoo
  obtain ⟨vs, hvs⟩ : ∃ r, ms.map DMsg.seen = r := ⟨_, rfl⟩
  have hvl : vs.length ≤ 5 := by (rw [← hvs]; simpa using hml)
  have HVS := Lib.hid hvs; clear hvs
  go_wp2_with fail
  refine (specViewOf_any _ _ _ ms ga qa _ (Rd.of_Own (HO.out.ext bxt)) (by omega) vs HVS).mono ?_
  rintro e w3 ⟨gv, qv, rfl, hov, hb3⟩
  have hz3 := hb3.size; (try simp at hz3)
  have s3_0 : w1.heap.size < w3.heap.size := (by omega)
  have c3_0_0 : w3.cell? ⟨w1.heap.size, 0, none⟩ = some (.string ⟨#[97]⟩) := (hb3.cell (p := ⟨w1.heap.size, 0, none⟩) smx).trans kpx
  have f3_0_0 : w3.frozen? ⟨w1.heap.size, 0, none⟩ = false := (hb3.frozen (p := ⟨w1.heap.size, 0, none⟩) smx).trans kfx
  have c3_0_1 : w3.cell? ⟨w1.heap.size, 1, none⟩ = some (.int .i64 2) := (hb3.cell (p := ⟨w1.heap.size, 1, none⟩) smx).trans kpx
  have f3_0_1 : w3.frozen? ⟨w1.heap.size, 1, none⟩ = false := (hb3.frozen (p := ⟨w1.heap.size, 1, none⟩) smx).trans kfx
  have c3_0_2 : w3.cell? ⟨w1.heap.size, 2, none⟩ = some (.int .i64 nx) := (hb3.cell (p := ⟨w1.heap.size, 2, none⟩) smx).trans kpx
  have f3_0_2 : w3.frozen? ⟨w1.heap.size, 2, none⟩ = false := (hb3.frozen (p := ⟨w1.heap.size, 2, none⟩) smx).trans kfx
  have c3_0_3 : w3.cell? ⟨w1.heap.size, 3, none⟩ = some (.slice ga ms.length qa) := (hb3.cell (p := ⟨w1.heap.size, 3, none⟩) smx).trans kpx
  have f3_0_3 : w3.frozen? ⟨w1.heap.size, 3, none⟩ = false := (hb3.frozen (p := ⟨w1.heap.size, 3, none⟩) smx).trans kfx
  have HOV := Lib.hid (Own.of_row hov); clear hov
  have HC3 := Lib.hid (hd1.cur.ext (w' := w3) bxt)
  go_wp2_with fail
  refine (l1Below_any cb 5 _ (HC3.out.ext bxt) (by omega)).mono ?_
  rintro e w4 ⟨n, ⟨n0, n1, -⟩, rfl, hd4⟩
  have n1 := n1 (by omega)
  have hz4 := hd4.size; (try simp at hz4)
  have HS0 : Hid (LRel cb w w1.heap.size w3.heap.size 0 (.slice go rr.length qo) w4) := ⟨⟨#[97]⟩, 2, nx, ga, qa, ms, gv, qv, vs, go, qo, rr, rfl, by decide, by omega, (fun y hy => by have := HTX.out y hy; omega), by omega, by omega, ⟨((Bx.mk rfl _ rfl : Bx (w1.alloc (.cells #[.string ⟨#[97]⟩, .int .i64 2, .int .i64 nx, .slice ga ms.length qa] 52)) w1.heap.size _).ext (w' := _) bxt).dr hd4 (by omega), Bx.drR4 hd4 (Bx.mk rfl _ rfl) (by omega), (((HO.out.le (B' := w.heap.size) (by first | omega | (simp; omega))).ext (w' := _) bxt).dr hd4 hcl), ((HOV.out.le (B' := w.heap.size) (by first | omega | (simp; omega))).ext (w' := _) bxt).dr hd4 hcl, ((HOO.out.le (B' := w.heap.size) (by first | omega | (simp; omega))).ext (w' := _) bxt).dr hd4 hcl, hcl, by omega, by omega, by omega, HO.out.ne_ge (Nat.le_refl _), HO.out.ne_ge (by omega), (fun e => by have := (HOV.out.lt w1.heap.size e).1; omega), HOV.out.ne_ge (Nat.le_refl _), (fun e => by have := (HOO.out.lt w1.heap.size e).1; (try simp at this); omega), HOO.out.ne_ge (by omega), (fun k hk e => by have h1 := (HO.out.lt k hk).2; have h2 := (HOO.out.lt k e).1; (try simp at h2); omega), (fun k hk e => by have h1 := (HOV.out.lt k hk).1; have h2 := (HOO.out.lt k e).2; (try simp at h1); omega)⟩, dtx⟩
  have HTX0 := HTX; clear HO HTX HOO HOV HRR HVS hd1 hb2 hb3 HC3 HC hd4 c2_0_0 f2_0_0 c2_0_1 f2_0_1 c2_0_2 f2_0_2 c2_0_3 f2_0_3 c3_0_0 f3_0_0 c3_0_1 f3_0_1 c3_0_2 f3_0_2 c3_0_3 f3_0_3
  go_wp2_with fail
  go_loopw [4, 7] (LLoop cb w w1.heap.size w3.heap.size n) (fun _ i _ => (n - intOf i).toNat)
  case atStart => exact ⟨0, n0, rfl, HS0.out⟩
  case round =>
    clear HS0 HTX0
    obtain ⟨k, hk, rfl, HS⟩ := hrel
    obtain ⟨nm, va, nx, ga, qa, ms, gv, qv, vs, go, qo, os, rfl, hnm, hms, htx, hvs, hos, hl, hd⟩ := HS.out
    obtain ⟨p0, q0⟩ := hl.bx.at 0 _ rfl
    obtain ⟨p1, q1⟩ := hl.bx.at 1 _ rfl
    obtain ⟨p2, q2⟩ := hl.bx.at 2 _ rfl
    obtain ⟨p3, q3⟩ := hl.bx.at 3 _ rfl
    obtain ⟨r0, s0⟩ := hl.bv.at 0 _ rfl
    have sb3 : w1.heap.size < wr.heap.size := hl.bx.lt; have sb5 : w3.heap.size < wr.heap.size := hl.bv.lt; have hB : cb < w.heap.size := hl.hB
    have HL := Lib.hid hl; have HTX := Lib.hid htx; have HD := Lib.hid hd; have hcr := Lib.hid hd.cur; have hsz := hd.size; clear hl htx hd HS
    by_cases hlt : (k : Int) < n
    · skip
      go_wp2_with fail
      refine (l10Commit_any cb [⟨nm, va, nx, ms, ga, qa⟩] _ _ w.heap.size _ (hcr.out.ext bxt) (ownRs_lit2 _ _ _ _ _ _ (by omega) rfl HL.out.om) hB (by simp) (fun y hy => by obtain rfl := List.mem_singleton.1 hy; show ms.length ≤ 1000; omega)).mono ?_
      rintro e w5 ⟨m, hmn, hmt, rfl, hd5⟩
      have HL5 := Lib.hid ((HL.out.ext (w' := _) bxt).dr hd5); have HD5 : Hid (Dr cb w w5) := Lib.hid ((HD.out.ext bxt).trans hd5)
      have sb35 : w1.heap.size < w5.heap.size := HL5.out.bx.lt; have sb55 : w3.heap.size < w5.heap.size := HL5.out.bv.lt
      clear HL HD hcr r0 s0 hd5 p0 q0 p1 q1 p2 q2 p3 q3
      go_upto_region 9 with fail
      refine wp_world (fun wa hwa => ?_)
      have hxa : Ext w5 wa := by (rw [hwa]; exact bxt)
      have hmb : Bx wa w5.heap.size [.int .i64 m.kind, .int .i64 m.validity, .int .i64 m.uid, .int .i64 m.flags, .string m.name, .string m.text] := by (rw [hwa]; exact Bx.mk rfl _ rfl)
      clear hwa
      have hsa : w5.heap.size < wa.heap.size := hmb.lt
      have hla := HL5.out.ext hxa; have hba : w.heap.size ≤ wa.heap.size := by (have := HD5.out.size; omega)
      have HDa : Hid (Dr cb w wa) := Lib.hid (HD5.out.ext hxa)
      have HOF : Hid (∀ k, foot (.slice go os.length qo) = some k → k < w5.heap.size) := Lib.hid (fun k hk => (HL5.out.oo.lt k hk).2)
      clear HL5 HD5 hxa
      obtain ⟨p0, pp0⟩ := hla.bx.at 0 _ rfl
      obtain ⟨p1, pp1⟩ := hla.bx.at 1 _ rfl
      obtain ⟨p2, pp2⟩ := hla.bx.at 2 _ rfl
      obtain ⟨p3, pp3⟩ := hla.bx.at 3 _ rfl
      obtain ⟨r0, rr0⟩ := hla.bv.at 0 _ rfl
      obtain ⟨m0, mm0⟩ := hmb.at 0 _ rfl
      obtain ⟨m1, mm1⟩ := hmb.at 1 _ rfl
      obtain ⟨m2, mm2⟩ := hmb.at 2 _ rfl
      obtain ⟨m3, mm3⟩ := hmb.at 3 _ rfl
      obtain ⟨m4, mm4⟩ := hmb.at 4 _ rfl
      obtain ⟨m5, mm5⟩ := hmb.at 5 _ rfl
      have sb3a : w1.heap.size < wa.heap.size := hla.bx.lt; have sb5a : w3.heap.size < wa.heap.size := hla.bv.lt
      obtain ⟨rr, rok, hrel⟩ := appRel_ex ([(⟨nm, va, nx, ms, ga, qa⟩ : PBox)].map PBox.box) m
      have HREL := Lib.hid hrel; clear hrel
      have HSZ : Hid (SmB 6 [(⟨nm, va, nx, ms, ga, qa⟩ : PBox)]) := Lib.hid (fun y hy => by obtain rfl := List.mem_singleton.1 hy; exact ⟨hnm, hms, HTX.out⟩)
      have HBQ : Hid (Bq (wa.alloc (.cells #[.string nm, .int .i64 va, .int .i64 nx, .slice ga ms.length qa] 52)) (some ⟨wa.heap.size, 0, none⟩) 1 [(⟨nm, va, nx, ms, ga, qa⟩ : PBox)]) := Lib.hid (OwnRs.bq (B := w.heap.size) (E := 52) (EM := 111) (ownRs_lit2 (w := wa) nm va nx ms ga qa hba rfl hla.om) (by simp) HSZ.out)
      have HLa := Lib.hid hla; have HMBa := Lib.hid hmb; clear hla hmb
      go_wp2_with fail
      refine (specApplied_bq [⟨nm, va, nx, ms, ga, qa⟩] _ _ _ HBQ.out m hmn hmt rr rok HREL).mono ?_
      rintro e w6 ⟨g6, q6, z6, rfl, ho6, hz6, hb6⟩
      clear HBQ
      have hx6 : Ext wa w6 := bxt
      have hs6 := hx6.size
      obtain ⟨hzl, hzs⟩ := app_smallB HREL.out hz6 (by simp) HSZ.out
      have HO6 : Hid (OwnRs w6 wa.heap.size 52 111 g6 q6 z6) := Lib.hid (ho6.rs.le (by first | omega | (simp <;> omega)))
      have HZS := Lib.hid hzs
      clear ho6 hz6 hzs HREL HSZ
      have hl6 := HLa.out.ext hx6; have hm6 := HMBa.out.ext hx6; have HD6 : Hid (Dr cb w w6) := Lib.hid (HDa.out.ext hx6)
      clear p0 pp0 p1 pp1 p2 pp2 p3 pp3
      clear r0 rr0
      clear m0 mm0 m1 mm1 m2 mm2 m3 mm3 m4 mm4 m5 mm5
      obtain ⟨p0, pp0⟩ := hl6.bx.at 0 _ rfl
      obtain ⟨p1, pp1⟩ := hl6.bx.at 1 _ rfl
      obtain ⟨p2, pp2⟩ := hl6.bx.at 2 _ rfl
      obtain ⟨p3, pp3⟩ := hl6.bx.at 3 _ rfl
      obtain ⟨r0, rr0⟩ := hl6.bv.at 0 _ rfl
      obtain ⟨m0, mm0⟩ := hm6.at 0 _ rfl
      obtain ⟨m1, mm1⟩ := hm6.at 1 _ rfl
      obtain ⟨m2, mm2⟩ := hm6.at 2 _ rfl
      obtain ⟨m3, mm3⟩ := hm6.at 3 _ rfl
      obtain ⟨m4, mm4⟩ := hm6.at 4 _ rfl
      obtain ⟨m5, mm5⟩ := hm6.at 5 _ rfl
      have sb36 : w1.heap.size < w6.heap.size := (by omega); have sb56 : w3.heap.size < w6.heap.size := (by omega); have sm6 : w5.heap.size < w6.heap.size := (by omega)
      have HL6 := Lib.hid hl6; have HM6 := Lib.hid hm6; clear hl6 hm6 HLa HMBa HDa hx6 hb6
      have hU : (undef : Value) = .tuple #[] := rfl
      have HN6 : Hid (LRel cb w w1.heap.size w3.heap.size (k + 1) (.slice go os.length qo) w6) := Lib.hid ⟨nm, va, nx, ga, qa, ms, gv, qv, vs, go, qo, os, rfl, hnm, hms, HTX.out, by omega, by omega, HL6.out, HD6.out⟩
      cases rok
      · skip
        go_wp2_with fail
        refine ⟨?_, ?measure⟩
        iterate 60 (try apply Exists.intro)
        refine ⟨?rel, rfl⟩
        case rel => exact ⟨k + 1, by omega, by go_num, HN6.out⟩
        case measure => simp [intOf]; omega
      · skip
        by_cases h1 : z6.length = 1
        · skip
          obtain ⟨y, rfl⟩ := List.length_eq_one_iff.1 h1
          clear h1
          have h14 : ((1 : Int) == 1) = true := rfl
          by_cases hk4 : 4 ≤ m.kind
          · skip
            obtain ⟨rp, hrp⟩ : ∃ r, telling vs m = r := ⟨_, rfl⟩
            have hrpl : rp.length ≤ 2 := by (rw [← hrp]; exact telling_len vs m)
            have HRP := Lib.hid hrp; clear hrp
            go_wp2_with fail
            refine (specTelling_any vs gv qv m _ (Rd.of_Own HL6.out.ov) (by omega) (by omega) (by omega) rp HRP).mono ?_
            rintro e w7 ⟨gt, qt, rfl, hot, hb7⟩
            have hs7 := hb7.size
            have HL7 := Lib.hid (HL6.out.ext hb7); have HM7 := Lib.hid (HM6.out.ext hb7); have HD7 : Hid (Dr cb w w7) := Lib.hid (HD6.out.ext hb7)
            have HY := Lib.hid (HO6.out.row.ext hb7); have HYM := Lib.hid ((HO6.out.msg y (List.mem_singleton.2 rfl)).ext hb7)
            obtain ⟨hyn, hym, hyt⟩ := HZS.out y (List.mem_singleton.2 rfl)
            have HYT := Lib.hid hyt; have HOT := Lib.hid hot; clear hyt hot HL6 HM6 HD6 HN6 HRP HZS
            have HYL : Hid (∀ k, foot (.slice y.ma y.msgs.length y.mc) = some k → wa.heap.size ≤ k ∧ k < w6.heap.size) := Lib.hid (fun k hk => (HO6.out.msg y (List.mem_singleton.2 rfl)).lt k hk)
            have HYB : Hid (∀ k, foot (.slice g6 [y].length q6) = some k → wa.heap.size ≤ k ∧ k < w6.heap.size) := Lib.hid (fun k hk => HO6.out.row.lt k hk)
            clear HO6
            go_wp2_with ((at_builtin; refine wpList_appL (B := w.heap.size) (v := (.slice go os.length qo)) rfl _ _ 61 rfl 131 i0 _ _ Try.underlying61 hi hy0 hy1 hy2 rfl (by decide) rfl HL7.out.oo gt rp.length qt (rp.flatMap DReply.cells) rfl (Rd.of_Own HOT.out) (fun u hu => by obtain ⟨x, -, hx⟩ := List.mem_flatMap.1 hu; exact DReply.one1 x u hx) (by omega) (by omega) (by omega) ?_))
            intro g8 q8 w8 hown hg hwl
            have hgs := hg.size
            have hl8 := HL7.out.app hg (g2 := g8) (q2 := q8) (os2 := os ++ rp) (by simpa using hown) (fun k hk => (hwl k ((foot_len _ _ _ _).trans hk)).imp id (fun e => by omega))
            have hn8 : ∀ k, foot (.slice g8 (os ++ rp).length q8) = some k → k < w5.heap.size ∨ k = w7.heap.size := fun k hk => (hwl k ((foot_len _ _ _ _).trans hk)).imp (fun e => HOF.out k e) id
            have hm8 := HM7.out.grown hg (fun e => by have := HOF.out _ e; omega)
            have hyr := HY.out.off hg (off2_of (fun k hk e => by have := (HYB.out k hk).1; have := HOF.out k e; omega))
            have hyo := HYM.out.off hg (off2_of (fun k hk e => by have := (HYL.out k hk).1; have := HOF.out k e; omega))
            have HD8 : Hid (Dr cb w w8) := Lib.hid (HD7.out.foot HL7.out.oo (Nat.le_refl _) hg)
            obtain ⟨gb, rfl, -⟩ := hyr.row (by have := hyr.cap.1; simp at this; omega)
            obtain ⟨b', o', hbo, hbl, hat⟩ := (Rd.of_Own hyr).ptr (by simp)
            cases hbo
            have hc8 := PBox.at hat 0 (by simp)
            simp only [Nat.zero_add, Nat.zero_mul, List.getElem_cons_zero] at hc8
            obtain ⟨y0, y1, y2, y3⟩ := hc8
            obtain ⟨os2, hos2⟩ : ∃ x, x = os ++ rp := ⟨_, rfl⟩
            have hol : os.length + rp.length = os2.length := by (rw [hos2]; simp)
            have hol2 : os2.length ≤ os.length + 2 := by omega
            rw [← hos2] at hl8 hn8
            have HL8 := Lib.hid hl8; have HN8 := Lib.hid hn8; have HM8 := Lib.hid hm8; have HYO := Lib.hid hyo
            clear p0 pp0 p1 pp1 p2 pp2 p3 pp3
            clear r0 rr0
            clear m0 mm0 m1 mm1 m2 mm2 m3 mm3 m4 mm4 m5 mm5
            obtain ⟨p0, pp0⟩ := hl8.bx.at 0 _ rfl
            obtain ⟨p1, pp1⟩ := hl8.bx.at 1 _ rfl
            obtain ⟨p2, pp2⟩ := hl8.bx.at 2 _ rfl
            obtain ⟨p3, pp3⟩ := hl8.bx.at 3 _ rfl
            obtain ⟨r0, rr0⟩ := hl8.bv.at 0 _ rfl
            obtain ⟨m0, mm0⟩ := hm8.at 0 _ rfl
            obtain ⟨m1, mm1⟩ := hm8.at 1 _ rfl
            obtain ⟨m2, mm2⟩ := hm8.at 2 _ rfl
            obtain ⟨m3, mm3⟩ := hm8.at 3 _ rfl
            obtain ⟨m4, mm4⟩ := hm8.at 4 _ rfl
            obtain ⟨m5, mm5⟩ := hm8.at 5 _ rfl
            have sb38 : w1.heap.size < w8.heap.size := (by omega); have sb58 : w3.heap.size < w8.heap.size := (by omega); have sm8 : w5.heap.size < w8.heap.size := (by omega)
            rw [hol]
            clear hl8 hn8 hm8 hyo hyr hown hg hwl hos2 hol hat hbl HL7 HM7 HD7 HY HYM HOT HYB HOF
            go_upto_region 13 with fail
            refine wp_world (fun wb hwb => ?_)
            have hwb2 : wb = putW w8 w1.heap.size 0 [.string y.name, .int .i64 y.validity, .int .i64 y.next, .slice y.ma y.msgs.length y.mc] := hwb
            clear hwb
            have hlb : LSt wb w.heap.size cb w1.heap.size w3.heap.size y.name y.validity y.next y.ma y.mc y.msgs gv qv vs g8 q8 os2 := by (rw [hwb2]; exact HL8.out.setBoxA HYO.out (fun e => by have := HYL.out _ e; omega) (fun e => by have := HYL.out _ e; omega) (fun k hk e => by have h1 := HYL.out k hk; have h2 := HN8.out k e; omega))
            have hmb2 : Bx wb w5.heap.size [.int .i64 m.kind, .int .i64 m.validity, .int .i64 m.uid, .int .i64 m.flags, .string m.name, .string m.text] := by (rw [hwb2]; exact HM8.out.putn _ _ (by omega))
            have HDb : Hid (Dr cb w wb) := Lib.hid (by (rw [hwb2]; exact Dr.putW (by omega) _ _ _ HD8.out))
            have hsb : w8.heap.size = wb.heap.size := by (rw [hwb2, putW_size])
            clear p0 pp0 p1 pp1 p2 pp2 p3 pp3
            clear r0 rr0
            clear m0 mm0 m1 mm1 m2 mm2 m3 mm3 m4 mm4 m5 mm5
            clear y0 y1 y2 y3 hwb2 HL8 HM8 HYO HD8
            obtain ⟨p0, pp0⟩ := hlb.bx.at 0 _ rfl
            obtain ⟨p1, pp1⟩ := hlb.bx.at 1 _ rfl
            obtain ⟨p2, pp2⟩ := hlb.bx.at 2 _ rfl
            obtain ⟨p3, pp3⟩ := hlb.bx.at 3 _ rfl
            obtain ⟨r0, rr0⟩ := hlb.bv.at 0 _ rfl
            obtain ⟨m0, mm0⟩ := hmb2.at 0 _ rfl
            obtain ⟨m1, mm1⟩ := hmb2.at 1 _ rfl
            obtain ⟨m2, mm2⟩ := hmb2.at 2 _ rfl
            obtain ⟨m3, mm3⟩ := hmb2.at 3 _ rfl
            obtain ⟨m4, mm4⟩ := hmb2.at 4 _ rfl
            obtain ⟨m5, mm5⟩ := hmb2.at 5 _ rfl
            have sb3b : w1.heap.size < wb.heap.size := (by omega); have sb5b : w3.heap.size < wb.heap.size := (by omega)
            have HLb := Lib.hid hlb; clear hlb hmb2
            obtain ⟨rk, hrk⟩ : ∃ r, (followed vs m).known = r := ⟨_, rfl⟩
            have hrkl : rk.length ≤ vs.length + 1 := by (rw [← hrk]; exact followed_len vs m)
            obtain ⟨rb, hrb⟩ : ∃ r, (followed vs m).ok = r := ⟨_, rfl⟩
            have HRK := Lib.hid hrk; have HRB := Lib.hid hrb; clear hrk hrb
            go_wp2_with fail
            refine (specFollowed_any vs gv qv m _ (Rd.of_Own HLb.out.ov) (by omega) (by omega) (by omega) rk HRK rb HRB).mono ?_
            rintro e w9 ⟨gk, qk, rfl, hok9, hb9⟩
            have hs9 := hb9.size
            have hl9 := HLb.out.ext hb9
            obtain ⟨t0, tt0⟩ := hl9.bv.at 0 _ rfl
            have HL9 := Lib.hid hl9; have HOK9 := Lib.hid hok9; have HD9 : Hid (Dr cb w w9) := Lib.hid (HDb.out.ext hb9)
            have HLO := Lib.hid HLb.out.oo.lt
            have HN9 : Hid (LRel cb w w1.heap.size w3.heap.size (k + 1) (.slice g8 os2.length q8) (w9.setCell ⟨w3.heap.size, 0, none⟩ (.slice gk rk.length qk))) := Lib.hid ⟨y.name, y.validity, y.next, y.ma, y.mc, y.msgs, gk, qk, rk, g8, q8, os2, rfl, hyn, hym, HYT.out, by omega, by omega, HL9.out.setView (N := wb.heap.size) (HOK9.out.le (by omega)) (by omega) (by omega) (fun k hk => (HLO.out k hk).2) (fun k hk => (HOK9.out.lt k hk).1), HD9.out.setCell (by show w.heap.size ≤ w3.heap.size; omega) _⟩
            clear hl9 hok9 HL9 HOK9 HD9 HLO HLb HDb HN8 HYL HYT HRK HRB
            go_wp2_with fail
            refine ⟨?_, ?measure⟩
            iterate 60 (try apply Exists.intro)
            refine ⟨?rel, rfl⟩
            case rel => exact ⟨k + 1, by omega, by go_num, HN9.out⟩
            case measure => simp [intOf]; omega
          · skip
            go_wp2_with fail
            refine ⟨?_, ?measure⟩
            iterate 60 (try apply Exists.intro)
            refine ⟨?rel, rfl⟩
            case rel => exact ⟨k + 1, by omega, by go_num, HN6.out⟩
            case measure => simp [intOf]; omega
        · skip
          have h14 : ((z6.length : Int) == 1) = false := by (simp; omega)
          go_wp2_with fail
          refine ⟨?_, ?measure⟩
          iterate 60 (try apply Exists.intro)
          refine ⟨?rel, rfl⟩
          case rel => exact ⟨k + 1, by omega, by go_num, HN6.out⟩
          case measure => simp [intOf]; omega
    · skip
      clear r0 s0 p0 q0 p1 q1 p2 q2 p3 q3
      have HO := Lib.hid HL.out.oo; clear HL HTX
      go_wp2_with fail
      refine (l1Once_any cb 4 _ (hcr.out.ext bxt) (by omega)).mono ?_
      rintro e w10 ⟨t, rfl, hda⟩
      have hsA := hda.size; have HO10 := Lib.hid ((HO.out.ext (w' := _) bxt).dr hda hB); have HD10 : Hid (Dr cb w w10) := Lib.hid ((HD.out.ext bxt).trans hda)
      clear HO HD hcr hda
      cases t
      · skip
        go_wp2_with fail
        refine bodyPost_ret (v := .slice go os.length qo) (by simp [results, Try.results107, go_sem, *]) rfl ?_
        exact ⟨go, qo, _, by first | omega | (simp; omega), by first | rfl | simp, HO10.out, HD10.out⟩
      · skip
        go_wp2_with fail
        refine (l1Below_any cb _ _ (HD10.out.cur.ext bxt) (by omega)).mono ?_
        rintro e w11 ⟨x, ⟨x0, x1, -⟩, rfl, hd11⟩
        obtain ⟨kk, rfl⟩ : ∃ k : Nat, x = k := ⟨x.toNat, by omega⟩
        have hkk : kk ≤ os.length := by (have := x1 (by omega); omega)
        clear x0 x1
        have hs11 := hd11.size; have HO11 := Lib.hid ((HO10.out.ext (w' := _) bxt).dr hd11 hB); have HD11 : Hid (Dr cb w w11) := Lib.hid ((HD10.out.ext bxt).trans hd11)
        clear HO10 HD10 hd11
        have hqc := HO11.out.cap
        rcases Nat.eq_zero_or_pos qo with hq0 | hq0
        · skip
          have hos0 : os = [] := List.eq_nil_of_length_eq_zero (by omega)
          have hk0 : kk = 0 := by (have h := congrArg List.length hos0; simp at h; omega)
          subst hos0; subst hq0; subst hk0
          clear hos hqc
          go_wp2_with ((at_builtin; refine wpList_appL (B := w.heap.size) (v := (.slice (some ⟨w11.heap.size, 0, none⟩) 0 0)) (n := 0) (xs := []) rfl _ _ 61 rfl 131 i0 _ _ Try.underlying61 hi hy0 hy1 hy2 rfl (by decide) rfl (Own.none0 _) go 0 0 _ rfl (Rd.none0A _ _) (fun u hu => absurd hu (by simp)) (by omega) (by omega) smx ?_))
          intro g12 q12 w12 hown hg hwl
          have hgs := hg.size; (try simp at hgs)
          have hown' : Own w12 w.heap.size 131 6 (.slice g12 0 q12) 0 [] := by simpa using hown
          have HD12 : Hid (Dr cb w w12) := Lib.hid ((HD11.out.ext bxt).grown hg (fun x hx => by simp [foot] at hx))
          have HO12 := Lib.hid ((HO11.out.ext (w' := _) bxt).off hg (off2_of (fun k hk e => by simp [foot] at e)))
          have HF12 : Hid (∀ k, foot (.slice g12 0 q12) = some k → w11.heap.size ≤ k) := Lib.hid (fun k hk => (hwl k ((foot_len _ _ _ _).trans hk)).elim (fun e => by simp [foot] at e) (fun e => by (try simp at e); omega))
          have HN12 := Lib.hid hown'; have HL11 := Lib.hid HO11.out.lt; clear hown hown' hg hwl HO11 HD11
          go_wp2_with fail
          refine (l14Right_any cb _ (HD12.out.cur.ext bxt)).mono ?_
          rintro e w13 ⟨r, rfl, hd13⟩
          have hs13 := hd13.size; have HO13 := Lib.hid ((HO12.out.ext (w' := _) bxt).dr hd13 hB); have HN13 := Lib.hid ((HN12.out.ext (w' := _) bxt).dr hd13 hB); have HD13 : Hid (Dr cb w w13) := Lib.hid ((HD12.out.ext bxt).trans hd13)
          clear HO12 HN12 HD12 hd13
          go_wp2_with ((at_builtin; refine wpList_appL (B := w.heap.size) (v := (.slice g12 0 q12))  rfl _ _ 61 rfl 131 i0 _ _ Try.underlying61 hi hy0 hy1 hy2 rfl (by decide) rfl (HN13.out.ext bxt) (some ⟨w13.heap.size, 0, none⟩) 1 1 (DReply.cells r) rfl (Rd.lit _ _ _ _ 6 _ (by simp) rfl (by omega)) (DReply.one1 r) (by omega) (by omega) smx ?_))
          intro g14 q14 w14 hown hg hwl
          have hgs2 := hg.size; (try simp at hgs2)
          have HD14 : Hid (Dr cb w w14) := Lib.hid ((HD13.out.ext bxt).grown hg (fun x hx => (HN13.out.lt x hx).1))
          have HO14 := Lib.hid ((HO13.out.ext (w' := _) bxt).off hg (off2_of (fun k hk e => by have := (HL11.out k hk).2; have := HF12.out k e; omega)))
          have HF14 : Hid (∀ k, foot (.slice g14 (0 + 1) q14) = some k → w11.heap.size ≤ k) := Lib.hid (fun k hk => (hwl k ((foot_len _ _ _ _).trans hk)).elim (fun e => HF12.out k e) (fun e => by (try simp at e); omega))
          have HN14 := Lib.hid hown; clear hown hg hwl HO13 HN13 HD13 HF12 HL11
          have HR2 := Lib.hid (Rd.none0A (s := 6) w14 go)
          go_wp2_with ((at_builtin; refine wpList_appL (B := w.heap.size) (v := (.slice g14 (0 + 1) q14))  rfl _ _ 61 rfl 131 i0 _ _ Try.underlying61 hi hy0 hy1 hy2 rfl (by decide) rfl HN14.out go 0 0 _ rfl HR2.out (fun u hu => absurd hu (by simp)) (by omega) (by omega) smx ?_))
          intro g15 q15 w15 hown hg hwl
          have HD15 : Hid (Dr cb w w15) := Lib.hid (HD14.out.grown hg (fun x hx => (HN14.out.lt x hx).1))
          clear hg hwl HO14 HD14 HF14 HR2 HN14
          go_wp2_with fail
          refine bodyPost_ret (v := .slice g15 (0 + 1 + (0)) q15) (by simp [results, Try.results107, go_sem, *]) rfl ?_
          exact ⟨g15, q15, [r], by simp, rfl, by simpa using hown, HD15.out⟩
        · skip
          obtain ⟨gx, rfl, -⟩ := HO11.out.row (by omega)
          have h1 : (0 : Int) ≤ (kk : Int) := by omega
          have h5 : (kk : Int) ≤ (os.length : Int) := by omega
          have h6 : (kk : Int) ≤ (qo : Int) := by omega
          have h7 : (os.length : Int) ≤ (qo : Int) := by omega
          have HR1 := Lib.hid ((Rd.of_Own HO11.out).takeAt DReply.cells_len kk hkk)
          go_wp2_with ((at_builtin; refine wpList_appL (B := w.heap.size) (v := (.slice (some ⟨w11.heap.size, 0, none⟩) 0 0)) (n := 0) (xs := []) rfl _ _ 61 rfl 131 i0 _ _ Try.underlying61 hi hy0 hy1 hy2 rfl (by decide) rfl (Own.none0 _) (some ⟨gx, 0, none⟩) kk qo _ rfl (HR1.out.ext bxt) (one_flat DReply.one1 _) (by omega) (by omega) smx ?_))
          intro g12 q12 w12 hown hg hwl
          have hgs := hg.size; (try simp at hgs)
          have hown' : Own w12 w.heap.size 131 6 (.slice g12 kk q12) kk ((os.take kk).flatMap DReply.cells) := by simpa using hown
          have HD12 : Hid (Dr cb w w12) := Lib.hid ((HD11.out.ext bxt).grown hg (fun x hx => by simp [foot] at hx))
          have HO12 := Lib.hid ((HO11.out.ext (w' := _) bxt).off hg (off2_of (fun k hk e => by simp [foot] at e)))
          have HF12 : Hid (∀ k, foot (.slice g12 kk q12) = some k → w11.heap.size ≤ k) := Lib.hid (fun k hk => (hwl k ((foot_len _ _ _ _).trans hk)).elim (fun e => by simp [foot] at e) (fun e => by (try simp at e); omega))
          have HN12 := Lib.hid hown'; have HL11 := Lib.hid HO11.out.lt; clear hown hown' hg hwl HO11 HD11
          go_wp2_with fail
          refine (l14Right_any cb _ (HD12.out.cur.ext bxt)).mono ?_
          rintro e w13 ⟨r, rfl, hd13⟩
          have hs13 := hd13.size; have HO13 := Lib.hid ((HO12.out.ext (w' := _) bxt).dr hd13 hB); have HN13 := Lib.hid ((HN12.out.ext (w' := _) bxt).dr hd13 hB); have HD13 : Hid (Dr cb w w13) := Lib.hid ((HD12.out.ext bxt).trans hd13)
          clear HO12 HN12 HD12 hd13
          go_wp2_with ((at_builtin; refine wpList_appL (B := w.heap.size) (v := (.slice g12 kk q12))  rfl _ _ 61 rfl 131 i0 _ _ Try.underlying61 hi hy0 hy1 hy2 rfl (by decide) rfl (HN13.out.ext bxt) (some ⟨w13.heap.size, 0, none⟩) 1 1 (DReply.cells r) rfl (Rd.lit _ _ _ _ 6 _ (by simp) rfl (by omega)) (DReply.one1 r) (by omega) (by omega) smx ?_))
          intro g14 q14 w14 hown hg hwl
          have hgs2 := hg.size; (try simp at hgs2)
          have HD14 : Hid (Dr cb w w14) := Lib.hid ((HD13.out.ext bxt).grown hg (fun x hx => (HN13.out.lt x hx).1))
          have HO14 := Lib.hid ((HO13.out.ext (w' := _) bxt).off hg (off2_of (fun k hk e => by have := (HL11.out k hk).2; have := HF12.out k e; omega)))
          have HF14 : Hid (∀ k, foot (.slice g14 (kk + 1) q14) = some k → w11.heap.size ≤ k) := Lib.hid (fun k hk => (hwl k ((foot_len _ _ _ _).trans hk)).elim (fun e => HF12.out k e) (fun e => by (try simp at e); omega))
          have HN14 := Lib.hid hown; clear hown hg hwl HO13 HN13 HD13 HF12 HL11
          have HR2 := Lib.hid (Rd.dropAt (A := (if qo = kk then (some ⟨gx, 0, none⟩ : Option Addr) else some ⟨gx, kk * 6, none⟩)) DReply.cells_len (Rd.of_Own HO14.out) kk hkk (fun hlt => by rw [if_neg (by omega), Nat.zero_add]) _ _ rfl rfl)
          go_wp2_with ((at_builtin; refine wpList_appL (B := w.heap.size) (v := (.slice g14 (kk + 1) q14))  rfl _ _ 61 rfl 131 i0 _ _ Try.underlying61 hi hy0 hy1 hy2 rfl (by decide) rfl HN14.out (if qo = kk then (some ⟨gx, 0, none⟩ : Option Addr) else some ⟨gx, kk * 6, none⟩) (os.length - kk) (qo - kk) _ rfl HR2.out (one_flat DReply.one1 _) (by omega) (by omega) smx ?_))
          all_goals intro g15 q15 w15 hown hg hwl
          all_goals have HD15 : Hid (Dr cb w w15) := Lib.hid (HD14.out.grown hg (fun x hx => (HN14.out.lt x hx).1))
          all_goals clear hg hwl HO14 HD14 HF14 HR2 HN14
          all_goals go_wp2_with fail
          all_goals refine bodyPost_ret (v := .slice g15 (kk + 1 + ((os.length - kk))) q15) (by simp [results, Try.results107, go_sem, *]) rfl ?_
          all_goals have hlen : (os.take kk ++ [r] ++ os.drop kk).length = kk + 1 + ((os.length - kk)) := by (simp; omega)
          all_goals exact ⟨g15, q15, os.take kk ++ [r] ++ os.drop kk, by omega, by rw [hlen], by (rw [hlen]; simpa using hown), HD15.out⟩
end Go.Proofs.Ytpameapajhbdnaa
