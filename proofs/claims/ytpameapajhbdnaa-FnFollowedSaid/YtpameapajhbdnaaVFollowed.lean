/-
  The law FnFollowed: its walk.
-/
import Derived.Test.YtpameapajhbdnaaDraw18
import Derived.Test.YtpameapajhbdnaaDraw16
import Derived.Test.YtpameapajhbdnaaWFollowQ
import Derived.Test.YtpameapajhbdnaaWSameView
import Derived.Test.YtpameapajhbdnaaWViewOk
import Derived.Test.YtpameapajhbdnaaWViewOf
import Derived.Test.YtpameapajhbdnaaWFollowed
import Derived.Test.YtpameapajhbdnaaXDr
import Derived.Test.YtpameapajhbdnaaXOwn
import Derived.Test.YtpameapajhbdnaaXKeep
import Derived.Deep.RegionHeld3
import Derived.Deep.DeepCutAuto
import Derived.BigQuiet
namespace Go.Proofs.Ytpameapajhbdnaa
open Go.RowKit
set_option linter.unusedVariables false
set_option linter.unusedSimpArgs false

theorem sMkF {W w : World} (h3 : Below W.heap.size W w) : Below W.heap.size W w ∧ (∀ b o, b < W.heap.size → w.cell? ⟨b, o, none⟩ = W.cell? ⟨b, o, none⟩) := ⟨h3, (bcell h3).1⟩
theorem followed_app {l : List DBox} {m : DCommit} (h : AppliesP l m) (h4 : 4 ≤ m.kind) : ∃ i : Nat, ∃ hi : i < l.length, ∃ hi2 : i < (appD l m).length, boxWith m.validity l = i ∧ followed (l[i].msgs.map DMsg.seen) m = ⟨(appD l m)[i].msgs.map DMsg.seen, true⟩ := by
  obtain ⟨hb, hm, hf⟩ := h
  obtain ⟨i, hi, h1, h3, h44, h56⟩ := hf.2 (by omega)
  have hat : atD l m = i := by unfold atD; omega
  have ha : appD l m = l.set i (newD l[i] m) := by
    unfold appD; rw [if_neg (by omega), if_neg (by omega), if_neg (by omega), hat, theD_of hi]
  have hbq := ((boxes_iff l).1 hb).1 _ (List.getElem_mem hi)
  have hi2 : i < (appD l m).length := by rw [ha]; simpa using hi
  have hx : (appD l m)[i] = newD l[i] m := by simp [ha]
  refine ⟨i, hi, hi2, h1, ?_⟩
  rw [followed_box hbq hm h4 h44 h56, hx]
/-- the same, in the words of drawn mailboxes -/
theorem followed_zs {zs z2 : List PBox} {m : DCommit} {rr : List DBox} (h : AppRel (zs.map PBox.box) m rr true) (hz : z2.map PBox.box = rr) (h4 : 4 ≤ m.kind) : ∃ i : Nat, ∃ hi : i < zs.length, ∃ hi2 : i < z2.length, boxWith m.validity (zs.map PBox.box) = i ∧ followed (zs[i].msgs.map DMsg.seen) m = ⟨z2[i].msgs.map DMsg.seen, true⟩ := by
  obtain ⟨i, hi, hi2, h1, h2⟩ := followed_app (yes_of h.1) h4
  have hr : appD (zs.map PBox.box) m = z2.map PBox.box := by have h3 := h.2; simp at h3; rw [h3, hz]
  have hj : i < z2.length := by rw [hr] at hi2; simpa using hi2
  have hk : i < zs.length := by simpa using hi
  refine ⟨i, hk, hj, h1, ?_⟩
  have e1 : (zs.map PBox.box)[i] = zs[i].box := by simp
  have e2 : (appD (zs.map PBox.box) m)[i] = z2[i].box := by simp [hr]
  rw [e1, e2] at h2
  exact h2
set_option maxRecDepth 100000 in
set_option maxHeartbeats 8000000 in
theorem fnFollowed_walk (l : List Int) (a : Option Addr) (c : Nat) (w : World) : MaxLen w → Rd w a c 1 l.length (l.flatMap byteCells) → (∀ y ∈ l, 0 ≤ y ∧ y ≤ 255) →
    Calls Try.prog 9 #[.slice a l.length c] w fun e w' => e = .returned (.bool true) ∧ Below w.heap.size w w' := by
  intro hmx R hb
  have hln : l.length ≤ 9223372036854775807 := Nat.le_trans R.nc R.cm
  have HMX := Lib.hid hmx
  have HR := Lib.hid R
  have HB := Lib.hid hb
  clear R hb hmx
  obtain ⟨d, hd⟩ := boolOf (1048576 < l.length)
  have HDB := Lib.hid hd
  clear hd
  go_enter Try.func9, Try.ntmps9
  go_wp2_with fail
  refine (big_any l.length a c _ hln d HDB).mono ?_
  rintro e w1 ⟨rfl, rfl⟩
  cases d
  rotate_left
  · go_wp2_with fail
    go_ret
    exact ⟨rfl, bxt⟩
  have hl : l.length ≤ 1048576 := by have := no_of HDB.out; omega
  go_wp2_with fail
  refine (drawApplied_any l a c _ (HR.out.ext bxt) HB.out hl).mono ?_
  rintro e w1 ⟨g, q, zs, m, hzl, hsm, hmn, hmt, rfl, ho, hb1⟩
  have HB1 := Lib.hid (ho.bq hzl hsm)
  have HSM := Lib.hid hsm
  clear ho hsm
  have hzz1 := hb1.size; (try simp at hzz1)
  obtain ⟨hc1, hf1⟩ := bcell hb1
  obtain ⟨rr, rok, hrel⟩ := appRel_ex (zs.map PBox.box) m
  have HREL := Lib.hid hrel
  clear hrel
  obtain ⟨k, hk⟩ : ∃ k, boxWith m.validity (zs.map PBox.box) = k := ⟨_, rfl⟩
  have HK := Lib.hid hk
  clear hk
  go_wp2_with fail
  refine (specBoxWith_any zs g q m.validity _ (HB1.out.rd.ext bxt) k HK).mono ?_
  rintro e w4 ⟨rfl, hw4⟩; subst hw4
  go_wp2_with fail
  refine (specApplied_bq zs g q _ (HB1.out.ext bxt) m hmn hmt rr rok HREL).mono ?_
  rintro e w2 ⟨g2, q2, z2, rfl, ho2, hz2, hb2⟩
  have HB2 := Lib.hid (ho2.bq (app_smallB HREL.out hz2 hzl HSM.out))
  have HZ2 := Lib.hid hz2
  clear ho2 hz2
  have hzz2 := hb2.size; (try simp at hzz2)
  obtain ⟨hc2, hf2⟩ := bcell hb2
  have hs2_0 : w1.heap.size < w2.heap.size := by (have hss := hb2.size; first | omega | (simp at hss <;> omega))
  cases rok
  · skip
    go_wp2_with fail
    refine (drawFollowed_any l a c _ (HR.out.ext bxt) HB.out hl).mono ?_
    rintro e w3 ⟨gv, qv, vs, n, hvl, hnn, hnt, rfl, hov, hb3⟩
    have HV := Lib.hid (Rd.of_Own hov); clear hov
    obtain ⟨rk, hrk⟩ : ∃ r, (followed vs n).known = r := ⟨_, rfl⟩
    obtain ⟨rb, hrb⟩ : ∃ r, (followed vs n).ok = r := ⟨_, rfl⟩
    have HRK := Lib.hid hrk; have HRB := Lib.hid hrb; clear hrk hrb
    have hzz3 := hb3.size; (try simp at hzz3)
    obtain ⟨hc3, hf3⟩ := bcell hb3
    go_wp2_with fail
    refine (implFollowed_any vs gv qv n _ (HV.out.ext bxt) (by omega) (HMX.out.ext bxt) (by omega) (by omega) rk HRK rb HRB).mono ?_
    rintro e w4 ⟨g4, q4, rfl, ho4, hb4⟩
    have HX4 := Lib.hid (Rd.of_Own ho4); clear ho4
    have hzz4 := hb4.size; (try simp at hzz4)
    obtain ⟨hc4, hf4⟩ := bcell hb4
    have hs4_0 : w3.heap.size < w4.heap.size := by (have hss := hb4.size; first | omega | (simp at hss <;> omega))
    have hs4_1 : w3.heap.size + 1 < w4.heap.size := by (have hss := hb4.size; first | omega | (simp at hss <;> omega))
    go_wp2_with fail
    refine (specFollowed_any vs gv qv n _ (HV.out.ext bxt) (by omega) (by omega) (by omega) rk HRK rb HRB).mono ?_
    rintro e w5 ⟨g5, q5, rfl, ho5, hb5⟩
    clear ho5
    have hzz5 := hb5.size; (try simp at hzz5)
    obtain ⟨hc5, hf5⟩ := bcell hb5
    have hs5_0 : w3.heap.size < w5.heap.size := by (have hss := hb5.size; first | omega | (simp at hss <;> omega))
    have hs5_1 : w3.heap.size + 1 < w5.heap.size := by (have hss := hb5.size; first | omega | (simp at hss <;> omega))
    have hs5_2 : w4.heap.size < w5.heap.size := by (have hss := hb5.size; first | omega | (simp at hss <;> omega))
    cases rb
    · skip
      have hrv := Lib.hid (followed_bad HRB.out)
      go_wp2_with fail
      refine (specSameView_any rk _ _ vs _ _ _ (HX4.out.ext bxt) (HV.out.ext bxt) true (Lib.hid (by simp [← HRK.out, hrv.out]))).mono ?_
      rintro e w6 ⟨rfl, hb6⟩
      go_wp2_with fail
      go_ret
      exact ⟨rfl, bxt⟩
    · skip
      have hrv := Lib.hid (followed_ok HRB.out)
      go_wp2_with fail
      refine (implViewOk_any rk _ _ _ (HX4.out.ext bxt) true (Lib.hid ⟨fun _ => HRK.out ▸ hrv.out, fun _ => rfl⟩)).mono ?_
      rintro e w6 ⟨rfl, hb6⟩
      go_wp2_with fail
      go_ret
      exact ⟨rfl, bxt⟩
  by_cases hk0 : k < 0
  · skip
    have p0 : decide (k < 0) = true := decide_eq_true hk0
    go_wp2_with fail
    refine (drawFollowed_any l a c _ (HR.out.ext bxt) HB.out hl).mono ?_
    rintro e w3 ⟨gv, qv, vs, n, hvl, hnn, hnt, rfl, hov, hb3⟩
    have HV := Lib.hid (Rd.of_Own hov); clear hov
    obtain ⟨rk, hrk⟩ : ∃ r, (followed vs n).known = r := ⟨_, rfl⟩
    obtain ⟨rb, hrb⟩ : ∃ r, (followed vs n).ok = r := ⟨_, rfl⟩
    have HRK := Lib.hid hrk; have HRB := Lib.hid hrb; clear hrk hrb
    have hzz3 := hb3.size; (try simp at hzz3)
    obtain ⟨hc3, hf3⟩ := bcell hb3
    go_wp2_with fail
    refine (implFollowed_any vs gv qv n _ (HV.out.ext bxt) (by omega) (HMX.out.ext bxt) (by omega) (by omega) rk HRK rb HRB).mono ?_
    rintro e w4 ⟨g4, q4, rfl, ho4, hb4⟩
    have HX4 := Lib.hid (Rd.of_Own ho4); clear ho4
    have hzz4 := hb4.size; (try simp at hzz4)
    obtain ⟨hc4, hf4⟩ := bcell hb4
    have hs4_0 : w3.heap.size < w4.heap.size := by (have hss := hb4.size; first | omega | (simp at hss <;> omega))
    have hs4_1 : w3.heap.size + 1 < w4.heap.size := by (have hss := hb4.size; first | omega | (simp at hss <;> omega))
    go_wp2_with fail
    refine (specFollowed_any vs gv qv n _ (HV.out.ext bxt) (by omega) (by omega) (by omega) rk HRK rb HRB).mono ?_
    rintro e w5 ⟨g5, q5, rfl, ho5, hb5⟩
    clear ho5
    have hzz5 := hb5.size; (try simp at hzz5)
    obtain ⟨hc5, hf5⟩ := bcell hb5
    have hs5_0 : w3.heap.size < w5.heap.size := by (have hss := hb5.size; first | omega | (simp at hss <;> omega))
    have hs5_1 : w3.heap.size + 1 < w5.heap.size := by (have hss := hb5.size; first | omega | (simp at hss <;> omega))
    have hs5_2 : w4.heap.size < w5.heap.size := by (have hss := hb5.size; first | omega | (simp at hss <;> omega))
    cases rb
    · skip
      have hrv := Lib.hid (followed_bad HRB.out)
      go_wp2_with fail
      refine (specSameView_any rk _ _ vs _ _ _ (HX4.out.ext bxt) (HV.out.ext bxt) true (Lib.hid (by simp [← HRK.out, hrv.out]))).mono ?_
      rintro e w6 ⟨rfl, hb6⟩
      go_wp2_with fail
      go_ret
      exact ⟨rfl, bxt⟩
    · skip
      have hrv := Lib.hid (followed_ok HRB.out)
      go_wp2_with fail
      refine (implViewOk_any rk _ _ _ (HX4.out.ext bxt) true (Lib.hid ⟨fun _ => HRK.out ▸ hrv.out, fun _ => rfl⟩)).mono ?_
      rintro e w6 ⟨rfl, hb6⟩
      go_wp2_with fail
      go_ret
      exact ⟨rfl, bxt⟩
  by_cases h4 : m.kind < 4
  · skip
    have p0 : decide (k < 0) = false := decide_eq_false hk0
    have p4 : decide (m.kind < 4) = true := decide_eq_true h4
    go_wp2_with fail
    refine (drawFollowed_any l a c _ (HR.out.ext bxt) HB.out hl).mono ?_
    rintro e w3 ⟨gv, qv, vs, n, hvl, hnn, hnt, rfl, hov, hb3⟩
    have HV := Lib.hid (Rd.of_Own hov); clear hov
    obtain ⟨rk, hrk⟩ : ∃ r, (followed vs n).known = r := ⟨_, rfl⟩
    obtain ⟨rb, hrb⟩ : ∃ r, (followed vs n).ok = r := ⟨_, rfl⟩
    have HRK := Lib.hid hrk; have HRB := Lib.hid hrb; clear hrk hrb
    have hzz3 := hb3.size; (try simp at hzz3)
    obtain ⟨hc3, hf3⟩ := bcell hb3
    go_wp2_with fail
    refine (implFollowed_any vs gv qv n _ (HV.out.ext bxt) (by omega) (HMX.out.ext bxt) (by omega) (by omega) rk HRK rb HRB).mono ?_
    rintro e w4 ⟨g4, q4, rfl, ho4, hb4⟩
    have HX4 := Lib.hid (Rd.of_Own ho4); clear ho4
    have hzz4 := hb4.size; (try simp at hzz4)
    obtain ⟨hc4, hf4⟩ := bcell hb4
    have hs4_0 : w3.heap.size < w4.heap.size := by (have hss := hb4.size; first | omega | (simp at hss <;> omega))
    have hs4_1 : w3.heap.size + 1 < w4.heap.size := by (have hss := hb4.size; first | omega | (simp at hss <;> omega))
    go_wp2_with fail
    refine (specFollowed_any vs gv qv n _ (HV.out.ext bxt) (by omega) (by omega) (by omega) rk HRK rb HRB).mono ?_
    rintro e w5 ⟨g5, q5, rfl, ho5, hb5⟩
    clear ho5
    have hzz5 := hb5.size; (try simp at hzz5)
    obtain ⟨hc5, hf5⟩ := bcell hb5
    have hs5_0 : w3.heap.size < w5.heap.size := by (have hss := hb5.size; first | omega | (simp at hss <;> omega))
    have hs5_1 : w3.heap.size + 1 < w5.heap.size := by (have hss := hb5.size; first | omega | (simp at hss <;> omega))
    have hs5_2 : w4.heap.size < w5.heap.size := by (have hss := hb5.size; first | omega | (simp at hss <;> omega))
    cases rb
    · skip
      have hrv := Lib.hid (followed_bad HRB.out)
      go_wp2_with fail
      refine (specSameView_any rk _ _ vs _ _ _ (HX4.out.ext bxt) (HV.out.ext bxt) true (Lib.hid (by simp [← HRK.out, hrv.out]))).mono ?_
      rintro e w6 ⟨rfl, hb6⟩
      go_wp2_with fail
      go_ret
      exact ⟨rfl, bxt⟩
    · skip
      have hrv := Lib.hid (followed_ok HRB.out)
      go_wp2_with fail
      refine (implViewOk_any rk _ _ _ (HX4.out.ext bxt) true (Lib.hid ⟨fun _ => HRK.out ▸ hrv.out, fun _ => rfl⟩)).mono ?_
      rintro e w6 ⟨rfl, hb6⟩
      go_wp2_with fail
      go_ret
      exact ⟨rfl, bxt⟩
  obtain ⟨i, hi, hi2, hki, hfo⟩ := followed_zs HREL.out HZ2.out (by omega)
  have hkk : k = (i : Int) := HK.out.symm.trans hki
  subst hkk
  clear hki
  have p0 : decide ((i : Int) < 0) = false := decide_eq_false hk0
  have p4 : decide (m.kind < 4) = false := decide_eq_false h4
  obtain ⟨vs, hvs⟩ : ∃ r, zs[i].msgs.map DMsg.seen = r := ⟨_, rfl⟩
  obtain ⟨rk, hrk⟩ : ∃ r, z2[i].msgs.map DMsg.seen = r := ⟨_, rfl⟩
  have HFK : Hid ((followed vs m).known = rk) := Lib.hid (by rw [← hvs, hfo, ← hrk])
  have HFO : Hid ((followed vs m).ok = true) := Lib.hid (by rw [← hvs, hfo])
  have HVO : Hid (ViewOkP rk) := Lib.hid (HFK.out ▸ followed_ok HFO.out)
  have hml : zs[i].msgs.length ≤ 6 := (HB1.out.sm _ (List.getElem_mem hi)).2.1
  have hml2 : z2[i].msgs.length ≤ 6 := (HB2.out.sm _ (List.getElem_mem hi2)).2.1
  have hvl : vs.length ≤ 6 := by rw [← hvs]; simpa using hml
  have hrl : rk.length ≤ 6 := by rw [← hrk]; simpa using hml2
  have HVS := Lib.hid hvs; have HRK := Lib.hid hrk; clear hvs hrk hfo hk0 h4
  have HE1 : Hid (Ext w1 w2) := bxt
  obtain ⟨bs, os, rfl, hbs, hats⟩ := HB1.out.rd.ptr (by omega)
  have HATS := Lib.hid (hats.ext hbs HE1.out)
  have hbsw : bs < w2.heap.size := Nat.lt_of_lt_of_le hbs HE1.out.size
  obtain ⟨b2, o2, rfl, hbb2, hat2⟩ := HB2.out.rd.ptr (by omega)
  have HAT2 := Lib.hid hat2
  clear hats hat2
  have i1 : (0 : Int) ≤ (i : Int) := by omega
  have i2 : (i : Int) < (zs.length : Int) := by omega
  have i3 : (i : Int) < (z2.length : Int) := by omega
  go_upto_region 11 with fail
  refine wp_world (fun w6 hw6 => ?_)
  have hb6 : Ext w2 w6 := by (rw [hw6]; exact bxt)
  have cM0 : w6.cell? ⟨w1.heap.size, 0, none⟩ = some (.int .i64 m.kind) := by (rw [hw6]; exact kpx)
  have cM1 : w6.cell? ⟨w1.heap.size, 1, none⟩ = some (.int .i64 m.validity) := by (rw [hw6]; exact kpx)
  have cM2 : w6.cell? ⟨w1.heap.size, 2, none⟩ = some (.int .i64 m.uid) := by (rw [hw6]; exact kpx)
  have cM3 : w6.cell? ⟨w1.heap.size, 3, none⟩ = some (.int .i64 m.flags) := by (rw [hw6]; exact kpx)
  have cM4 : w6.cell? ⟨w1.heap.size, 4, none⟩ = some (.string m.name) := by (rw [hw6]; exact kpx)
  have cM5 : w6.cell? ⟨w1.heap.size, 5, none⟩ = some (.string m.text) := by (rw [hw6]; exact kpx)
  have hMW : w1.heap.size < w6.heap.size := Nat.lt_of_lt_of_le hs2_0 hb6.size
  clear hw6 hc1 hf1 hc2 hf2
  have hbs6 : bs < w6.heap.size := Nat.lt_of_lt_of_le hbsw hb6.size
  have hb26 : b2 < w6.heap.size := Nat.lt_of_lt_of_le hbb2 hb6.size
  obtain ⟨f0, f1, f2, f3⟩ := PBox.at (HATS.out.ext hbsw hb6) i hi
  go_cut [14, 15] (fun v u wx => CutR 129 2 rk.length (rk.flatMap DSeen.cells) (fun ga qa => [.slice ga rk.length qa]) w6 v wx ∧ u = .bool true)
  case first =>
    go_region_held3 (fun w' => Below w6.heap.size w6 w' ∧ (∀ b o, b < w6.heap.size → w'.cell? ⟨b, o, none⟩ = w6.cell? ⟨b, o, none⟩)) (first | with_reducible exact sBeg _ | with_reducible exact sExt (by assumption) (by assumption) | (refine sMkF ?_; exact bxt)) ((first | (go_at_call 52; refine (implViewOf_any zs[i].name zs[i].validity zs[i].next zs[i].msgs _ _ _ ((HB1.out.rdm _ (List.getElem_mem hi)).ext (Below.ext HE1.out (Below.ext hb6 bxt))) (by omega) vs HVS).mono ?_; rintro e w7 ⟨gx7, qx7, rfl, hown, hb7⟩; have HX7 := Lib.hid (Own.of_row hown); clear hown; have hzz7 := hb7.size; (try simp at hzz7); (try (have hx7_0 : w6.heap.size < w7.heap.size := hzz7; (first | have hy7_0 : w7.cell? ⟨w6.heap.size, 0, none⟩ = some (.slice none 0 0) := (hb7.cell (p := ⟨w6.heap.size, 0, none⟩) (by simp)).trans (keep_new rfl) | have hy7_0 : w7.cell? ⟨w6.heap.size, 0, none⟩ = some (.slice none 0 0) := (hb7.cell (p := ⟨w6.heap.size, 0, none⟩) (by simp)).trans (keep_newd rfl)); (first | have hv7_0 : w7.frozen? ⟨w6.heap.size, 0, none⟩ = false := (hb7.frozen (p := ⟨w6.heap.size, 0, none⟩) (by simp)).trans (keepf_new (by simp)) | have hv7_0 : w7.frozen? ⟨w6.heap.size, 0, none⟩ = false := (hb7.frozen (p := ⟨w6.heap.size, 0, none⟩) (by simp)).trans (keepf_newd (by simp)))))) | (go_at_call 48; refine (implFollowed_any vs _ _ m _ ((Rd.of_Own HX7.out).ext bxt) (by omega) (HMX.out.ext bxt) (by omega) (by omega) rk HFK true HFO).mono ?_; rintro e w8 ⟨ga8, qa8, rfl, hown, hb8⟩; have HX8 := Lib.hid hown; clear hown; have hzz8 := hb8.size; (try simp at hzz8); (try (have hx8_0 : w6.heap.size < w8.heap.size := Nat.lt_of_lt_of_le hx7_0 hzz8; have hy8_0 : w8.cell? ⟨w6.heap.size, 0, none⟩ = some (.slice none 0 0) := (hb8.cell (p := ⟨w6.heap.size, 0, none⟩) hx7_0).trans hy7_0; have hv8_0 : w8.frozen? ⟨w6.heap.size, 0, none⟩ = false := (hb8.frozen (p := ⟨w6.heap.size, 0, none⟩) hx7_0).trans hv7_0)); (try (have hx8_1 : w7.heap.size < w8.heap.size := hzz8; (first | have hy8_1 : w8.cell? ⟨w7.heap.size, 0, none⟩ = some (.slice none 0 0) := (hb8.cell (p := ⟨w7.heap.size, 0, none⟩) (by simp)).trans (keep_new rfl) | have hy8_1 : w8.cell? ⟨w7.heap.size, 0, none⟩ = some (.slice none 0 0) := (hb8.cell (p := ⟨w7.heap.size, 0, none⟩) (by simp)).trans (keep_newd rfl)); (first | have hv8_1 : w8.frozen? ⟨w7.heap.size, 0, none⟩ = false := (hb8.frozen (p := ⟨w7.heap.size, 0, none⟩) (by simp)).trans (keepf_new (by simp)) | have hv8_1 : w8.frozen? ⟨w7.heap.size, 0, none⟩ = false := (hb8.frozen (p := ⟨w7.heap.size, 0, none⟩) (by simp)).trans (keepf_newd (by simp))))))))
    all_goals go_wp2_with fail
    all_goals go_meet
    all_goals refine ⟨⟨_, ga8, qa8, rfl, (by (first | omega | (simp <;> omega))), (by (first | omega | (simp <;> omega))), (at_cons (by simp [go_sem, *]) at_nil), ?_, ?_, ?_⟩, rfl⟩
    all_goals first | with_reducible exact FOff.lt HX8.out (by (first | omega | (simp <;> omega))) | with_reducible exact FOff.ge HX8.out (by (first | omega | (simp <;> omega))) | with_reducible exact (by (repeat' (first | with_reducible refine Own.set_lt ?_ HX8.out (by (first | omega | (simp <;> omega))) _ | with_reducible refine Own.alloc1 ?_ _ | with_reducible refine Own.drew1 ?_)); exact Own.le HX8.out (by (first | omega | (simp <;> omega)))) | exact bxt
  obtain ⟨w9, hw9⟩ : ∃ x, x = wc := ⟨_, rfl⟩
  subst hw9
  obtain ⟨⟨β, ga9, qa9, rfl, hβ, hβs, hat9, hown9, hoff9, hb9⟩, rfl⟩ := hcut
  have HX9 := Lib.hid hown9
  clear hown9 hoff9
  clear f0 f1 f2 f3 cM0 cM1 cM2 cM3 cM4 cM5
  have hcl : w9.cell? ⟨β, 0, none⟩ = some (.slice ga9 rk.length qa9) := by simpa using hat9 0 _ rfl
  clear hat9
  have hb29 : b2 < w9.heap.size := Nat.lt_of_lt_of_le hb26 hb9.size
  have HE2 : Hid (Ext w2 w9) := Lib.hid (Below.ext hb6 hb9)
  obtain ⟨f0, f1, f2, f3⟩ := PBox.at (HAT2.out.ext hbb2 HE2.out) i hi2
  go_upto_region 12 with fail
  go_region_held3 (fun w' => Below w9.heap.size w9 w' ∧ (∀ b o, b < w9.heap.size → w'.cell? ⟨b, o, none⟩ = w9.cell? ⟨b, o, none⟩)) (first | with_reducible exact sBeg _ | with_reducible exact sExt (by assumption) (by assumption) | (refine sMkF ?_; exact bxt)) ((first | (go_at_call 50; refine (implViewOk_any rk _ _ _ ((Rd.of_Own HX9.out).ext bxt) true (Lib.hid ⟨fun _ => HVO.out, fun _ => rfl⟩)).mono ?_; rintro e w10 ⟨rfl, hb10⟩) | (go_at_call 53; refine (specViewOf_any z2[i].name z2[i].validity z2[i].next z2[i].msgs _ _ _ ((HB2.out.rdm _ (List.getElem_mem hi2)).ext (Below.ext HE2.out bxt)) (by omega) rk HRK).mono ?_; rintro e w11 ⟨gx11, qx11, rfl, hown, hb11⟩; have HX11 := Lib.hid (Own.of_row hown); clear hown) | (go_at_call 51; refine (specSameView_any rk _ _ rk _ _ _ ((Rd.of_Own HX9.out).ext bxt) ((Rd.of_Own HX11.out).ext bxt) true (Lib.hid (by simp))).mono ?_; rintro e w12 ⟨rfl, hb12⟩) | (go_at_call 54; refine (implSameView_any rk _ _ rk _ _ _ ((Rd.of_Own HX9.out).ext bxt) ((Rd.of_Own HX11.out).ext bxt) true (Lib.hid (by simp))).mono ?_; rintro e w13 ⟨rfl, hb13⟩)))
  all_goals go_wp2_with fail
  all_goals go_ret
  all_goals exact ⟨rfl, bxt⟩
end Go.Proofs.Ytpameapajhbdnaa
