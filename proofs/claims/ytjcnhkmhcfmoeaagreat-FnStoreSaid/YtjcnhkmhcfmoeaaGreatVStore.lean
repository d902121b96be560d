/-
  The law FnStore: its walk.
-/
import Derived.Test.YtjcnhkmhcfmoeaaGreatDraw13
import Derived.Test.YtjcnhkmhcfmoeaaGreatXDr
import Derived.Test.YtjcnhkmhcfmoeaaGreatWStAt
import Derived.Deep.RegionHeld3
namespace Go.Proofs.YtjcnhkmhcfmoeaaGreat
open Go.RowKit
set_option linter.unusedVariables false
set_option linter.unusedSimpArgs false

set_option maxRecDepth 100000 in
set_option maxHeartbeats 4000000 in
theorem fnStore_walk (l : List Int) (a : Option Addr) (c : Nat) (w : World) : MaxLen w → Rd w a c 1 l.length (l.flatMap byteCells) → (∀ y ∈ l, 0 ≤ y ∧ y ≤ 255) →
    Calls Tryz.prog 4 #[.slice a l.length c] w fun e w' => e = .returned (.bool true) ∧ Below w.heap.size w w' := by
  intro hmx R hb
  have hln : l.length ≤ 9223372036854775807 := Nat.le_trans R.nc R.cm
  have HMX := Lib.hid hmx
  have HR := Lib.hid R
  have HB := Lib.hid hb
  clear R hb hmx
  obtain ⟨d, hd⟩ := boolOf (1048576 < l.length)
  have HDB := Lib.hid hd
  clear hd
  go_enter Tryz.func4, Tryz.ntmps4
  go_wp2_with fail
  refine (big_any l.length a c _ hln d HDB).mono ?_
  rintro e w1 ⟨rfl, rfl⟩
  cases d
  rotate_left
  · go_wp2_with fail
    go_ret
    exact ⟨rfl, bxt⟩
  have hl : l.length ≤ 1048576 := by have := no_of HDB.out; omega
  go_wp2_with fail
  refine (drawBoxesAt_any l a c _ (HR.out.ext bxt) HB.out hl).mono ?_
  rintro e w1 ⟨ba, bc, zs, la, lc, lg, gv, x, hzl, hsm, hll, hsl, rfl, ho, hb1⟩
  have HSM := Lib.hid hsm; have HSL := Lib.hid hsl; have HO := Lib.hid ho
  clear hsm hsl ho
  have hzz1 := hb1.size; (try simp at hzz1)
  obtain ⟨hc1, hf1⟩ := bcell hb1
  obtain ⟨r, hr⟩ := boolOf (StoreP ⟨zs.map PBox.box, lg, gv⟩)
  have HRR := Lib.hid hr
  clear hr
  obtain ⟨D, hD⟩ := boxesRel_ex ⟨zs.map PBox.box, lg, gv⟩ x
  have HD := Lib.hid hD
  clear hD
  skip
  have HRL := Lib.hid (Rd.of_Own HO.out.log)
  cases r
  · skip
    go_wp2_with fail
    go_region_held3 (fun w' => Below (w1.alloc (.cells #[.slice ba zs.length bc, .slice la lg.length lc, .int .i64 gv] 27)).heap.size (w1.alloc (.cells #[.slice ba zs.length bc, .slice la lg.length lc, .int .i64 gv] 27)) w' ∧ (∀ b o, b < (w1.alloc (.cells #[.slice ba zs.length bc, .slice la lg.length lc, .int .i64 gv] 27)).heap.size → w'.cell? ⟨b, o, none⟩ = (w1.alloc (.cells #[.slice ba zs.length bc, .slice la lg.length lc, .int .i64 gv] 27)).cell? ⟨b, o, none⟩)) (first | exact sBeg _ | exact sExt (by assumption) (by assumption)) ((first | (go_at_call 18; refine (implStoreOk_at zs ba bc lg _ lc gv _ (HO.out.ext bxt) hzl HSM.out hll HSL.out (HMX.out.ext bxt) false HRR).mono ?_; rintro e w2 ⟨rfl, hb2⟩) | (go_at_call 19; refine (specStoreOk_at zs ba bc lg _ lc gv _ (HO.out.ext bxt) hzl HSM.out hll HSL.out false HRR).mono ?_; rintro e w3 ⟨rfl, hb3⟩) | (go_at_call 21; refine (implBoxesAt_at zs ba bc lg _ lc gv x _ (HO.out.ext bxt) hzl HSM.out hll HSL.out (HMX.out.ext bxt) D HD).mono ?_; rintro e w4 ⟨g4, q4, z4, rfl, ho4, hz4, hb4⟩; have HO4 := Lib.hid ho4; have HZ4 := Lib.hid hz4; clear ho4 hz4) | (go_at_call 22; refine (specBoxesAt_at zs ba bc lg _ lc gv x _ (HO.out.ext bxt) hzl HSM.out hll HSL.out D HD).mono ?_; rintro e w5 ⟨g5, q5, z5, rfl, ho5, hz5, hb5⟩; have HO5 := Lib.hid ho5; have HZ5 := Lib.hid hz5; clear ho5 hz5) | (go_at_call 20; refine (specSameBoxes_any z4 z5 _ _ _ _ _ (HO4.out.ext bxt).rd (HO4.out.ext bxt).rdm (HO5.out.ext bxt).rd (HO5.out.ext bxt).rdm true (Lib.hid (by simp [HZ4.out, HZ5.out]))).mono ?_; rintro e w6 ⟨rfl, hb6⟩)))
    have hbq : Ext (w1.alloc (.cells #[.slice ba zs.length bc, .slice la lg.length lc, .int .i64 gv] 27)) w6 := Below.ext (Below.ext (Below.ext (Below.ext (Below.ext ((Below.refl _ _).drew) hb2) hb3) hb4) hb5) hb6
    have hzz6 := hbq.size; (try simp at hzz6)
    obtain ⟨hc6, hf6⟩ := bcell hbq
    have hs6_0 : w1.heap.size < w6.heap.size := by (have hss := hbq.size; first | omega | (simp at hss <;> omega))
    go_wp2_with fail
    refine (specStoreOk_at zs ba bc lg _ lc gv _ (HO.out.ext bxt) hzl HSM.out hll HSL.out false HRR).mono ?_
    rintro e w7 ⟨rfl, hb7⟩
    have hzz7 := hb7.size; (try simp at hzz7)
    obtain ⟨hc7, hf7⟩ := bcell hb7
    have hs7_0 : w1.heap.size < w7.heap.size := by (have hss := hb7.size; first | omega | (simp at hss <;> omega))
    go_wp2_with fail
    go_ret
    exact ⟨rfl, bxt⟩
  · skip
    go_wp2_with fail
    go_region_held3 (fun w' => Below (w1.alloc (.cells #[.slice ba zs.length bc, .slice la lg.length lc, .int .i64 gv] 27)).heap.size (w1.alloc (.cells #[.slice ba zs.length bc, .slice la lg.length lc, .int .i64 gv] 27)) w' ∧ (∀ b o, b < (w1.alloc (.cells #[.slice ba zs.length bc, .slice la lg.length lc, .int .i64 gv] 27)).heap.size → w'.cell? ⟨b, o, none⟩ = (w1.alloc (.cells #[.slice ba zs.length bc, .slice la lg.length lc, .int .i64 gv] 27)).cell? ⟨b, o, none⟩)) (first | exact sBeg _ | exact sExt (by assumption) (by assumption)) ((first | (go_at_call 18; refine (implStoreOk_at zs ba bc lg _ lc gv _ (HO.out.ext bxt) hzl HSM.out hll HSL.out (HMX.out.ext bxt) true HRR).mono ?_; rintro e w2 ⟨rfl, hb2⟩) | (go_at_call 19; refine (specStoreOk_at zs ba bc lg _ lc gv _ (HO.out.ext bxt) hzl HSM.out hll HSL.out true HRR).mono ?_; rintro e w3 ⟨rfl, hb3⟩) | (go_at_call 21; refine (implBoxesAt_at zs ba bc lg _ lc gv x _ (HO.out.ext bxt) hzl HSM.out hll HSL.out (HMX.out.ext bxt) D HD).mono ?_; rintro e w4 ⟨g4, q4, z4, rfl, ho4, hz4, hb4⟩; have HO4 := Lib.hid ho4; have HZ4 := Lib.hid hz4; clear ho4 hz4) | (go_at_call 22; refine (specBoxesAt_at zs ba bc lg _ lc gv x _ (HO.out.ext bxt) hzl HSM.out hll HSL.out D HD).mono ?_; rintro e w5 ⟨g5, q5, z5, rfl, ho5, hz5, hb5⟩; have HO5 := Lib.hid ho5; have HZ5 := Lib.hid hz5; clear ho5 hz5) | (go_at_call 20; refine (specSameBoxes_any z4 z5 _ _ _ _ _ (HO4.out.ext bxt).rd (HO4.out.ext bxt).rdm (HO5.out.ext bxt).rd (HO5.out.ext bxt).rdm true (Lib.hid (by simp [HZ4.out, HZ5.out]))).mono ?_; rintro e w6 ⟨rfl, hb6⟩)))
    have hbq : Ext (w1.alloc (.cells #[.slice ba zs.length bc, .slice la lg.length lc, .int .i64 gv] 27)) w6 := Below.ext (Below.ext (Below.ext (Below.ext (Below.ext ((Below.refl _ _).drew) hb2) hb3) hb4) hb5) hb6
    have hzz6 := hbq.size; (try simp at hzz6)
    obtain ⟨hc6, hf6⟩ := bcell hbq
    have hs6_0 : w1.heap.size < w6.heap.size := by (have hss := hbq.size; first | omega | (simp at hss <;> omega))
    go_wp2_with fail
    refine (specStoreOk_at zs ba bc lg _ lc gv _ (HO.out.ext bxt) hzl HSM.out hll HSL.out true HRR).mono ?_
    rintro e w7 ⟨rfl, hb7⟩
    have hzz7 := hb7.size; (try simp at hzz7)
    obtain ⟨hc7, hf7⟩ := bcell hb7
    have hs7_0 : w1.heap.size < w7.heap.size := by (have hss := hb7.size; first | omega | (simp at hss <;> omega))
    have HSP := Lib.hid (yes_of HRR.out)
    by_cases h0 : x < 0
    · have e0 : decide (x < 0) = true := decide_eq_true h0
      have HD0 := Lib.hid (boxesAt_neg HD.out h0)
      clear h0
      go_wp2_with fail
      have hU : (undef : Value) = .tuple #[] := rfl
      first | (go_region_law ((first | (go_simp; go_at_call 21; refine (implBoxesAt_at zs ba bc lg _ lc gv x _ (HO.out.ext bxt) hzl HSM.out hll HSL.out (HMX.out.ext bxt) D HD).mono ?_; rintro e w8 ⟨g8, q8, z8, rfl, ho8, hz8, hb8⟩; have HO8 := Lib.hid ho8; have HZ8 := Lib.hid hz8; clear ho8 hz8; have hzz8 := hb8.size; (try simp at hzz8); obtain ⟨hc8, hf8⟩ := bcell hb8; have hs8_0 : w1.heap.size < w8.heap.size := (by (have hss := hb8.size; first | omega | (simp at hss <;> omega))); have hz0 : z8 = [] := (List.map_eq_nil_iff.1 (HZ8.out.trans HD0.out)); subst hz0)))) | fail
      all_goals go_wp2_with fail
      all_goals go_ret
      all_goals exact ⟨rfl, bxt⟩
    · have e0 : decide (x < 0) = false := decide_eq_false h0
      by_cases h1 : (lg.length : Int) ≤ x
      · have e1 : decide ((lg.length : Int) ≤ x) = true := decide_eq_true h1
        have HD1 := Lib.hid (boxesAt_end HD.out HSP.out h1)
        clear h0 h1
        go_wp2_with fail
        first | (go_region_law ((first | (go_simp; go_at_call 21; refine (implBoxesAt_at zs ba bc lg _ lc gv x _ (HO.out.ext bxt) hzl HSM.out hll HSL.out (HMX.out.ext bxt) D HD).mono ?_; rintro e w8 ⟨g8, q8, z8, rfl, ho8, hz8, hb8⟩; have HO8 := Lib.hid ho8; have HZ8 := Lib.hid hz8; clear ho8 hz8; have hzz8 := hb8.size; (try simp at hzz8); obtain ⟨hc8, hf8⟩ := bcell hb8; have hs8_0 : w1.heap.size < w8.heap.size := (by (have hss := hb8.size; first | omega | (simp at hss <;> omega))); have cS0 : w8.cell? ⟨w1.heap.size, 0, none⟩ = some (.slice ba zs.length bc) := ((hb8.cell (p := ⟨w1.heap.size, 0, none⟩) smx).trans kpx); have cS1 : w8.cell? ⟨w1.heap.size, 1, none⟩ = some (.slice la lg.length lc) := ((hb8.cell (p := ⟨w1.heap.size, 1, none⟩) smx).trans kpx); have cS2 : w8.cell? ⟨w1.heap.size, 2, none⟩ = some (.int .i64 gv) := ((hb8.cell (p := ⟨w1.heap.size, 2, none⟩) smx).trans kpx)) | (go_simp; go_at_call 20; refine (specSameBoxes_any z8 zs _ _ _ _ _ (HO8.out.ext bxt).rd (HO8.out.ext bxt).rdm ((HO.out.ext bxt).rs).rd ((HO.out.ext bxt).rs).rdm true (Lib.hid (by simp [HZ8.out, HD1.out]))).mono ?_; rintro e w9 ⟨rfl, hb9⟩)))) | fail
        all_goals go_wp2_with fail
        all_goals go_ret
        all_goals exact ⟨rfl, bxt⟩
      · have e1 : decide ((lg.length : Int) ≤ x) = false := decide_eq_false h1
        obtain ⟨k, rfl⟩ : ∃ k : Nat, x = k := ⟨x.toNat, by omega⟩
        have hk : k < lg.length := by omega
        obtain ⟨T, hT⟩ := boxesRel_ex ⟨zs.map PBox.box, lg, gv⟩ ((k : Int) + 1)
        have HT := Lib.hid hT
        clear hT
        obtain ⟨t1, t2⟩ := boxesAt_step HD.out HT.out HSP.out hk
        have HBP := Lib.hid t1; have HAP := Lib.hid t2
        clear t1 t2
        have hn1 := (HSL.out _ (List.getElem_mem hk)).1; have hn2 := (HSL.out _ (List.getElem_mem hk)).2
        have hE7 : Ext w1 w7 := bxt
        obtain ⟨b0, o0, rfl, hb0, hat⟩ := HRL.out.ptr (by omega)
        have hbw : b0 < w7.heap.size := Nat.lt_of_lt_of_le hb0 hE7.size
        obtain ⟨y0, y1, y2, y3, y4, y5⟩ := DCommit.at (hat.ext hb0 hE7) k hk
        have HAT := Lib.hid hat
        clear hat
        have k1 : (0 : Int) ≤ (k : Int) := by omega
        have k2 : (k : Int) < (lg.length : Int) := by omega
        have hw : IntKind.i64.wrap ((k : Int) + 1) = (k : Int) + 1 := IntWalk.i64_in _ (by omega)
        go_wp2_with fail
        go_region_held3 (fun w' => Below w7.heap.size w7 w' ∧ (∀ b o, b < w7.heap.size → w'.cell? ⟨b, o, none⟩ = w7.cell? ⟨b, o, none⟩)) (first | exact sBeg _ | exact sExt (by assumption) (by assumption)) ((first | (go_at_call 21; refine (implBoxesAt_at zs ba bc lg _ lc gv (k : Int) _ (HO.out.ext bxt) hzl HSM.out hll HSL.out (HMX.out.ext bxt) D HD).mono ?_; rintro e w8 ⟨g8, q8, z8, rfl, ho8, hz8, hb8⟩; have HO8 := Lib.hid ho8; have HZ8 := Lib.hid hz8; clear ho8 hz8) | (go_at_call 23; refine (implApplied_at z8 _ _ lg[k] _ (HO8.out.ext bxt) (HMX.out.ext bxt) D T HZ8 HBP hn1 hn2 HAP).mono ?_; rintro e w9 ⟨g9, q9, z9, rfl, ho9, hz9, hb9⟩; have HO9 := Lib.hid ho9; have HZ9 := Lib.hid hz9; clear ho9 hz9)))
        have hbq2 : Ext w7 w9 := Below.ext (Below.ext ((Below.refl _ _).drew) hb8) hb9
        have hzz9 := hbq2.size; (try simp at hzz9)
        obtain ⟨hc9, hf9⟩ := bcell hbq2
        have hs9_0 : w1.heap.size < w9.heap.size := by (have hss := hbq2.size; first | omega | (simp at hss <;> omega))
        go_wp2_with ((first | (go_at_call 21; refine (implBoxesAt_at zs ba bc lg _ lc gv ((k : Int) + 1) _ (HO.out.ext bxt) hzl HSM.out hll HSL.out (HMX.out.ext bxt) T HT).mono ?_; rintro e w10 ⟨g10, q10, z10, rfl, ho10, hz10, hb10⟩; have HO10 := Lib.hid ho10; have HZ10 := Lib.hid hz10; clear ho10 hz10; have hzz10 := hb10.size; obtain ⟨hc10, hf10⟩ := bcell hb10) | (go_at_call 20; refine (specSameBoxes_any z9 z10 _ _ _ _ _ (HO9.out.ext bxt).rd (HO9.out.ext bxt).rdm (HO10.out.ext bxt).rd (HO10.out.ext bxt).rdm true (Lib.hid (by simp [HZ9.out, HZ10.out]))).mono ?_; rintro e w11 ⟨rfl, hb11⟩)))
        go_ret
        exact ⟨rfl, bxt⟩
end Go.Proofs.YtjcnhkmhcfmoeaaGreat
