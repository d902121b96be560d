/-
  The law FnExactStoreNew: its walk, out of the contracts of what it calls.
-/
import Derived.Test.YtpameapajhbdnaaWStNew
import Derived.Test.YtpameapajhbdnaaXMarkS
import Derived.Test.YtpameapajhbdnaaWCutS
import Derived.Test.YtpameapajhbdnaaXOwn
namespace Go.Proofs.Ytpameapajhbdnaa
open Go.RowKit
set_option linter.unusedVariables false
set_option linter.unusedSimpArgs false

theorem sMk2 {W w : World} (h3 : Below W.heap.size W w) : Below W.heap.size W w ∧ (∀ b o, b < W.heap.size → w.cell? ⟨b, o, none⟩ = W.cell? ⟨b, o, none⟩) := ⟨h3, (bcell h3).1⟩
set_option maxRecDepth 100000 in
set_option maxHeartbeats 8000000 in
theorem fnExactStoreNew_walk  (w : World) : Calls Try.prog 3 #[] w fun e w' => e = .returned (.bool true) ∧ Below w.heap.size w w' := by
  obtain ⟨rr, hrel⟩ : ∃ rr , freshF = rr := ⟨_, rfl⟩
  have HREL := Lib.hid hrel
  clear hrel
  go_enter Try.func3, Try.ntmps3
  have hcr : cntD rr.boxes ≤ 3145728 ∧ rr.log.length ≤ 1048576 := by (rw [← HREL.out]; exact ⟨by decide, by decide⟩)
  obtain ⟨hcr, hcl⟩ := hcr
  go_wp2_with fail
  refine (specStoreNew_law  _  rr HREL).mono ?_
  rintro e w1 ⟨ga1, qa1, zs1, gc1, qc1, rfl, hown, hqz, hb1⟩
  have HX1 := Lib.hid hown; have HZ1 := Lib.hid hqz; clear hown hqz
  obtain ⟨hc1, hf1⟩ := bcell hb1
  have hm1 : w.heap.size ≤ w1.heap.size := by (have hss := hb1.size; first | omega | (simp at hss <;> omega))
  go_wp2_with fail
  refine (implStoreNew_law  _  rr HREL).mono ?_
  rintro e w2 ⟨ga2, qa2, zs2, gc2, qc2, rfl, hown, hqz, hb2⟩
  have HX2 := Lib.hid hown; have HZ2 := Lib.hid hqz; clear hown hqz
  obtain ⟨hc2, hf2⟩ := bcell hb2
  have hm2 : w1.heap.size ≤ w2.heap.size := by (have hss := hb2.size; first | omega | (simp at hss <;> omega))
  have hs2_0 : w1.heap.size < w2.heap.size := by (have hss := hb2.size; first | omega | (simp at hss <;> omega))
  go_wp2_with fail
  refine (eqStore_any zs2 _ _ rr.log _ _ rr.given zs1 _ _ rr.log _ _ rr.given _ (HX2.out.box.rd.ext bxt) (HX2.out.box.rdm.ext bxt) ((Rd.of_Own HX2.out.log).ext bxt) (HX1.out.box.rd.ext bxt) (HX1.out.box.rdm.ext bxt) ((Rd.of_Own HX1.out.log).ext bxt) true (Lib.hid (by rw [HZ2.out, HZ1.out]; simp))).mono ?_
  rintro e w3 ⟨rfl, hb3⟩
  obtain ⟨hc3, hf3⟩ := bcell hb3
  have hm3 : w2.heap.size ≤ w3.heap.size := by (have hss := hb3.size; first | omega | (simp at hss <;> omega))
  have hs3_0 : w1.heap.size < w3.heap.size := by (have hss := hb3.size; first | omega | (simp at hss <;> omega))
  have hs3_1 : w2.heap.size < w3.heap.size := by (have hss := hb3.size; first | omega | (simp at hss <;> omega))
  have hcg : cntB zs2 ≤ 3145728 := by (rw [cntB_D, HZ2.out]; exact hcr)
  go_wp2_with fail
  refine (markStore_any zs2 _ _ rr.log _ _ rr.given _ 1 _ (HX2.out.ext bxt) (by omega) (by omega) (by omega) (by omega)).mono ?_
  rintro e w4 ⟨rfl, hown, hg40⟩
  have HM4 := Lib.hid hown
  clear hown
  have hg4 := hg40
  clear hg40
  have hroot4 : Below w.heap.size w w4 := (show Below w.heap.size w w3 from bxt).trans (hg4.below (fun x hx => by (have := (HX2.out.rows_lt x hx).1; first | omega | (simp at this; omega))) (by (first | omega | (simp <;> omega))))
  obtain ⟨hc4, hf4⟩ := hg4.roff
  have hm4 : w3.heap.size ≤ w4.heap.size := hg4.size
  have hs4_0 : w1.heap.size < w4.heap.size := by omega
  have hn4_0 : ROff _ (w1.heap.size) := fun hS => by (have hq := HX2.out.rows_lt _ hS; first | omega | (simp at hq; omega))
  have hs4_1 : w2.heap.size < w4.heap.size := by omega
  have hn4_1 : ROff _ (w2.heap.size) := fun hS => by (have hq := HX2.out.rows_lt _ hS; first | omega | (simp at hq; omega))
  have HR4_1 := Lib.hid (OwnSt.chg (HX1.out.ext bxt) hg4 (fun x hx hS => by (have h8 := HX1.out.rows_lt x hx; have h9 := HX2.out.rows_lt x hS; first | omega | (simp at h8 h9; omega))))
  clear hg4
  obtain ⟨hgr, hgm, hgl⟩ := HM4.out.heldR
  have HGR := Lib.hid hgr
  have HGM := Lib.hid hgm
  have HGL := Lib.hid hgl
  clear hgr hgm hgl
  go_wp2_with fail
  refine (heldStore_any zs2 _ _ rr.log.length _ _ rr.given 1 _ (HGR.out.ext bxt) (HGM.out.ext bxt) (HGL.out.ext bxt) (by omega) (by omega) (by omega) (by omega)).mono ?_
  rintro e w5 ⟨rfl, hb5⟩
  obtain ⟨hc5, hf5⟩ := bcell hb5
  have hm5 : w4.heap.size ≤ w5.heap.size := by (have hss := hb5.size; first | omega | (simp at hss <;> omega))
  have hs5_0 : w1.heap.size < w5.heap.size := by (have hss := hb5.size; first | omega | (simp at hss <;> omega))
  have hs5_1 : w2.heap.size < w5.heap.size := by (have hss := hb5.size; first | omega | (simp at hss <;> omega))
  go_wp2_with fail
  refine (implStoreNew_law  _  rr HREL).mono ?_
  rintro e w6 ⟨ga6, qa6, zs6, gc6, qc6, rfl, hown, hqz, hb6⟩
  have HX6 := Lib.hid hown; have HZ6 := Lib.hid hqz; clear hown hqz
  obtain ⟨hc6, hf6⟩ := bcell hb6
  have hm6 : w5.heap.size ≤ w6.heap.size := by (have hss := hb6.size; first | omega | (simp at hss <;> omega))
  have hs6_0 : w1.heap.size < w6.heap.size := by (have hss := hb6.size; first | omega | (simp at hss <;> omega))
  have hs6_1 : w2.heap.size < w6.heap.size := by (have hss := hb6.size; first | omega | (simp at hss <;> omega))
  go_wp2_with fail
  refine (eqStore_any zs6 _ _ rr.log _ _ rr.given zs1 _ _ rr.log _ _ rr.given _ (HX6.out.box.rd.ext bxt) (HX6.out.box.rdm.ext bxt) ((Rd.of_Own HX6.out.log).ext bxt) (HR4_1.out.box.rd.ext bxt) (HR4_1.out.box.rdm.ext bxt) ((Rd.of_Own HR4_1.out.log).ext bxt) true (Lib.hid (by rw [HZ6.out, HZ1.out]; simp))).mono ?_
  rintro e w7 ⟨rfl, hb7⟩
  obtain ⟨hc7, hf7⟩ := bcell hb7
  have hm7 : w6.heap.size ≤ w7.heap.size := by (have hss := hb7.size; first | omega | (simp at hss <;> omega))
  have hs7_0 : w1.heap.size < w7.heap.size := by (have hss := hb7.size; first | omega | (simp at hss <;> omega))
  have hs7_1 : w2.heap.size < w7.heap.size := by (have hss := hb7.size; first | omega | (simp at hss <;> omega))
  have hs7_2 : w6.heap.size < w7.heap.size := by (have hss := hb7.size; first | omega | (simp at hss <;> omega))
  go_wp2_with fail
  refine (heldStore_any zs2 _ _ rr.log.length _ _ rr.given 1 _ (HGR.out.ext bxt) (HGM.out.ext bxt) (HGL.out.ext bxt) (by omega) (by omega) (by omega) (by omega)).mono ?_
  rintro e w8 ⟨rfl, hb8⟩
  obtain ⟨hc8, hf8⟩ := bcell hb8
  have hm8 : w7.heap.size ≤ w8.heap.size := by (have hss := hb8.size; first | omega | (simp at hss <;> omega))
  have hs8_0 : w1.heap.size < w8.heap.size := by (have hss := hb8.size; first | omega | (simp at hss <;> omega))
  have hs8_1 : w2.heap.size < w8.heap.size := by (have hss := hb8.size; first | omega | (simp at hss <;> omega))
  have hs8_2 : w6.heap.size < w8.heap.size := by (have hss := hb8.size; first | omega | (simp at hss <;> omega))
  go_wp2_with fail
  go_ret
  exact ⟨rfl, bxt⟩

end Go.Proofs.Ytpameapajhbdnaa
