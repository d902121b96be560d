/-
  The law FnExactApplied: its walk, out of the contracts of what it calls.
-/
import Derived.Test.YtdigkaddmpdeoaaWAppLaw
import Derived.Test.YtdigkaddmpdeoaaHeldBoxS
import Derived.Test.YtdigkaddmpdeoaaMarkStore
import Derived.Test.YtdigkaddmpdeoaaFamCommit
import Derived.Test.YtdigkaddmpdeoaaCut
namespace Go.Proofs.Ytdigkaddmpdeoaa
open Go.RowKit
set_option linter.unusedVariables false
set_option linter.unusedSimpArgs false

set_option maxRecDepth 100000 in
set_option maxHeartbeats 8000000 in
theorem fnExactApplied_walk (a0 : List PBox) (a0A : Option Addr) (a0C : Nat) (a1 : DCommit) (w : World) : (MaxLen w) → (Rd w a0A a0C 4 a0.length (a0.flatMap PBox.cells)) → (RdM w a0) → (∀ y ∈ a0, y.name.size ≤ 9223372036854775807) → (∀ y ∈ a0, ∀ m ∈ y.msgs, m.text.size ≤ 9223372036854775807) → (a1.name.size ≤ 9223372036854775807) → (a1.text.size ≤ 9223372036854775807) →
    Calls Try.prog 8 #[.slice a0A a0.length a0C, .agg #[.int .i64 a1.kind, .int .i64 a1.validity, .int .i64 a1.uid, .int .i64 a1.flags, .string a1.name, .string a1.text]] w fun e w' => e = .returned (.bool true) ∧ Below w.heap.size w w' := by
  intro hmx a0R a0M gsn0 gst0 g1name g1text
  have HMX := Lib.hid hmx
  clear hmx
  obtain ⟨rr, rok, hrel⟩ : ∃ rr rok, AppRel (a0.map PBox.box) a1 rr rok := appRel_ex _ _
  have HREL := Lib.hid hrel
  clear hrel
  have Ha0 := Lib.hid a0R
  clear a0R
  have Ha0M := Lib.hid a0M
  clear a0M
  have Hgsn0 := Lib.hid gsn0
  clear gsn0
  have Hgst0 := Lib.hid gst0
  clear gst0
  go_enter Try.func8, Try.ntmps8
  go_wp2_with fail
  refine (szBoxS_any a0 _ _ 1048576 _ (Ha0.out.ext (by repeat' (first | with_reducible exact Below.refl _ _ | with_reducible assumption | with_reducible refine Below.alloc ?_ ?_ _ | with_reducible refine Below.setCell ?_ ?_ _ | with_reducible refine Below.drew ?_ | with_reducible refine Below.drewN ?_ _ | with_reducible refine Below.ext ?_ (by assumption) | (simp <;> omega) | omega))) (Ha0M.out.ext (by repeat' (first | with_reducible exact Below.refl _ _ | with_reducible assumption | with_reducible refine Below.alloc ?_ ?_ _ | with_reducible refine Below.setCell ?_ ?_ _ | with_reducible refine Below.drew ?_ | with_reducible refine Below.drewN ?_ _ | with_reducible refine Below.ext ?_ (by assumption) | (simp <;> omega) | omega))) (by omega) (by omega) Hgsn0.out Hgst0.out).mono ?_
  rintro e w1 ⟨left1, rfl, hz1, hb1⟩
  obtain ⟨hc1, hf1⟩ := bcell hb1
  have hs1_0 : w.heap.size < w1.heap.size := by (have hss := hb1.size; first | omega | (simp at hss <;> omega))
  rcases hz1 with hz1 | ⟨hz10, hz1⟩
  · go_wp2_with fail
    go_ret
    exact ⟨rfl, by repeat' (first | with_reducible exact Below.refl _ _ | with_reducible assumption | with_reducible refine Below.alloc ?_ ?_ _ | with_reducible refine Below.setCell ?_ ?_ _ | with_reducible refine Below.drew ?_ | with_reducible refine Below.drewN ?_ _ | with_reducible refine Below.ext ?_ (by assumption) | (simp <;> omega) | omega)⟩
  have hlt1 : left1 ≤ 1048576 := by omega
  have hla0 : a0.length ≤ 1048576 := by (have := PBox.len_le a0; omega)
  have hcb0 : cntB a0 ≤ 3145728 := by (have := cntB_sz a0; omega)
  have Hlm0 : Hid (∀ y ∈ a0, y.msgs.length ≤ 1048576) := fun y hy => by
    obtain ⟨q, hq, rfl⟩ := List.getElem_of_mem hy
    have := PBox.msgs_le a0 q hq
    omega
  clear hz1
  go_wp2_with fail
  refine (szCommit_any a1 left1 _ (by omega) (by omega) g1name g1text).mono ?_
  rintro e w2 ⟨left2, rfl, hz2, hb2⟩
  obtain ⟨hc2, hf2⟩ := bcell hb2
  have hm2 : w1.heap.size ≤ w2.heap.size := by (have hss := hb2.size; first | omega | (simp at hss <;> omega))
  have hs2_0 : w.heap.size < w2.heap.size := by (have hss := hb2.size; first | omega | (simp at hss <;> omega))
  rcases hz2 with hz2 | ⟨hz20, hz2⟩
  · go_wp2_with fail
    go_ret
    exact ⟨rfl, by repeat' (first | with_reducible exact Below.refl _ _ | with_reducible assumption | with_reducible refine Below.alloc ?_ ?_ _ | with_reducible refine Below.setCell ?_ ?_ _ | with_reducible refine Below.drew ?_ | with_reducible refine Below.drewN ?_ _ | with_reducible refine Below.ext ?_ (by assumption) | (simp <;> omega) | omega)⟩
  have hlt2 : left2 ≤ 1048576 := by omega
  clear hz2
  have hcr : cntD rr ≤ 3145728 := appRel_cnt HREL.out (by rw [← cntB_D]; exact hcb0)
  go_wp2_with fail
  go_region_held3 (fun w' => Below w2.heap.size w2 w' ∧ (∀ b o, b < w2.heap.size → w'.cell? ⟨b, o, none⟩ = w2.cell? ⟨b, o, none⟩)) (first | with_reducible exact sBeg _ | with_reducible exact sExt (by assumption) (by assumption)) ((first | (go_at_call_of 27 (a0); refine (toBoxS_any a0 _ _ _ (Ha0.out.ext (by repeat' (first | with_reducible exact Below.refl _ _ | with_reducible assumption | with_reducible refine Below.alloc ?_ ?_ _ | with_reducible refine Below.setCell ?_ ?_ _ | with_reducible refine Below.drew ?_ | with_reducible refine Below.drewN ?_ _ | with_reducible refine Below.ext ?_ (by assumption) | (simp <;> omega) | omega))) (Ha0M.out.ext (by repeat' (first | with_reducible exact Below.refl _ _ | with_reducible assumption | with_reducible refine Below.alloc ?_ ?_ _ | with_reducible refine Below.setCell ?_ ?_ _ | with_reducible refine Below.drew ?_ | with_reducible refine Below.drewN ?_ _ | with_reducible refine Below.ext ?_ (by assumption) | (simp <;> omega) | omega))) hla0 Hlm0.out).mono ?_; rintro e w3 ⟨gx3, zs3, rfl, hown, hqz, hb3⟩; have HX3 := Lib.hid hown; have HZ3 := Lib.hid hqz; clear hown hqz; have hzz3 := hb3.size; (try simp at hzz3)) | (go_at_call_of 28 (a1.kind); refine (toCommit_any a1 _).mono ?_; rintro e w4 ⟨rfl, hb4⟩; have hzz4 := hb4.size; (try simp at hzz4)) | (go_at_call_of 37 (zs3); refine (specApplied_law zs3 _ _ a1 _ (HX3.out.rd.ext (by repeat' (first | with_reducible exact Below.refl _ _ | with_reducible assumption | with_reducible refine Below.alloc ?_ ?_ _ | with_reducible refine Below.setCell ?_ ?_ _ | with_reducible refine Below.drew ?_ | with_reducible refine Below.drewN ?_ _ | with_reducible refine Below.ext ?_ (by assumption) | (simp <;> omega) | omega))) (HX3.out.rdm.ext (by repeat' (first | with_reducible exact Below.refl _ _ | with_reducible assumption | with_reducible refine Below.alloc ?_ ?_ _ | with_reducible refine Below.setCell ?_ ?_ _ | with_reducible refine Below.drew ?_ | with_reducible refine Below.drewN ?_ _ | with_reducible refine Below.ext ?_ (by assumption) | (simp <;> omega) | omega))) (by rw [box_len HZ3.out]; exact hla0) (box_mlen HZ3.out Hlm0.out) (box_names HZ3.out Hgsn0.out) (box_texts HZ3.out Hgst0.out) g1name g1text rr rok (Lib.hid (by rw [HZ3.out]; exact HREL.out))).mono ?_; rintro e w5 ⟨ga5, qa5, zs5, rfl, hown, hqz, hb5⟩; have HX5 := Lib.hid hown; have HZ5 := Lib.hid hqz; clear hown hqz; have hzz5 := hb5.size; (try simp at hzz5))))
  have hbq5 : Ext w2 w5 := Below.ext (Below.ext (Below.ext ((Below.refl _ _).drew) hb3) hb4) hb5
  obtain ⟨hc5, hf5⟩ := bcell hbq5
  have hm5 : w2.heap.size ≤ w5.heap.size := by (have hss := hbq5.size; first | omega | (simp at hss <;> omega))
  have hs5_0 : w.heap.size < w5.heap.size := by (have hss := hbq5.size; first | omega | (simp at hss <;> omega))
  go_wp2_with fail
  refine (toBoxS_any a0 _ _ _ (Ha0.out.ext (by repeat' (first | with_reducible exact Below.refl _ _ | with_reducible assumption | with_reducible refine Below.alloc ?_ ?_ _ | with_reducible refine Below.setCell ?_ ?_ _ | with_reducible refine Below.drew ?_ | with_reducible refine Below.drewN ?_ _ | with_reducible refine Below.ext ?_ (by assumption) | (simp <;> omega) | omega))) (Ha0M.out.ext (by repeat' (first | with_reducible exact Below.refl _ _ | with_reducible assumption | with_reducible refine Below.alloc ?_ ?_ _ | with_reducible refine Below.setCell ?_ ?_ _ | with_reducible refine Below.drew ?_ | with_reducible refine Below.drewN ?_ _ | with_reducible refine Below.ext ?_ (by assumption) | (simp <;> omega) | omega))) hla0 Hlm0.out).mono ?_
  rintro e w6 ⟨gx6, zs6, rfl, hown, hqz, hb6⟩
  have HX6 := Lib.hid hown; have HZ6 := Lib.hid hqz; clear hown hqz
  obtain ⟨hc6, hf6⟩ := bcell hb6
  have hm6 : w5.heap.size ≤ w6.heap.size := by (have hss := hb6.size; first | omega | (simp at hss <;> omega))
  have hs6_0 : w.heap.size < w6.heap.size := by (have hss := hb6.size; first | omega | (simp at hss <;> omega))
  go_wp2_with fail
  refine (toCommit_any a1 _).mono ?_
  rintro e w7 ⟨rfl, hb7⟩
  obtain ⟨hc7, hf7⟩ := bcell hb7
  have hm7 : w6.heap.size ≤ w7.heap.size := by (have hss := hb7.size; first | omega | (simp at hss <;> omega))
  have hs7_0 : w.heap.size < w7.heap.size := by (have hss := hb7.size; first | omega | (simp at hss <;> omega))
  go_wp2_with fail
  refine (implApplied_law zs6 _ _ a1 _ (HX6.out.rd.ext (by repeat' (first | with_reducible exact Below.refl _ _ | with_reducible assumption | with_reducible refine Below.alloc ?_ ?_ _ | with_reducible refine Below.setCell ?_ ?_ _ | with_reducible refine Below.drew ?_ | with_reducible refine Below.drewN ?_ _ | with_reducible refine Below.ext ?_ (by assumption) | (simp <;> omega) | omega))) (HX6.out.rdm.ext (by repeat' (first | with_reducible exact Below.refl _ _ | with_reducible assumption | with_reducible refine Below.alloc ?_ ?_ _ | with_reducible refine Below.setCell ?_ ?_ _ | with_reducible refine Below.drew ?_ | with_reducible refine Below.drewN ?_ _ | with_reducible refine Below.ext ?_ (by assumption) | (simp <;> omega) | omega))) (by rw [box_len HZ6.out]; exact hla0) (box_mlen HZ6.out Hlm0.out) (box_names HZ6.out Hgsn0.out) (box_texts HZ6.out Hgst0.out) g1name g1text (HMX.out.ext (by repeat' (first | with_reducible exact Below.refl _ _ | with_reducible assumption | with_reducible refine Below.alloc ?_ ?_ _ | with_reducible refine Below.setCell ?_ ?_ _ | with_reducible refine Below.drew ?_ | with_reducible refine Below.drewN ?_ _ | with_reducible refine Below.ext ?_ (by assumption) | (simp <;> omega) | omega))) rr rok (Lib.hid (by rw [HZ6.out]; exact HREL.out))).mono ?_
  rintro e w8 ⟨ga8, qa8, zs8, rfl, hown, hqz, hb8⟩
  have HX8 := Lib.hid hown; have HZ8 := Lib.hid hqz; clear hown hqz
  obtain ⟨hc8, hf8⟩ := bcell hb8
  have hm8 : w7.heap.size ≤ w8.heap.size := by (have hss := hb8.size; first | omega | (simp at hss <;> omega))
  have hs8_0 : w.heap.size < w8.heap.size := by (have hss := hb8.size; first | omega | (simp at hss <;> omega))
  go_wp2_with fail
  refine (eqBoxS_any zs8 zs5 _ _ _ _ _ (HX8.out.rd.ext (by repeat' (first | with_reducible exact Below.refl _ _ | with_reducible assumption | with_reducible refine Below.alloc ?_ ?_ _ | with_reducible refine Below.setCell ?_ ?_ _ | with_reducible refine Below.drew ?_ | with_reducible refine Below.drewN ?_ _ | with_reducible refine Below.ext ?_ (by assumption) | (simp <;> omega) | omega))) (HX8.out.rdm.ext (by repeat' (first | with_reducible exact Below.refl _ _ | with_reducible assumption | with_reducible refine Below.alloc ?_ ?_ _ | with_reducible refine Below.setCell ?_ ?_ _ | with_reducible refine Below.drew ?_ | with_reducible refine Below.drewN ?_ _ | with_reducible refine Below.ext ?_ (by assumption) | (simp <;> omega) | omega))) (HX5.out.rd.ext (by repeat' (first | with_reducible exact Below.refl _ _ | with_reducible assumption | with_reducible refine Below.alloc ?_ ?_ _ | with_reducible refine Below.setCell ?_ ?_ _ | with_reducible refine Below.drew ?_ | with_reducible refine Below.drewN ?_ _ | with_reducible refine Below.ext ?_ (by assumption) | (simp <;> omega) | omega))) (HX5.out.rdm.ext (by repeat' (first | with_reducible exact Below.refl _ _ | with_reducible assumption | with_reducible refine Below.alloc ?_ ?_ _ | with_reducible refine Below.setCell ?_ ?_ _ | with_reducible refine Below.drew ?_ | with_reducible refine Below.drewN ?_ _ | with_reducible refine Below.ext ?_ (by assumption) | (simp <;> omega) | omega))) true (Lib.hid (by rw [HZ8.out, HZ5.out]; simp))).mono ?_
  rintro e w9 ⟨rfl, hb9⟩
  obtain ⟨hc9, hf9⟩ := bcell hb9
  have hm9 : w8.heap.size ≤ w9.heap.size := by (have hss := hb9.size; first | omega | (simp at hss <;> omega))
  have hs9_0 : w.heap.size < w9.heap.size := by (have hss := hb9.size; first | omega | (simp at hss <;> omega))
  go_wp2_with fail
  refine (toBoxS_any a0 _ _ _ (Ha0.out.ext (by repeat' (first | with_reducible exact Below.refl _ _ | with_reducible assumption | with_reducible refine Below.alloc ?_ ?_ _ | with_reducible refine Below.setCell ?_ ?_ _ | with_reducible refine Below.drew ?_ | with_reducible refine Below.drewN ?_ _ | with_reducible refine Below.ext ?_ (by assumption) | (simp <;> omega) | omega))) (Ha0M.out.ext (by repeat' (first | with_reducible exact Below.refl _ _ | with_reducible assumption | with_reducible refine Below.alloc ?_ ?_ _ | with_reducible refine Below.setCell ?_ ?_ _ | with_reducible refine Below.drew ?_ | with_reducible refine Below.drewN ?_ _ | with_reducible refine Below.ext ?_ (by assumption) | (simp <;> omega) | omega))) hla0 Hlm0.out).mono ?_
  rintro e w10 ⟨gx10, zs10, rfl, hown, hqz, hb10⟩
  have HX10 := Lib.hid hown; have HZ10 := Lib.hid hqz; clear hown hqz
  obtain ⟨hc10, hf10⟩ := bcell hb10
  have hm10 : w9.heap.size ≤ w10.heap.size := by (have hss := hb10.size; first | omega | (simp at hss <;> omega))
  have hs10_0 : w.heap.size < w10.heap.size := by (have hss := hb10.size; first | omega | (simp at hss <;> omega))
  go_wp2_with fail
  refine (eqBoxS_any zs6 zs10 _ _ _ _ _ (HX6.out.rd.ext (by repeat' (first | with_reducible exact Below.refl _ _ | with_reducible assumption | with_reducible refine Below.alloc ?_ ?_ _ | with_reducible refine Below.setCell ?_ ?_ _ | with_reducible refine Below.drew ?_ | with_reducible refine Below.drewN ?_ _ | with_reducible refine Below.ext ?_ (by assumption) | (simp <;> omega) | omega))) (HX6.out.rdm.ext (by repeat' (first | with_reducible exact Below.refl _ _ | with_reducible assumption | with_reducible refine Below.alloc ?_ ?_ _ | with_reducible refine Below.setCell ?_ ?_ _ | with_reducible refine Below.drew ?_ | with_reducible refine Below.drewN ?_ _ | with_reducible refine Below.ext ?_ (by assumption) | (simp <;> omega) | omega))) (HX10.out.rd.ext (by repeat' (first | with_reducible exact Below.refl _ _ | with_reducible assumption | with_reducible refine Below.alloc ?_ ?_ _ | with_reducible refine Below.setCell ?_ ?_ _ | with_reducible refine Below.drew ?_ | with_reducible refine Below.drewN ?_ _ | with_reducible refine Below.ext ?_ (by assumption) | (simp <;> omega) | omega))) (HX10.out.rdm.ext (by repeat' (first | with_reducible exact Below.refl _ _ | with_reducible assumption | with_reducible refine Below.alloc ?_ ?_ _ | with_reducible refine Below.setCell ?_ ?_ _ | with_reducible refine Below.drew ?_ | with_reducible refine Below.drewN ?_ _ | with_reducible refine Below.ext ?_ (by assumption) | (simp <;> omega) | omega))) true (Lib.hid (by rw [HZ6.out, HZ10.out]; simp))).mono ?_
  rintro e w11 ⟨rfl, hb11⟩
  obtain ⟨hc11, hf11⟩ := bcell hb11
  have hm11 : w10.heap.size ≤ w11.heap.size := by (have hss := hb11.size; first | omega | (simp at hss <;> omega))
  have hs11_0 : w.heap.size < w11.heap.size := by (have hss := hb11.size; first | omega | (simp at hss <;> omega))
  go_wp2_with fail
  refine (markBoxS_any zs6 _ _ _ (1) _ (HX6.out.ext (by repeat' (first | with_reducible exact Below.refl _ _ | with_reducible assumption | with_reducible refine Below.alloc ?_ ?_ _ | with_reducible refine Below.setCell ?_ ?_ _ | with_reducible refine Below.drew ?_ | with_reducible refine Below.drewN ?_ _ | with_reducible refine Below.ext ?_ (by assumption) | (simp <;> omega) | omega))) (by omega) (by omega) (by rw [cntB_box HZ6.out]; omega)).mono ?_
  rintro e w12 ⟨rfl, hown, hg120⟩
  have HM12 := Lib.hid hown
  clear hown
  have hg12 := hg120
  clear hg120
  have hroot12 : Below w.heap.size w w12 := (show Below w.heap.size w w11 from by repeat' (first | with_reducible exact Below.refl _ _ | with_reducible assumption | with_reducible refine Below.alloc ?_ ?_ _ | with_reducible refine Below.setCell ?_ ?_ _ | with_reducible refine Below.drew ?_ | with_reducible refine Below.drewN ?_ _ | with_reducible refine Below.ext ?_ (by assumption) | (simp <;> omega) | omega)).trans (hg12.below (fun x hx => by (have := (HX6.out.rows_lt x hx).1; first | omega | (simp at this; omega))) (by (first | omega | (simp <;> omega))))
  obtain ⟨hc12, hf12⟩ := hg12.roff
  have hm12 : w11.heap.size ≤ w12.heap.size := hg12.size
  have hs12_0 : w.heap.size < w12.heap.size := by omega
  have hn12_0 : ROff _ (w.heap.size) := fun hS => by (have hq := HX6.out.rows_lt _ hS; first | omega | (simp at hq; omega))
  have HR12_8 := Lib.hid (OwnBs.chg (HX8.out.ext (by repeat' (first | with_reducible exact Below.refl _ _ | with_reducible assumption | with_reducible refine Below.alloc ?_ ?_ _ | with_reducible refine Below.setCell ?_ ?_ _ | with_reducible refine Below.drew ?_ | with_reducible refine Below.drewN ?_ _ | with_reducible refine Below.ext ?_ (by assumption) | (simp <;> omega) | omega))) hg12 (fun x hx hS => by (have h8 := HX8.out.rows_lt x hx; have h9 := HX6.out.rows_lt x hS; first | omega | (simp at h8 h9; omega))))
  have HR12_5 := Lib.hid (OwnBs.chg (HX5.out.ext (by repeat' (first | with_reducible exact Below.refl _ _ | with_reducible assumption | with_reducible refine Below.alloc ?_ ?_ _ | with_reducible refine Below.setCell ?_ ?_ _ | with_reducible refine Below.drew ?_ | with_reducible refine Below.drewN ?_ _ | with_reducible refine Below.ext ?_ (by assumption) | (simp <;> omega) | omega))) hg12 (fun x hx hS => by (have h8 := HX5.out.rows_lt x hx; have h9 := HX6.out.rows_lt x hS; first | omega | (simp at h8 h9; omega))))
  clear hg12
  have hcx12 : cntB zs6 ≤ 3145728 := by (rw [cntB_box HZ6.out]; exact hcb0)
  go_wp2_with fail
  refine (eqBoxS_any zs8 zs5 _ _ _ _ _ (HR12_8.out.rd.ext (by repeat' (first | with_reducible exact Below.refl _ _ | with_reducible assumption | with_reducible refine Below.alloc ?_ ?_ _ | with_reducible refine Below.setCell ?_ ?_ _ | with_reducible refine Below.drew ?_ | with_reducible refine Below.drewN ?_ _ | with_reducible refine Below.ext ?_ (by assumption) | (simp <;> omega) | omega))) (HR12_8.out.rdm.ext (by repeat' (first | with_reducible exact Below.refl _ _ | with_reducible assumption | with_reducible refine Below.alloc ?_ ?_ _ | with_reducible refine Below.setCell ?_ ?_ _ | with_reducible refine Below.drew ?_ | with_reducible refine Below.drewN ?_ _ | with_reducible refine Below.ext ?_ (by assumption) | (simp <;> omega) | omega))) (HR12_5.out.rd.ext (by repeat' (first | with_reducible exact Below.refl _ _ | with_reducible assumption | with_reducible refine Below.alloc ?_ ?_ _ | with_reducible refine Below.setCell ?_ ?_ _ | with_reducible refine Below.drew ?_ | with_reducible refine Below.drewN ?_ _ | with_reducible refine Below.ext ?_ (by assumption) | (simp <;> omega) | omega))) (HR12_5.out.rdm.ext (by repeat' (first | with_reducible exact Below.refl _ _ | with_reducible assumption | with_reducible refine Below.alloc ?_ ?_ _ | with_reducible refine Below.setCell ?_ ?_ _ | with_reducible refine Below.drew ?_ | with_reducible refine Below.drewN ?_ _ | with_reducible refine Below.ext ?_ (by assumption) | (simp <;> omega) | omega))) true (Lib.hid (by rw [HZ8.out, HZ5.out]; simp))).mono ?_
  rintro e w13 ⟨rfl, hb13⟩
  obtain ⟨hc13, hf13⟩ := bcell hb13
  have hm13 : w12.heap.size ≤ w13.heap.size := by (have hss := hb13.size; first | omega | (simp at hss <;> omega))
  have hs13_0 : w.heap.size < w13.heap.size := by (have hss := hb13.size; first | omega | (simp at hss <;> omega))
  have hcg : cntB zs8 ≤ 3145728 := by (rw [cntB_D, HZ8.out]; exact hcr)
  go_wp2_with fail
  refine (markBoxS_any zs8 _ _ _ 1 _ (HR12_8.out.ext (by repeat' (first | with_reducible exact Below.refl _ _ | with_reducible assumption | with_reducible refine Below.alloc ?_ ?_ _ | with_reducible refine Below.setCell ?_ ?_ _ | with_reducible refine Below.drew ?_ | with_reducible refine Below.drewN ?_ _ | with_reducible refine Below.ext ?_ (by assumption) | (simp <;> omega) | omega))) (by omega) (by omega) (by omega)).mono ?_
  rintro e w14 ⟨rfl, hown, hg140⟩
  have HM14 := Lib.hid hown
  clear hown
  have hg14 := hg140
  clear hg140
  have hroot14 : Below w.heap.size w w14 := (show Below w.heap.size w w13 from by repeat' (first | with_reducible exact Below.refl _ _ | with_reducible assumption | with_reducible refine Below.alloc ?_ ?_ _ | with_reducible refine Below.setCell ?_ ?_ _ | with_reducible refine Below.drew ?_ | with_reducible refine Below.drewN ?_ _ | with_reducible refine Below.ext ?_ (by assumption) | (simp <;> omega) | omega)).trans (hg14.below (fun x hx => by (have := (HX8.out.rows_lt x hx).1; first | omega | (simp at this; omega))) (by (first | omega | (simp <;> omega))))
  obtain ⟨hc14, hf14⟩ := hg14.roff
  have hm14 : w13.heap.size ≤ w14.heap.size := hg14.size
  have hs14_0 : w.heap.size < w14.heap.size := by omega
  have hn14_0 : ROff _ (w.heap.size) := fun hS => by (have hq := HX8.out.rows_lt _ hS; first | omega | (simp at hq; omega))
  have HR14_5 := Lib.hid (OwnBs.chg (HR12_5.out.ext (by repeat' (first | with_reducible exact Below.refl _ _ | with_reducible assumption | with_reducible refine Below.alloc ?_ ?_ _ | with_reducible refine Below.setCell ?_ ?_ _ | with_reducible refine Below.drew ?_ | with_reducible refine Below.drewN ?_ _ | with_reducible refine Below.ext ?_ (by assumption) | (simp <;> omega) | omega))) hg14 (fun x hx hS => by (have h8 := HX5.out.rows_lt x hx; have h9 := HX8.out.rows_lt x hS; first | omega | (simp at h8 h9; omega))))
  clear hg14
  have HGR : Hid (Rd w14 _ _ 4 zs8.length ((markTo zs8 1 zs8.length).flatMap PBox.cells)) := Lib.hid (by have h := HM14.out.rd; rw [markTo_len] at h; exact h)
  have HGM := Lib.hid HM14.out.rdm
  go_wp2_with fail
  refine (heldBoxS_any zs8 _ _ 1 _ (HGR.out.ext (by repeat' (first | with_reducible exact Below.refl _ _ | with_reducible assumption | with_reducible refine Below.alloc ?_ ?_ _ | with_reducible refine Below.setCell ?_ ?_ _ | with_reducible refine Below.drew ?_ | with_reducible refine Below.drewN ?_ _ | with_reducible refine Below.ext ?_ (by assumption) | (simp <;> omega) | omega))) (HGM.out.ext (by repeat' (first | with_reducible exact Below.refl _ _ | with_reducible assumption | with_reducible refine Below.alloc ?_ ?_ _ | with_reducible refine Below.setCell ?_ ?_ _ | with_reducible refine Below.drew ?_ | with_reducible refine Below.drewN ?_ _ | with_reducible refine Below.ext ?_ (by assumption) | (simp <;> omega) | omega))) (by omega) (by omega) (by omega)).mono ?_
  rintro e w15 ⟨rfl, hb15⟩
  obtain ⟨hc15, hf15⟩ := bcell hb15
  have hm15 : w14.heap.size ≤ w15.heap.size := by (have hss := hb15.size; first | omega | (simp at hss <;> omega))
  have hs15_0 : w.heap.size < w15.heap.size := by (have hss := hb15.size; first | omega | (simp at hss <;> omega))
  go_wp2_with fail
  go_region_held3 (fun w' => Below w15.heap.size w15 w' ∧ (∀ b o, b < w15.heap.size → w'.cell? ⟨b, o, none⟩ = w15.cell? ⟨b, o, none⟩)) (first | with_reducible exact sBeg _ | with_reducible exact sExt (by assumption) (by assumption)) ((first | (go_at_call_of 27 (a0); refine (toBoxS_any a0 _ _ _ (Ha0.out.ext (by repeat' (first | with_reducible exact Below.refl _ _ | with_reducible assumption | with_reducible refine Below.alloc ?_ ?_ _ | with_reducible refine Below.setCell ?_ ?_ _ | with_reducible refine Below.drew ?_ | with_reducible refine Below.drewN ?_ _ | with_reducible refine Below.ext ?_ (by assumption) | (simp <;> omega) | omega))) (Ha0M.out.ext (by repeat' (first | with_reducible exact Below.refl _ _ | with_reducible assumption | with_reducible refine Below.alloc ?_ ?_ _ | with_reducible refine Below.setCell ?_ ?_ _ | with_reducible refine Below.drew ?_ | with_reducible refine Below.drewN ?_ _ | with_reducible refine Below.ext ?_ (by assumption) | (simp <;> omega) | omega))) hla0 Hlm0.out).mono ?_; rintro e w16 ⟨gx16, zs16, rfl, hown, hqz, hb16⟩; have HX16 := Lib.hid hown; have HZ16 := Lib.hid hqz; clear hown hqz; have hzz16 := hb16.size; (try simp at hzz16)) | (go_at_call_of 28 (a1.kind); refine (toCommit_any a1 _).mono ?_; rintro e w17 ⟨rfl, hb17⟩; have hzz17 := hb17.size; (try simp at hzz17)) | (go_at_call_of 38 (zs16); refine (implApplied_law zs16 _ _ a1 _ (HX16.out.rd.ext (by repeat' (first | with_reducible exact Below.refl _ _ | with_reducible assumption | with_reducible refine Below.alloc ?_ ?_ _ | with_reducible refine Below.setCell ?_ ?_ _ | with_reducible refine Below.drew ?_ | with_reducible refine Below.drewN ?_ _ | with_reducible refine Below.ext ?_ (by assumption) | (simp <;> omega) | omega))) (HX16.out.rdm.ext (by repeat' (first | with_reducible exact Below.refl _ _ | with_reducible assumption | with_reducible refine Below.alloc ?_ ?_ _ | with_reducible refine Below.setCell ?_ ?_ _ | with_reducible refine Below.drew ?_ | with_reducible refine Below.drewN ?_ _ | with_reducible refine Below.ext ?_ (by assumption) | (simp <;> omega) | omega))) (by rw [box_len HZ16.out]; exact hla0) (box_mlen HZ16.out Hlm0.out) (box_names HZ16.out Hgsn0.out) (box_texts HZ16.out Hgst0.out) g1name g1text (HMX.out.ext (by repeat' (first | with_reducible exact Below.refl _ _ | with_reducible assumption | with_reducible refine Below.alloc ?_ ?_ _ | with_reducible refine Below.setCell ?_ ?_ _ | with_reducible refine Below.drew ?_ | with_reducible refine Below.drewN ?_ _ | with_reducible refine Below.ext ?_ (by assumption) | (simp <;> omega) | omega))) rr rok (Lib.hid (by rw [HZ16.out]; exact HREL.out))).mono ?_; rintro e w18 ⟨ga18, qa18, zs18, rfl, hown, hqz, hb18⟩; have HX18 := Lib.hid hown; have HZ18 := Lib.hid hqz; clear hown hqz; have hzz18 := hb18.size; (try simp at hzz18))))
  have hbq18 : Ext w15 w18 := Below.ext (Below.ext (Below.ext ((Below.refl _ _).drew) hb16) hb17) hb18
  obtain ⟨hc18, hf18⟩ := bcell hbq18
  have hm18 : w15.heap.size ≤ w18.heap.size := by (have hss := hbq18.size; first | omega | (simp at hss <;> omega))
  have hs18_0 : w.heap.size < w18.heap.size := by (have hss := hbq18.size; first | omega | (simp at hss <;> omega))
  go_wp2_with fail
  refine (eqBoxS_any zs18 zs5 _ _ _ _ _ (HX18.out.rd.ext (by repeat' (first | with_reducible exact Below.refl _ _ | with_reducible assumption | with_reducible refine Below.alloc ?_ ?_ _ | with_reducible refine Below.setCell ?_ ?_ _ | with_reducible refine Below.drew ?_ | with_reducible refine Below.drewN ?_ _ | with_reducible refine Below.ext ?_ (by assumption) | (simp <;> omega) | omega))) (HX18.out.rdm.ext (by repeat' (first | with_reducible exact Below.refl _ _ | with_reducible assumption | with_reducible refine Below.alloc ?_ ?_ _ | with_reducible refine Below.setCell ?_ ?_ _ | with_reducible refine Below.drew ?_ | with_reducible refine Below.drewN ?_ _ | with_reducible refine Below.ext ?_ (by assumption) | (simp <;> omega) | omega))) (HR14_5.out.rd.ext (by repeat' (first | with_reducible exact Below.refl _ _ | with_reducible assumption | with_reducible refine Below.alloc ?_ ?_ _ | with_reducible refine Below.setCell ?_ ?_ _ | with_reducible refine Below.drew ?_ | with_reducible refine Below.drewN ?_ _ | with_reducible refine Below.ext ?_ (by assumption) | (simp <;> omega) | omega))) (HR14_5.out.rdm.ext (by repeat' (first | with_reducible exact Below.refl _ _ | with_reducible assumption | with_reducible refine Below.alloc ?_ ?_ _ | with_reducible refine Below.setCell ?_ ?_ _ | with_reducible refine Below.drew ?_ | with_reducible refine Below.drewN ?_ _ | with_reducible refine Below.ext ?_ (by assumption) | (simp <;> omega) | omega))) true (Lib.hid (by rw [HZ18.out, HZ5.out]; simp))).mono ?_
  rintro e w19 ⟨rfl, hb19⟩
  obtain ⟨hc19, hf19⟩ := bcell hb19
  have hm19 : w18.heap.size ≤ w19.heap.size := by (have hss := hb19.size; first | omega | (simp at hss <;> omega))
  have hs19_0 : w.heap.size < w19.heap.size := by (have hss := hb19.size; first | omega | (simp at hss <;> omega))
  go_wp2_with fail
  refine (heldBoxS_any zs8 _ _ 1 _ (HGR.out.ext (by repeat' (first | with_reducible exact Below.refl _ _ | with_reducible assumption | with_reducible refine Below.alloc ?_ ?_ _ | with_reducible refine Below.setCell ?_ ?_ _ | with_reducible refine Below.drew ?_ | with_reducible refine Below.drewN ?_ _ | with_reducible refine Below.ext ?_ (by assumption) | (simp <;> omega) | omega))) (HGM.out.ext (by repeat' (first | with_reducible exact Below.refl _ _ | with_reducible assumption | with_reducible refine Below.alloc ?_ ?_ _ | with_reducible refine Below.setCell ?_ ?_ _ | with_reducible refine Below.drew ?_ | with_reducible refine Below.drewN ?_ _ | with_reducible refine Below.ext ?_ (by assumption) | (simp <;> omega) | omega))) (by omega) (by omega) (by omega)).mono ?_
  rintro e w20 ⟨rfl, hb20⟩
  obtain ⟨hc20, hf20⟩ := bcell hb20
  have hm20 : w19.heap.size ≤ w20.heap.size := by (have hss := hb20.size; first | omega | (simp at hss <;> omega))
  have hs20_0 : w.heap.size < w20.heap.size := by (have hss := hb20.size; first | omega | (simp at hss <;> omega))
  go_wp2_with fail
  go_ret
  exact ⟨rfl, by repeat' (first | with_reducible exact Below.refl _ _ | with_reducible assumption | with_reducible refine Below.alloc ?_ ?_ _ | with_reducible refine Below.setCell ?_ ?_ _ | with_reducible refine Below.drew ?_ | with_reducible refine Below.drewN ?_ _ | with_reducible refine Below.ext ?_ (by assumption) | (simp <;> omega) | omega)⟩

end Go.Proofs.Ytdigkaddmpdeoaa
