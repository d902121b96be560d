/-
  The law FnExactFoldAll: its walk, out of the contracts of what it calls.
-/
import Derived.Test.YtmmbdmdfbdmilaaWFoldAll
import Derived.Test.YtmmbdmdfbdmilaaFamClient
import Derived.Test.YtmmbdmdfbdmilaaFamReply
import Derived.Test.YtmmbdmdfbdmilaaMarkClient
import Derived.Test.YtmmbdmdfbdmilaaMarkReply
import Derived.Test.YtmmbdmdfbdmilaaCut
namespace Go.Proofs.Ytmmbdmdfbdmilaa
open Go.RowKit
set_option linter.unusedVariables false
set_option linter.unusedSimpArgs false

theorem sMk {W w : World} (h3 : Below W.heap.size W w) : Below W.heap.size W w ∧ (∀ b o, b < W.heap.size → w.cell? ⟨b, o, none⟩ = W.cell? ⟨b, o, none⟩) := ⟨h3, (bcell h3).1⟩

set_option maxHeartbeats 8000000 in
theorem fnExactFoldAll_walk (a0active : Bool) (a0name : ByteArray) (a0validity : Int) (a0size : Int) (a0known : List DSeen) (a0knownA : Option Addr) (a0knownC : Nat) (a0bad : Bool) (a1 : List DReply) (a1A : Option Addr) (a1C : Nat) (w : World) : (Rd w a0knownA a0knownC 2 a0known.length (a0known.flatMap DSeen.cells)) → (a0name.size ≤ 9223372036854775807) → (Rd w a1A a1C 6 a1.length (a1.flatMap DReply.cells)) → (∀ y ∈ a1, y.name.size ≤ 9223372036854775807 ∧ y.text.size ≤ 9223372036854775807) →
    Calls Try.prog 3 #[.agg #[.bool a0active, .string a0name, .int .i64 a0validity, .int .i64 a0size, .slice a0knownA a0known.length a0knownC, .bool a0bad], .slice a1A a1.length a1C] w fun e w' => e = .returned (.bool true) ∧ Below w.heap.size w w' := by
  intro a0knownR g0name a1R gs1
  obtain ⟨ractive, hractive⟩ : ∃ r, (foldAll ⟨a0active, a0name, a0validity, a0size, a0known, a0bad⟩ a1).active = r := ⟨_, rfl⟩
  have Hractive := Lib.hid hractive
  clear hractive
  obtain ⟨rname, hrname⟩ : ∃ r, (foldAll ⟨a0active, a0name, a0validity, a0size, a0known, a0bad⟩ a1).name = r := ⟨_, rfl⟩
  have Hrname := Lib.hid hrname
  clear hrname
  obtain ⟨rvalidity, hrvalidity⟩ : ∃ r, (foldAll ⟨a0active, a0name, a0validity, a0size, a0known, a0bad⟩ a1).validity = r := ⟨_, rfl⟩
  have Hrvalidity := Lib.hid hrvalidity
  clear hrvalidity
  obtain ⟨rsize, hrsize⟩ : ∃ r, (foldAll ⟨a0active, a0name, a0validity, a0size, a0known, a0bad⟩ a1).size = r := ⟨_, rfl⟩
  have Hrsize := Lib.hid hrsize
  clear hrsize
  obtain ⟨rknown, hrknown⟩ : ∃ r, (foldAll ⟨a0active, a0name, a0validity, a0size, a0known, a0bad⟩ a1).known = r := ⟨_, rfl⟩
  have Hrknown := Lib.hid hrknown
  clear hrknown
  obtain ⟨rbad, hrbad⟩ : ∃ r, (foldAll ⟨a0active, a0name, a0validity, a0size, a0known, a0bad⟩ a1).bad = r := ⟨_, rfl⟩
  have Hrbad := Lib.hid hrbad
  clear hrbad
  have Ha0known := Lib.hid a0knownR
  clear a0knownR
  have Ha1 := Lib.hid a1R
  clear a1R
  have Hgs1 := Lib.hid gs1
  clear gs1
  go_enter Try.func3, Try.ntmps3
  go_wp2_with fail
  refine (szClient_any a0active a0name a0validity a0size a0known _ _ a0bad 1048576 _ (Ha0known.out.ext (by repeat' (first | with_reducible exact Below.refl _ _ | with_reducible assumption | with_reducible refine Below.alloc ?_ ?_ _ | with_reducible refine Below.setCell ?_ ?_ _ | with_reducible refine Below.drew ?_ | with_reducible refine Below.drewN ?_ _ | with_reducible refine Below.ext ?_ (by assumption) | (simp <;> omega) | omega))) (by omega) (by omega) g0name).mono ?_
  rintro e w1 ⟨left1, rfl, hz1, hb1⟩
  obtain ⟨hc1, hf1⟩ := bcell hb1
  have hs1_0 : w.heap.size < w1.heap.size := by (have hss := hb1.size; first | omega | (simp at hss <;> omega))
  rcases hz1 with hz1 | ⟨hz10, hz1⟩
  · go_wp2_with fail
    go_ret
    exact ⟨rfl, by repeat' (first | with_reducible exact Below.refl _ _ | with_reducible assumption | with_reducible refine Below.alloc ?_ ?_ _ | with_reducible refine Below.setCell ?_ ?_ _ | with_reducible refine Below.drew ?_ | with_reducible refine Below.drewN ?_ _ | with_reducible refine Below.ext ?_ (by assumption) | (simp <;> omega) | omega)⟩
  have hlt1 : left1 ≤ 1048576 := by omega
  have hla0known : a0known.length ≤ 1048576 := by (have := DSeen.len_le a0known; omega)
  clear hz1
  go_wp2_with fail
  refine (szReplyS_any a1 _ _ left1 _ (Ha1.out.ext (by repeat' (first | with_reducible exact Below.refl _ _ | with_reducible assumption | with_reducible refine Below.alloc ?_ ?_ _ | with_reducible refine Below.setCell ?_ ?_ _ | with_reducible refine Below.drew ?_ | with_reducible refine Below.drewN ?_ _ | with_reducible refine Below.ext ?_ (by assumption) | (simp <;> omega) | omega))) (by omega) (by omega) (fun y hy => (Hgs1.out y hy).1) (fun y hy => (Hgs1.out y hy).2)).mono ?_
  rintro e w2 ⟨left2, rfl, hz2, hb2⟩
  obtain ⟨hc2, hf2⟩ := bcell hb2
  have hm2 : w1.heap.size ≤ w2.heap.size := by (have hss := hb2.size; first | omega | (simp at hss <;> omega))
  have hs2_0 : w.heap.size < w2.heap.size := by (have hss := hb2.size; first | omega | (simp at hss <;> omega))
  rcases hz2 with hz2 | ⟨hz20, hz2⟩
  · go_wp2_with fail
    go_ret
    exact ⟨rfl, by repeat' (first | with_reducible exact Below.refl _ _ | with_reducible assumption | with_reducible refine Below.alloc ?_ ?_ _ | with_reducible refine Below.setCell ?_ ?_ _ | with_reducible refine Below.drew ?_ | with_reducible refine Below.drewN ?_ _ | with_reducible refine Below.ext ?_ (by assumption) | (simp <;> omega) | omega)⟩
  have hlt2 : left2 ≤ 1048576 := by omega
  have hla1 : a1.length ≤ 1048576 := by (have := DReply.len_le a1; omega)
  clear hz2
  have hlr : rknown.length ≤ 2097152 := by (rw [← Hrknown.out]; have := foldTo_len ⟨a0active, a0name, a0validity, a0size, a0known, a0bad⟩ a1 a1.length; unfold foldAll; dsimp only at this ⊢; omega)
  go_wp2_with fail
  refine (toClient_any a0active a0name a0validity a0size a0known _ _ a0bad _ (Ha0known.out.ext (by repeat' (first | with_reducible exact Below.refl _ _ | with_reducible assumption | with_reducible refine Below.alloc ?_ ?_ _ | with_reducible refine Below.setCell ?_ ?_ _ | with_reducible refine Below.drew ?_ | with_reducible refine Below.drewN ?_ _ | with_reducible refine Below.ext ?_ (by assumption) | (simp <;> omega) | omega))) hla0known).mono ?_
  rintro e w3 ⟨gx3, rfl, hown, hb3⟩
  have HX3 := Lib.hid (Own.of_row hown); clear hown
  obtain ⟨hc3, hf3⟩ := bcell hb3
  have hm3 : w2.heap.size ≤ w3.heap.size := by (have hss := hb3.size; first | omega | (simp at hss <;> omega))
  have hs3_0 : w.heap.size < w3.heap.size := by (have hss := hb3.size; first | omega | (simp at hss <;> omega))
  go_wp2_with fail
  refine (toReplyS_any a1 _ _ _ (Ha1.out.ext (by repeat' (first | with_reducible exact Below.refl _ _ | with_reducible assumption | with_reducible refine Below.alloc ?_ ?_ _ | with_reducible refine Below.setCell ?_ ?_ _ | with_reducible refine Below.drew ?_ | with_reducible refine Below.drewN ?_ _ | with_reducible refine Below.ext ?_ (by assumption) | (simp <;> omega) | omega))) hla1).mono ?_
  rintro e w4 ⟨gx4, rfl, hown, hb4⟩
  have HX4 := Lib.hid (Own.of_row hown); clear hown
  obtain ⟨hc4, hf4⟩ := bcell hb4
  have hm4 : w3.heap.size ≤ w4.heap.size := by (have hss := hb4.size; first | omega | (simp at hss <;> omega))
  have hs4_0 : w.heap.size < w4.heap.size := by (have hss := hb4.size; first | omega | (simp at hss <;> omega))
  go_wp2_with fail
  refine (specFoldAll_any a0active a0name a0validity a0size a0known _ _ a0bad a1 _ _ _ ((Rd.of_Own HX3.out).ext (by repeat' (first | with_reducible exact Below.refl _ _ | with_reducible assumption | with_reducible refine Below.alloc ?_ ?_ _ | with_reducible refine Below.setCell ?_ ?_ _ | with_reducible refine Below.drew ?_ | with_reducible refine Below.drewN ?_ _ | with_reducible refine Below.ext ?_ (by assumption) | (simp <;> omega) | omega))) ((Rd.of_Own HX4.out).ext (by repeat' (first | with_reducible exact Below.refl _ _ | with_reducible assumption | with_reducible refine Below.alloc ?_ ?_ _ | with_reducible refine Below.setCell ?_ ?_ _ | with_reducible refine Below.drew ?_ | with_reducible refine Below.drewN ?_ _ | with_reducible refine Below.ext ?_ (by assumption) | (simp <;> omega) | omega))) (by omega) (by omega)  ractive Hractive rname Hrname rvalidity Hrvalidity rsize Hrsize rknown Hrknown rbad Hrbad).mono ?_
  rintro e w5 ⟨ga5, qa5, rfl, hown, hb5⟩
  have HX5 := Lib.hid hown; clear hown
  obtain ⟨hc5, hf5⟩ := bcell hb5
  have hm5 : w4.heap.size ≤ w5.heap.size := by (have hss := hb5.size; first | omega | (simp at hss <;> omega))
  have hs5_0 : w.heap.size < w5.heap.size := by (have hss := hb5.size; first | omega | (simp at hss <;> omega))
  go_wp2_with fail
  refine (toClient_any a0active a0name a0validity a0size a0known _ _ a0bad _ (Ha0known.out.ext (by repeat' (first | with_reducible exact Below.refl _ _ | with_reducible assumption | with_reducible refine Below.alloc ?_ ?_ _ | with_reducible refine Below.setCell ?_ ?_ _ | with_reducible refine Below.drew ?_ | with_reducible refine Below.drewN ?_ _ | with_reducible refine Below.ext ?_ (by assumption) | (simp <;> omega) | omega))) hla0known).mono ?_
  rintro e w6 ⟨gx6, rfl, hown, hb6⟩
  have HX6 := Lib.hid (Own.of_row hown); clear hown
  obtain ⟨hc6, hf6⟩ := bcell hb6
  have hm6 : w5.heap.size ≤ w6.heap.size := by (have hss := hb6.size; first | omega | (simp at hss <;> omega))
  have hs6_0 : w.heap.size < w6.heap.size := by (have hss := hb6.size; first | omega | (simp at hss <;> omega))
  have hs6_1 : w5.heap.size < w6.heap.size := by (have hss := hb6.size; first | omega | (simp at hss <;> omega))
  go_wp2_with fail
  refine (toReplyS_any a1 _ _ _ (Ha1.out.ext (by repeat' (first | with_reducible exact Below.refl _ _ | with_reducible assumption | with_reducible refine Below.alloc ?_ ?_ _ | with_reducible refine Below.setCell ?_ ?_ _ | with_reducible refine Below.drew ?_ | with_reducible refine Below.drewN ?_ _ | with_reducible refine Below.ext ?_ (by assumption) | (simp <;> omega) | omega))) hla1).mono ?_
  rintro e w7 ⟨gx7, rfl, hown, hb7⟩
  have HX7 := Lib.hid (Own.of_row hown); clear hown
  obtain ⟨hc7, hf7⟩ := bcell hb7
  have hm7 : w6.heap.size ≤ w7.heap.size := by (have hss := hb7.size; first | omega | (simp at hss <;> omega))
  have hs7_0 : w.heap.size < w7.heap.size := by (have hss := hb7.size; first | omega | (simp at hss <;> omega))
  have hs7_1 : w5.heap.size < w7.heap.size := by (have hss := hb7.size; first | omega | (simp at hss <;> omega))
  have hs7_2 : w6.heap.size < w7.heap.size := by (have hss := hb7.size; first | omega | (simp at hss <;> omega))
  go_wp2_with fail
  refine (implFoldAll_any a0active a0name a0validity a0size a0known _ _ a0bad a1 _ _ _ ((Rd.of_Own HX6.out).ext (by repeat' (first | with_reducible exact Below.refl _ _ | with_reducible assumption | with_reducible refine Below.alloc ?_ ?_ _ | with_reducible refine Below.setCell ?_ ?_ _ | with_reducible refine Below.drew ?_ | with_reducible refine Below.drewN ?_ _ | with_reducible refine Below.ext ?_ (by assumption) | (simp <;> omega) | omega))) ((Rd.of_Own HX7.out).ext (by repeat' (first | with_reducible exact Below.refl _ _ | with_reducible assumption | with_reducible refine Below.alloc ?_ ?_ _ | with_reducible refine Below.setCell ?_ ?_ _ | with_reducible refine Below.drew ?_ | with_reducible refine Below.drewN ?_ _ | with_reducible refine Below.ext ?_ (by assumption) | (simp <;> omega) | omega))) (by omega) (by omega)  ractive Hractive rname Hrname rvalidity Hrvalidity rsize Hrsize rknown Hrknown rbad Hrbad).mono ?_
  rintro e w8 ⟨ga8, qa8, rfl, hown, hb8⟩
  have HX8 := Lib.hid hown; clear hown
  obtain ⟨hc8, hf8⟩ := bcell hb8
  have hm8 : w7.heap.size ≤ w8.heap.size := by (have hss := hb8.size; first | omega | (simp at hss <;> omega))
  have hs8_0 : w.heap.size < w8.heap.size := by (have hss := hb8.size; first | omega | (simp at hss <;> omega))
  have hs8_1 : w5.heap.size < w8.heap.size := by (have hss := hb8.size; first | omega | (simp at hss <;> omega))
  have hs8_2 : w6.heap.size < w8.heap.size := by (have hss := hb8.size; first | omega | (simp at hss <;> omega))
  go_wp2_with fail
  refine (eqClient_any ractive rname rvalidity rsize rknown _ _ rbad ractive rname rvalidity rsize rknown _ _ rbad _ ((Rd.of_Own HX8.out).ext (by repeat' (first | with_reducible exact Below.refl _ _ | with_reducible assumption | with_reducible refine Below.alloc ?_ ?_ _ | with_reducible refine Below.setCell ?_ ?_ _ | with_reducible refine Below.drew ?_ | with_reducible refine Below.drewN ?_ _ | with_reducible refine Below.ext ?_ (by assumption) | (simp <;> omega) | omega))) ((Rd.of_Own HX5.out).ext (by repeat' (first | with_reducible exact Below.refl _ _ | with_reducible assumption | with_reducible refine Below.alloc ?_ ?_ _ | with_reducible refine Below.setCell ?_ ?_ _ | with_reducible refine Below.drew ?_ | with_reducible refine Below.drewN ?_ _ | with_reducible refine Below.ext ?_ (by assumption) | (simp <;> omega) | omega))) true (by simp [Hid])).mono ?_
  rintro e w9 ⟨rfl, hb9⟩
  obtain ⟨hc9, hf9⟩ := bcell hb9
  have hm9 : w8.heap.size ≤ w9.heap.size := by (have hss := hb9.size; first | omega | (simp at hss <;> omega))
  have hs9_0 : w.heap.size < w9.heap.size := by (have hss := hb9.size; first | omega | (simp at hss <;> omega))
  have hs9_1 : w5.heap.size < w9.heap.size := by (have hss := hb9.size; first | omega | (simp at hss <;> omega))
  have hs9_2 : w6.heap.size < w9.heap.size := by (have hss := hb9.size; first | omega | (simp at hss <;> omega))
  have hs9_3 : w8.heap.size < w9.heap.size := by (have hss := hb9.size; first | omega | (simp at hss <;> omega))
  go_wp2_with fail
  go_region_held3 (fun w' => Below w9.heap.size w9 w' ∧ (∀ b o, b < w9.heap.size → w'.cell? ⟨b, o, none⟩ = w9.cell? ⟨b, o, none⟩)) (first | with_reducible exact sBeg _ | with_reducible exact sExt (by assumption) (by assumption) | (refine sMk ?_; exact (by repeat' (first | with_reducible exact Below.refl _ _ | with_reducible assumption | with_reducible refine Below.alloc ?_ ?_ _ | with_reducible refine Below.setCell ?_ ?_ _ | with_reducible refine Below.drew ?_ | with_reducible refine Below.drewN ?_ _ | with_reducible refine Below.ext ?_ (by assumption) | (simp <;> omega) | omega)))) ((first | (go_at_call_of 12 (a0known); refine (toClient_any a0active a0name a0validity a0size a0known _ _ a0bad _ (Ha0known.out.ext (by repeat' (first | with_reducible exact Below.refl _ _ | with_reducible assumption | with_reducible refine Below.alloc ?_ ?_ _ | with_reducible refine Below.setCell ?_ ?_ _ | with_reducible refine Below.drew ?_ | with_reducible refine Below.drewN ?_ _ | with_reducible refine Below.ext ?_ (by assumption) | (simp <;> omega) | omega))) hla0known).mono ?_; rintro e w10 ⟨gx10, rfl, hown, hb10⟩; have HX10 := Lib.hid (Own.of_row hown); clear hown; have hzz10 := hb10.size; (try simp at hzz10)) | (go_at_call_of 15 (a0known); refine (eqClient_any a0active a0name a0validity a0size a0known _ _ a0bad a0active a0name a0validity a0size a0known _ _ a0bad _ ((Rd.of_Own HX6.out).ext (by repeat' (first | with_reducible exact Below.refl _ _ | with_reducible assumption | with_reducible refine Below.alloc ?_ ?_ _ | with_reducible refine Below.setCell ?_ ?_ _ | with_reducible refine Below.drew ?_ | with_reducible refine Below.drewN ?_ _ | with_reducible refine Below.ext ?_ (by assumption) | (simp <;> omega) | omega))) ((Rd.of_Own HX10.out).ext (by repeat' (first | with_reducible exact Below.refl _ _ | with_reducible assumption | with_reducible refine Below.alloc ?_ ?_ _ | with_reducible refine Below.setCell ?_ ?_ _ | with_reducible refine Below.drew ?_ | with_reducible refine Below.drewN ?_ _ | with_reducible refine Below.ext ?_ (by assumption) | (simp <;> omega) | omega))) true (by simp [Hid])).mono ?_; rintro e w11 ⟨rfl, hb11⟩; have hzz11 := hb11.size; (try simp at hzz11))))
  have hbq11 : Ext w9 w11 := Below.ext (Below.ext ((Below.refl _ _).drew) hb10) hb11
  obtain ⟨hc11, hf11⟩ := bcell hbq11
  have hm11 : w9.heap.size ≤ w11.heap.size := by (have hss := hbq11.size; first | omega | (simp at hss <;> omega))
  have hs11_0 : w.heap.size < w11.heap.size := by (have hss := hbq11.size; first | omega | (simp at hss <;> omega))
  have hs11_1 : w5.heap.size < w11.heap.size := by (have hss := hbq11.size; first | omega | (simp at hss <;> omega))
  have hs11_2 : w6.heap.size < w11.heap.size := by (have hss := hbq11.size; first | omega | (simp at hss <;> omega))
  have hs11_3 : w8.heap.size < w11.heap.size := by (have hss := hbq11.size; first | omega | (simp at hss <;> omega))
  go_wp2_with fail
  refine (toReplyS_any a1 _ _ _ (Ha1.out.ext (by repeat' (first | with_reducible exact Below.refl _ _ | with_reducible assumption | with_reducible refine Below.alloc ?_ ?_ _ | with_reducible refine Below.setCell ?_ ?_ _ | with_reducible refine Below.drew ?_ | with_reducible refine Below.drewN ?_ _ | with_reducible refine Below.ext ?_ (by assumption) | (simp <;> omega) | omega))) hla1).mono ?_
  rintro e w12 ⟨gx12, rfl, hown, hb12⟩
  have HX12 := Lib.hid (Own.of_row hown); clear hown
  obtain ⟨hc12, hf12⟩ := bcell hb12
  have hm12 : w11.heap.size ≤ w12.heap.size := by (have hss := hb12.size; first | omega | (simp at hss <;> omega))
  have hs12_0 : w.heap.size < w12.heap.size := by (have hss := hb12.size; first | omega | (simp at hss <;> omega))
  have hs12_1 : w5.heap.size < w12.heap.size := by (have hss := hb12.size; first | omega | (simp at hss <;> omega))
  have hs12_2 : w6.heap.size < w12.heap.size := by (have hss := hb12.size; first | omega | (simp at hss <;> omega))
  have hs12_3 : w8.heap.size < w12.heap.size := by (have hss := hb12.size; first | omega | (simp at hss <;> omega))
  go_wp2_with fail
  refine (eqReplyS_any a1 a1 _ _ _ _ _ ((Rd.of_Own HX7.out).ext (by repeat' (first | with_reducible exact Below.refl _ _ | with_reducible assumption | with_reducible refine Below.alloc ?_ ?_ _ | with_reducible refine Below.setCell ?_ ?_ _ | with_reducible refine Below.drew ?_ | with_reducible refine Below.drewN ?_ _ | with_reducible refine Below.ext ?_ (by assumption) | (simp <;> omega) | omega))) ((Rd.of_Own HX12.out).ext (by repeat' (first | with_reducible exact Below.refl _ _ | with_reducible assumption | with_reducible refine Below.alloc ?_ ?_ _ | with_reducible refine Below.setCell ?_ ?_ _ | with_reducible refine Below.drew ?_ | with_reducible refine Below.drewN ?_ _ | with_reducible refine Below.ext ?_ (by assumption) | (simp <;> omega) | omega))) true (by simp [Hid])).mono ?_
  rintro e w13 ⟨rfl, hb13⟩
  obtain ⟨hc13, hf13⟩ := bcell hb13
  have hm13 : w12.heap.size ≤ w13.heap.size := by (have hss := hb13.size; first | omega | (simp at hss <;> omega))
  have hs13_0 : w.heap.size < w13.heap.size := by (have hss := hb13.size; first | omega | (simp at hss <;> omega))
  have hs13_1 : w5.heap.size < w13.heap.size := by (have hss := hb13.size; first | omega | (simp at hss <;> omega))
  have hs13_2 : w6.heap.size < w13.heap.size := by (have hss := hb13.size; first | omega | (simp at hss <;> omega))
  have hs13_3 : w8.heap.size < w13.heap.size := by (have hss := hb13.size; first | omega | (simp at hss <;> omega))
  go_wp2_with fail
  refine (markClient_any a0active a0name a0validity a0size a0known _ _ a0bad _ (1) _ (HX6.out.ext (by repeat' (first | with_reducible exact Below.refl _ _ | with_reducible assumption | with_reducible refine Below.alloc ?_ ?_ _ | with_reducible refine Below.setCell ?_ ?_ _ | with_reducible refine Below.drew ?_ | with_reducible refine Below.drewN ?_ _ | with_reducible refine Below.ext ?_ (by assumption) | (simp <;> omega) | omega))) (by omega) (by omega) (by omega)).mono ?_
  rintro e w14 ⟨rfl, hown, hg14⟩
  have HM14 := Lib.hid hown
  clear hown
  have hroot14 : Below w.heap.size w w14 := below_foot (show Below w.heap.size w w13 from by repeat' (first | with_reducible exact Below.refl _ _ | with_reducible assumption | with_reducible refine Below.alloc ?_ ?_ _ | with_reducible refine Below.setCell ?_ ?_ _ | with_reducible refine Below.drew ?_ | with_reducible refine Below.drewN ?_ _ | with_reducible refine Below.ext ?_ (by assumption) | (simp <;> omega) | omega)) (HX6.out.ext (by repeat' (first | with_reducible exact Below.refl _ _ | with_reducible assumption | with_reducible refine Below.alloc ?_ ?_ _ | with_reducible refine Below.setCell ?_ ?_ _ | with_reducible refine Below.drew ?_ | with_reducible refine Below.drewN ?_ _ | with_reducible refine Below.ext ?_ (by assumption) | (simp <;> omega) | omega))) (by (first | omega | (simp <;> omega))) (by (first | omega | (simp <;> omega))) hg14
  obtain ⟨hc14, hf14⟩ := grown_foff hg14
  have hm14 : w13.heap.size ≤ w14.heap.size := hg14.size
  have hs14_0 : w.heap.size < w14.heap.size := by omega
  have hn14_0 : FOff (w.heap.size) _ := FOff.lt HX6.out (by (first | omega | (simp <;> omega)))
  have hs14_1 : w5.heap.size < w14.heap.size := by omega
  have hn14_1 : FOff (w5.heap.size) _ := FOff.lt HX6.out (by (first | omega | (simp <;> omega)))
  have hs14_2 : w6.heap.size < w14.heap.size := by omega
  have hn14_2 : FOff (w6.heap.size) _ := FOff.ge HX6.out (by (first | omega | (simp <;> omega)))
  have hs14_3 : w8.heap.size < w14.heap.size := by omega
  have hn14_3 : FOff (w8.heap.size) _ := FOff.ge HX6.out (by (first | omega | (simp <;> omega)))
  have HR14_7 := Lib.hid (Own.off (HX7.out.ext (by repeat' (first | with_reducible exact Below.refl _ _ | with_reducible assumption | with_reducible refine Below.alloc ?_ ?_ _ | with_reducible refine Below.setCell ?_ ?_ _ | with_reducible refine Below.drew ?_ | with_reducible refine Below.drewN ?_ _ | with_reducible refine Below.ext ?_ (by assumption) | (simp <;> omega) | omega))) hg14 ((Off2.of HX6.out HX7.out (by (first | omega | (simp <;> omega)))).symm))
  have HR14_8 := Lib.hid (Own.off (HX8.out.ext (by repeat' (first | with_reducible exact Below.refl _ _ | with_reducible assumption | with_reducible refine Below.alloc ?_ ?_ _ | with_reducible refine Below.setCell ?_ ?_ _ | with_reducible refine Below.drew ?_ | with_reducible refine Below.drewN ?_ _ | with_reducible refine Below.ext ?_ (by assumption) | (simp <;> omega) | omega))) hg14 ((Off2.of HX6.out HX8.out (by (first | omega | (simp <;> omega)))).symm))
  have HR14_5 := Lib.hid (Own.off (HX5.out.ext (by repeat' (first | with_reducible exact Below.refl _ _ | with_reducible assumption | with_reducible refine Below.alloc ?_ ?_ _ | with_reducible refine Below.setCell ?_ ?_ _ | with_reducible refine Below.drew ?_ | with_reducible refine Below.drewN ?_ _ | with_reducible refine Below.ext ?_ (by assumption) | (simp <;> omega) | omega))) hg14 (Off2.of HX5.out HX6.out (by (first | omega | (simp <;> omega)))))
  clear hg14
  go_wp2_with fail
  refine (markReplyS_any a1 _ _ _ (1 + 2 * a0known.length) _ (HR14_7.out.ext (by repeat' (first | with_reducible exact Below.refl _ _ | with_reducible assumption | with_reducible refine Below.alloc ?_ ?_ _ | with_reducible refine Below.setCell ?_ ?_ _ | with_reducible refine Below.drew ?_ | with_reducible refine Below.drewN ?_ _ | with_reducible refine Below.ext ?_ (by assumption) | (simp <;> omega) | omega))) (by omega) (by omega) (by omega)).mono ?_
  rintro e w15 ⟨rfl, hown, hg15⟩
  have HM15 := Lib.hid hown
  clear hown
  have hroot15 : Below w.heap.size w w15 := below_foot (show Below w.heap.size w w14 from by repeat' (first | with_reducible exact Below.refl _ _ | with_reducible assumption | with_reducible refine Below.alloc ?_ ?_ _ | with_reducible refine Below.setCell ?_ ?_ _ | with_reducible refine Below.drew ?_ | with_reducible refine Below.drewN ?_ _ | with_reducible refine Below.ext ?_ (by assumption) | (simp <;> omega) | omega)) (HR14_7.out.ext (by repeat' (first | with_reducible exact Below.refl _ _ | with_reducible assumption | with_reducible refine Below.alloc ?_ ?_ _ | with_reducible refine Below.setCell ?_ ?_ _ | with_reducible refine Below.drew ?_ | with_reducible refine Below.drewN ?_ _ | with_reducible refine Below.ext ?_ (by assumption) | (simp <;> omega) | omega))) (by (first | omega | (simp <;> omega))) (by (first | omega | (simp <;> omega))) hg15
  obtain ⟨hc15, hf15⟩ := grown_foff hg15
  have hm15 : w14.heap.size ≤ w15.heap.size := hg15.size
  have hs15_0 : w.heap.size < w15.heap.size := by omega
  have hn15_0 : FOff (w.heap.size) _ := FOff.lt HX7.out (by (first | omega | (simp <;> omega)))
  have hs15_1 : w5.heap.size < w15.heap.size := by omega
  have hn15_1 : FOff (w5.heap.size) _ := FOff.lt HX7.out (by (first | omega | (simp <;> omega)))
  have hs15_2 : w6.heap.size < w15.heap.size := by omega
  have hn15_2 : FOff (w6.heap.size) _ := FOff.lt HX7.out (by (first | omega | (simp <;> omega)))
  have hs15_3 : w8.heap.size < w15.heap.size := by omega
  have hn15_3 : FOff (w8.heap.size) _ := FOff.ge HX7.out (by (first | omega | (simp <;> omega)))
  have HR15_8 := Lib.hid (Own.off (HR14_8.out.ext (by repeat' (first | with_reducible exact Below.refl _ _ | with_reducible assumption | with_reducible refine Below.alloc ?_ ?_ _ | with_reducible refine Below.setCell ?_ ?_ _ | with_reducible refine Below.drew ?_ | with_reducible refine Below.drewN ?_ _ | with_reducible refine Below.ext ?_ (by assumption) | (simp <;> omega) | omega))) hg15 ((Off2.of HX7.out HX8.out (by (first | omega | (simp <;> omega)))).symm))
  have HR15_5 := Lib.hid (Own.off (HR14_5.out.ext (by repeat' (first | with_reducible exact Below.refl _ _ | with_reducible assumption | with_reducible refine Below.alloc ?_ ?_ _ | with_reducible refine Below.setCell ?_ ?_ _ | with_reducible refine Below.drew ?_ | with_reducible refine Below.drewN ?_ _ | with_reducible refine Below.ext ?_ (by assumption) | (simp <;> omega) | omega))) hg15 (Off2.of HX5.out HX7.out (by (first | omega | (simp <;> omega)))))
  clear hg15
  go_wp2_with fail
  refine (eqClient_any ractive rname rvalidity rsize rknown _ _ rbad ractive rname rvalidity rsize rknown _ _ rbad _ ((Rd.of_Own HR15_8.out).ext (by repeat' (first | with_reducible exact Below.refl _ _ | with_reducible assumption | with_reducible refine Below.alloc ?_ ?_ _ | with_reducible refine Below.setCell ?_ ?_ _ | with_reducible refine Below.drew ?_ | with_reducible refine Below.drewN ?_ _ | with_reducible refine Below.ext ?_ (by assumption) | (simp <;> omega) | omega))) ((Rd.of_Own HR15_5.out).ext (by repeat' (first | with_reducible exact Below.refl _ _ | with_reducible assumption | with_reducible refine Below.alloc ?_ ?_ _ | with_reducible refine Below.setCell ?_ ?_ _ | with_reducible refine Below.drew ?_ | with_reducible refine Below.drewN ?_ _ | with_reducible refine Below.ext ?_ (by assumption) | (simp <;> omega) | omega))) true (by simp [Hid])).mono ?_
  rintro e w16 ⟨rfl, hb16⟩
  obtain ⟨hc16, hf16⟩ := bcell hb16
  have hm16 : w15.heap.size ≤ w16.heap.size := by (have hss := hb16.size; first | omega | (simp at hss <;> omega))
  have hs16_0 : w.heap.size < w16.heap.size := by (have hss := hb16.size; first | omega | (simp at hss <;> omega))
  have hs16_1 : w5.heap.size < w16.heap.size := by (have hss := hb16.size; first | omega | (simp at hss <;> omega))
  have hs16_2 : w6.heap.size < w16.heap.size := by (have hss := hb16.size; first | omega | (simp at hss <;> omega))
  have hs16_3 : w8.heap.size < w16.heap.size := by (have hss := hb16.size; first | omega | (simp at hss <;> omega))
  go_wp2_with fail
  refine (markClient_any ractive rname rvalidity rsize rknown _ _ rbad _ 1 _ (HR15_8.out.ext (by repeat' (first | with_reducible exact Below.refl _ _ | with_reducible assumption | with_reducible refine Below.alloc ?_ ?_ _ | with_reducible refine Below.setCell ?_ ?_ _ | with_reducible refine Below.drew ?_ | with_reducible refine Below.drewN ?_ _ | with_reducible refine Below.ext ?_ (by assumption) | (simp <;> omega) | omega))) (by omega) (by omega) hlr).mono ?_
  rintro e w17 ⟨rfl, hown, hg17⟩
  have HM17 := Lib.hid hown
  clear hown
  have hroot17 : Below w.heap.size w w17 := below_foot (show Below w.heap.size w w16 from by repeat' (first | with_reducible exact Below.refl _ _ | with_reducible assumption | with_reducible refine Below.alloc ?_ ?_ _ | with_reducible refine Below.setCell ?_ ?_ _ | with_reducible refine Below.drew ?_ | with_reducible refine Below.drewN ?_ _ | with_reducible refine Below.ext ?_ (by assumption) | (simp <;> omega) | omega)) (HR15_8.out.ext (by repeat' (first | with_reducible exact Below.refl _ _ | with_reducible assumption | with_reducible refine Below.alloc ?_ ?_ _ | with_reducible refine Below.setCell ?_ ?_ _ | with_reducible refine Below.drew ?_ | with_reducible refine Below.drewN ?_ _ | with_reducible refine Below.ext ?_ (by assumption) | (simp <;> omega) | omega))) (by (first | omega | (simp <;> omega))) (by (first | omega | (simp <;> omega))) hg17
  obtain ⟨hc17, hf17⟩ := grown_foff hg17
  have hm17 : w16.heap.size ≤ w17.heap.size := hg17.size
  have hs17_0 : w.heap.size < w17.heap.size := by omega
  have hn17_0 : FOff (w.heap.size) _ := FOff.lt HX8.out (by (first | omega | (simp <;> omega)))
  have hs17_1 : w5.heap.size < w17.heap.size := by omega
  have hn17_1 : FOff (w5.heap.size) _ := FOff.lt HX8.out (by (first | omega | (simp <;> omega)))
  have hs17_2 : w6.heap.size < w17.heap.size := by omega
  have hn17_2 : FOff (w6.heap.size) _ := FOff.lt HX8.out (by (first | omega | (simp <;> omega)))
  have hs17_3 : w8.heap.size < w17.heap.size := by omega
  have hn17_3 : FOff (w8.heap.size) _ := FOff.ge HX8.out (by (first | omega | (simp <;> omega)))
  have HR17_5 := Lib.hid (Own.off (HR15_5.out.ext (by repeat' (first | with_reducible exact Below.refl _ _ | with_reducible assumption | with_reducible refine Below.alloc ?_ ?_ _ | with_reducible refine Below.setCell ?_ ?_ _ | with_reducible refine Below.drew ?_ | with_reducible refine Below.drewN ?_ _ | with_reducible refine Below.ext ?_ (by assumption) | (simp <;> omega) | omega))) hg17 (Off2.of HX5.out HX8.out (by (first | omega | (simp <;> omega)))))
  clear hg17
  go_wp2_with fail
  refine (heldClient_any rknown.length ractive rname rvalidity rsize rbad _ _ 1 _ ((Rd.of_Own HM17.out).ext (by repeat' (first | with_reducible exact Below.refl _ _ | with_reducible assumption | with_reducible refine Below.alloc ?_ ?_ _ | with_reducible refine Below.setCell ?_ ?_ _ | with_reducible refine Below.drew ?_ | with_reducible refine Below.drewN ?_ _ | with_reducible refine Below.ext ?_ (by assumption) | (simp <;> omega) | omega))) (by omega) (by omega) hlr).mono ?_
  rintro e w18 ⟨rfl, hb18⟩
  obtain ⟨hc18, hf18⟩ := bcell hb18
  have hm18 : w17.heap.size ≤ w18.heap.size := by (have hss := hb18.size; first | omega | (simp at hss <;> omega))
  have hs18_0 : w.heap.size < w18.heap.size := by (have hss := hb18.size; first | omega | (simp at hss <;> omega))
  have hs18_1 : w5.heap.size < w18.heap.size := by (have hss := hb18.size; first | omega | (simp at hss <;> omega))
  have hs18_2 : w6.heap.size < w18.heap.size := by (have hss := hb18.size; first | omega | (simp at hss <;> omega))
  have hs18_3 : w8.heap.size < w18.heap.size := by (have hss := hb18.size; first | omega | (simp at hss <;> omega))
  go_wp2_with fail
  refine (toClient_any a0active a0name a0validity a0size a0known _ _ a0bad _ (Ha0known.out.ext (by repeat' (first | with_reducible exact Below.refl _ _ | with_reducible assumption | with_reducible refine Below.alloc ?_ ?_ _ | with_reducible refine Below.setCell ?_ ?_ _ | with_reducible refine Below.drew ?_ | with_reducible refine Below.drewN ?_ _ | with_reducible refine Below.ext ?_ (by assumption) | (simp <;> omega) | omega))) hla0known).mono ?_
  rintro e w19 ⟨gx19, rfl, hown, hb19⟩
  have HX19 := Lib.hid (Own.of_row hown); clear hown
  obtain ⟨hc19, hf19⟩ := bcell hb19
  have hm19 : w18.heap.size ≤ w19.heap.size := by (have hss := hb19.size; first | omega | (simp at hss <;> omega))
  have hs19_0 : w.heap.size < w19.heap.size := by (have hss := hb19.size; first | omega | (simp at hss <;> omega))
  have hs19_1 : w5.heap.size < w19.heap.size := by (have hss := hb19.size; first | omega | (simp at hss <;> omega))
  have hs19_2 : w6.heap.size < w19.heap.size := by (have hss := hb19.size; first | omega | (simp at hss <;> omega))
  have hs19_3 : w8.heap.size < w19.heap.size := by (have hss := hb19.size; first | omega | (simp at hss <;> omega))
  go_wp2_with fail
  refine (toReplyS_any a1 _ _ _ (Ha1.out.ext (by repeat' (first | with_reducible exact Below.refl _ _ | with_reducible assumption | with_reducible refine Below.alloc ?_ ?_ _ | with_reducible refine Below.setCell ?_ ?_ _ | with_reducible refine Below.drew ?_ | with_reducible refine Below.drewN ?_ _ | with_reducible refine Below.ext ?_ (by assumption) | (simp <;> omega) | omega))) hla1).mono ?_
  rintro e w20 ⟨gx20, rfl, hown, hb20⟩
  have HX20 := Lib.hid (Own.of_row hown); clear hown
  obtain ⟨hc20, hf20⟩ := bcell hb20
  have hm20 : w19.heap.size ≤ w20.heap.size := by (have hss := hb20.size; first | omega | (simp at hss <;> omega))
  have hs20_0 : w.heap.size < w20.heap.size := by (have hss := hb20.size; first | omega | (simp at hss <;> omega))
  have hs20_1 : w5.heap.size < w20.heap.size := by (have hss := hb20.size; first | omega | (simp at hss <;> omega))
  have hs20_2 : w6.heap.size < w20.heap.size := by (have hss := hb20.size; first | omega | (simp at hss <;> omega))
  have hs20_3 : w8.heap.size < w20.heap.size := by (have hss := hb20.size; first | omega | (simp at hss <;> omega))
  go_wp2_with fail
  refine (implFoldAll_any a0active a0name a0validity a0size a0known _ _ a0bad a1 _ _ _ ((Rd.of_Own HX19.out).ext (by repeat' (first | with_reducible exact Below.refl _ _ | with_reducible assumption | with_reducible refine Below.alloc ?_ ?_ _ | with_reducible refine Below.setCell ?_ ?_ _ | with_reducible refine Below.drew ?_ | with_reducible refine Below.drewN ?_ _ | with_reducible refine Below.ext ?_ (by assumption) | (simp <;> omega) | omega))) ((Rd.of_Own HX20.out).ext (by repeat' (first | with_reducible exact Below.refl _ _ | with_reducible assumption | with_reducible refine Below.alloc ?_ ?_ _ | with_reducible refine Below.setCell ?_ ?_ _ | with_reducible refine Below.drew ?_ | with_reducible refine Below.drewN ?_ _ | with_reducible refine Below.ext ?_ (by assumption) | (simp <;> omega) | omega))) (by omega) (by omega)  ractive Hractive rname Hrname rvalidity Hrvalidity rsize Hrsize rknown Hrknown rbad Hrbad).mono ?_
  rintro e w21 ⟨ga21, qa21, rfl, hown, hb21⟩
  have HX21 := Lib.hid hown; clear hown
  obtain ⟨hc21, hf21⟩ := bcell hb21
  have hm21 : w20.heap.size ≤ w21.heap.size := by (have hss := hb21.size; first | omega | (simp at hss <;> omega))
  have hs21_0 : w.heap.size < w21.heap.size := by (have hss := hb21.size; first | omega | (simp at hss <;> omega))
  have hs21_1 : w5.heap.size < w21.heap.size := by (have hss := hb21.size; first | omega | (simp at hss <;> omega))
  have hs21_2 : w6.heap.size < w21.heap.size := by (have hss := hb21.size; first | omega | (simp at hss <;> omega))
  have hs21_3 : w8.heap.size < w21.heap.size := by (have hss := hb21.size; first | omega | (simp at hss <;> omega))
  go_wp2_with fail
  refine (eqClient_any ractive rname rvalidity rsize rknown _ _ rbad ractive rname rvalidity rsize rknown _ _ rbad _ ((Rd.of_Own HX21.out).ext (by repeat' (first | with_reducible exact Below.refl _ _ | with_reducible assumption | with_reducible refine Below.alloc ?_ ?_ _ | with_reducible refine Below.setCell ?_ ?_ _ | with_reducible refine Below.drew ?_ | with_reducible refine Below.drewN ?_ _ | with_reducible refine Below.ext ?_ (by assumption) | (simp <;> omega) | omega))) ((Rd.of_Own HR17_5.out).ext (by repeat' (first | with_reducible exact Below.refl _ _ | with_reducible assumption | with_reducible refine Below.alloc ?_ ?_ _ | with_reducible refine Below.setCell ?_ ?_ _ | with_reducible refine Below.drew ?_ | with_reducible refine Below.drewN ?_ _ | with_reducible refine Below.ext ?_ (by assumption) | (simp <;> omega) | omega))) true (by simp [Hid])).mono ?_
  rintro e w22 ⟨rfl, hb22⟩
  obtain ⟨hc22, hf22⟩ := bcell hb22
  have hm22 : w21.heap.size ≤ w22.heap.size := by (have hss := hb22.size; first | omega | (simp at hss <;> omega))
  have hs22_0 : w.heap.size < w22.heap.size := by (have hss := hb22.size; first | omega | (simp at hss <;> omega))
  have hs22_1 : w5.heap.size < w22.heap.size := by (have hss := hb22.size; first | omega | (simp at hss <;> omega))
  have hs22_2 : w6.heap.size < w22.heap.size := by (have hss := hb22.size; first | omega | (simp at hss <;> omega))
  have hs22_3 : w8.heap.size < w22.heap.size := by (have hss := hb22.size; first | omega | (simp at hss <;> omega))
  have hs22_4 : w21.heap.size < w22.heap.size := by (have hss := hb22.size; first | omega | (simp at hss <;> omega))
  go_wp2_with fail
  refine (heldClient_any rknown.length ractive rname rvalidity rsize rbad _ _ 1 _ ((Rd.of_Own HM17.out).ext (by repeat' (first | with_reducible exact Below.refl _ _ | with_reducible assumption | with_reducible refine Below.alloc ?_ ?_ _ | with_reducible refine Below.setCell ?_ ?_ _ | with_reducible refine Below.drew ?_ | with_reducible refine Below.drewN ?_ _ | with_reducible refine Below.ext ?_ (by assumption) | (simp <;> omega) | omega))) (by omega) (by omega) hlr).mono ?_
  rintro e w23 ⟨rfl, hb23⟩
  obtain ⟨hc23, hf23⟩ := bcell hb23
  have hm23 : w22.heap.size ≤ w23.heap.size := by (have hss := hb23.size; first | omega | (simp at hss <;> omega))
  have hs23_0 : w.heap.size < w23.heap.size := by (have hss := hb23.size; first | omega | (simp at hss <;> omega))
  have hs23_1 : w5.heap.size < w23.heap.size := by (have hss := hb23.size; first | omega | (simp at hss <;> omega))
  have hs23_2 : w6.heap.size < w23.heap.size := by (have hss := hb23.size; first | omega | (simp at hss <;> omega))
  have hs23_3 : w8.heap.size < w23.heap.size := by (have hss := hb23.size; first | omega | (simp at hss <;> omega))
  have hs23_4 : w21.heap.size < w23.heap.size := by (have hss := hb23.size; first | omega | (simp at hss <;> omega))
  go_wp2_with fail
  go_ret
  exact ⟨rfl, by repeat' (first | with_reducible exact Below.refl _ _ | with_reducible assumption | with_reducible refine Below.alloc ?_ ?_ _ | with_reducible refine Below.setCell ?_ ?_ _ | with_reducible refine Below.drew ?_ | with_reducible refine Below.drewN ?_ _ | with_reducible refine Below.ext ?_ (by assumption) | (simp <;> omega) | omega)⟩

end Go.Proofs.Ytmmbdmdfbdmilaa
