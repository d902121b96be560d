/-
  The law FnExactTelling: its walk, out of the contracts of what it calls.
-/
import Derived.Test.YtmmbdmdfbdmilaaWTelling
import Derived.Test.YtmmbdmdfbdmilaaFamView
import Derived.Test.YtmmbdmdfbdmilaaFamCommit
import Derived.Test.YtmmbdmdfbdmilaaMarkView
import Derived.Test.YtmmbdmdfbdmilaaMarkReply
import Derived.Test.YtmmbdmdfbdmilaaCut
namespace Go.Proofs.Ytmmbdmdfbdmilaa
open Go.RowKit
set_option linter.unusedVariables false
set_option linter.unusedSimpArgs false

theorem sMk {W w : World} (h3 : Below W.heap.size W w) : Below W.heap.size W w ∧ (∀ b o, b < W.heap.size → w.cell? ⟨b, o, none⟩ = W.cell? ⟨b, o, none⟩) := ⟨h3, (bcell h3).1⟩

set_option maxHeartbeats 8000000 in
theorem fnExactTelling_walk (a0known : List DSeen) (a0knownA : Option Addr) (a0knownC : Nat) (a1 : DCommit) (w : World) : (MaxLen w) → (Rd w a0knownA a0knownC 2 a0known.length (a0known.flatMap DSeen.cells)) → (a1.name.size ≤ 9223372036854775807) → (a1.text.size ≤ 9223372036854775807) →
    Calls Try.prog 6 #[.agg #[.slice a0knownA a0known.length a0knownC], .agg #[.int .i64 a1.kind, .int .i64 a1.validity, .int .i64 a1.uid, .int .i64 a1.flags, .string a1.name, .string a1.text]] w fun e w' => e = .returned (.bool true) ∧ Below w.heap.size w w' := by
  intro hmx a0knownR g1name g1text
  have HMX := Lib.hid hmx
  clear hmx
  obtain ⟨rr, hrr⟩ : ∃ r, telling a0known a1 = r := ⟨_, rfl⟩
  have Hrr := Lib.hid hrr
  clear hrr
  have Ha0known := Lib.hid a0knownR
  clear a0knownR
  go_enter Try.func6, Try.ntmps6
  go_wp2_with fail
  refine (szView_any a0known _ _ 1048576 _ (Ha0known.out.ext (by repeat' (first | with_reducible exact Below.refl _ _ | with_reducible assumption | with_reducible refine Below.alloc ?_ ?_ _ | with_reducible refine Below.setCell ?_ ?_ _ | with_reducible refine Below.drew ?_ | with_reducible refine Below.drewN ?_ _ | with_reducible refine Below.ext ?_ (by assumption) | (simp <;> omega) | omega))) (by omega) (by omega) ).mono ?_
  rintro e w1 ⟨left1, rfl, hz1, hb1⟩
  obtain ⟨hc1, hf1⟩ := bcell hb1
  have hs1_0 : w.heap.size < w1.heap.size := by (have hss := hb1.size; first | omega | (simp at hss <;> omega))
  have hs1_1 : w.heap.size + 1 < w1.heap.size := by (have hss := hb1.size; first | omega | (simp at hss <;> omega))
  rcases hz1 with hz1 | ⟨hz10, hz1⟩
  · go_wp2_with fail
    go_ret
    exact ⟨rfl, by repeat' (first | with_reducible exact Below.refl _ _ | with_reducible assumption | with_reducible refine Below.alloc ?_ ?_ _ | with_reducible refine Below.setCell ?_ ?_ _ | with_reducible refine Below.drew ?_ | with_reducible refine Below.drewN ?_ _ | with_reducible refine Below.ext ?_ (by assumption) | (simp <;> omega) | omega)⟩
  have hlt1 : left1 ≤ 1048576 := by omega
  have hla0known : a0known.length ≤ 1048576 := by (have := DSeen.len_le a0known; omega)
  clear hz1
  go_wp2_with fail
  refine (szCommit_any a1 left1 _ (by omega) (by omega) g1name g1text).mono ?_
  rintro e w2 ⟨left2, rfl, hz2, hb2⟩
  obtain ⟨hc2, hf2⟩ := bcell hb2
  have hm2 : w1.heap.size ≤ w2.heap.size := by (have hss := hb2.size; first | omega | (simp at hss <;> omega))
  have hs2_0 : w.heap.size < w2.heap.size := by (have hss := hb2.size; first | omega | (simp at hss <;> omega))
  have hs2_1 : w.heap.size + 1 < w2.heap.size := by (have hss := hb2.size; first | omega | (simp at hss <;> omega))
  rcases hz2 with hz2 | ⟨hz20, hz2⟩
  · go_wp2_with fail
    go_ret
    exact ⟨rfl, by repeat' (first | with_reducible exact Below.refl _ _ | with_reducible assumption | with_reducible refine Below.alloc ?_ ?_ _ | with_reducible refine Below.setCell ?_ ?_ _ | with_reducible refine Below.drew ?_ | with_reducible refine Below.drewN ?_ _ | with_reducible refine Below.ext ?_ (by assumption) | (simp <;> omega) | omega)⟩
  have hlt2 : left2 ≤ 1048576 := by omega
  clear hz2
  have hlr : rr.length ≤ 2097152 := by (rw [← Hrr.out]; have := telling_len a0known a1; omega)
  go_wp2_with fail
  go_region_held3 (fun w' => Below w2.heap.size w2 w' ∧ (∀ b o, b < w2.heap.size → w'.cell? ⟨b, o, none⟩ = w2.cell? ⟨b, o, none⟩)) (first | with_reducible exact sBeg _ | with_reducible exact sExt (by assumption) (by assumption) | (refine sMk ?_; exact (by repeat' (first | with_reducible exact Below.refl _ _ | with_reducible assumption | with_reducible refine Below.alloc ?_ ?_ _ | with_reducible refine Below.setCell ?_ ?_ _ | with_reducible refine Below.drew ?_ | with_reducible refine Below.drewN ?_ _ | with_reducible refine Below.ext ?_ (by assumption) | (simp <;> omega) | omega)))) ((first | (go_at_call_of 30 (a0known); refine (toView_any a0known _ _ _ (Ha0known.out.ext (by repeat' (first | with_reducible exact Below.refl _ _ | with_reducible assumption | with_reducible refine Below.alloc ?_ ?_ _ | with_reducible refine Below.setCell ?_ ?_ _ | with_reducible refine Below.drew ?_ | with_reducible refine Below.drewN ?_ _ | with_reducible refine Below.ext ?_ (by assumption) | (simp <;> omega) | omega))) hla0known).mono ?_; rintro e w3 ⟨gx3, rfl, hown, hb3⟩; have HX3 := Lib.hid (Own.of_row hown); clear hown; have hzz3 := hb3.size; (try simp at hzz3)) | (go_at_call_of 31 (a1.kind); refine (toCommit_any a1 _).mono ?_; rintro e w4 ⟨rfl, hb4⟩; have hzz4 := hb4.size; (try simp at hzz4)) | (go_at_call_of 36 (a0known); refine (specTelling_any a0known _ _ a1 _ ((Rd.of_Own HX3.out).ext (by repeat' (first | with_reducible exact Below.refl _ _ | with_reducible assumption | with_reducible refine Below.alloc ?_ ?_ _ | with_reducible refine Below.setCell ?_ ?_ _ | with_reducible refine Below.drew ?_ | with_reducible refine Below.drewN ?_ _ | with_reducible refine Below.ext ?_ (by assumption) | (simp <;> omega) | omega))) (by omega) g1name g1text rr Hrr).mono ?_; rintro e w5 ⟨ga5, qa5, rfl, hown, hb5⟩; have HX5 := Lib.hid hown; clear hown; have hzz5 := hb5.size; (try simp at hzz5))))
  have hbq5 : Ext w2 w5 := Below.ext (Below.ext (Below.ext ((Below.refl _ _).drew) hb3) hb4) hb5
  obtain ⟨hc5, hf5⟩ := bcell hbq5
  have hm5 : w2.heap.size ≤ w5.heap.size := by (have hss := hbq5.size; first | omega | (simp at hss <;> omega))
  have hs5_0 : w.heap.size < w5.heap.size := by (have hss := hbq5.size; first | omega | (simp at hss <;> omega))
  have hs5_1 : w.heap.size + 1 < w5.heap.size := by (have hss := hbq5.size; first | omega | (simp at hss <;> omega))
  go_wp2_with fail
  refine (toView_any a0known _ _ _ (Ha0known.out.ext (by repeat' (first | with_reducible exact Below.refl _ _ | with_reducible assumption | with_reducible refine Below.alloc ?_ ?_ _ | with_reducible refine Below.setCell ?_ ?_ _ | with_reducible refine Below.drew ?_ | with_reducible refine Below.drewN ?_ _ | with_reducible refine Below.ext ?_ (by assumption) | (simp <;> omega) | omega))) hla0known).mono ?_
  rintro e w6 ⟨gx6, rfl, hown, hb6⟩
  have HX6 := Lib.hid (Own.of_row hown); clear hown
  obtain ⟨hc6, hf6⟩ := bcell hb6
  have hm6 : w5.heap.size ≤ w6.heap.size := by (have hss := hb6.size; first | omega | (simp at hss <;> omega))
  have hs6_0 : w.heap.size < w6.heap.size := by (have hss := hb6.size; first | omega | (simp at hss <;> omega))
  have hs6_1 : w.heap.size + 1 < w6.heap.size := by (have hss := hb6.size; first | omega | (simp at hss <;> omega))
  go_upto_region 10 with fail
  refine wp_world (fun w7 hw7 => ?_)
  have hb7 : Ext w6 w7 := by (rw [hw7]; exact (by repeat' (first | with_reducible exact Below.refl _ _ | with_reducible assumption | with_reducible refine Below.alloc ?_ ?_ _ | with_reducible refine Below.setCell ?_ ?_ _ | with_reducible refine Below.drew ?_ | with_reducible refine Below.drewN ?_ _ | with_reducible refine Below.ext ?_ (by assumption) | (simp <;> omega) | omega)))
  have hcl7_0 : w7.cell? ⟨w6.heap.size, 0, none⟩ = some (.slice (some ⟨gx6, 0, none⟩) a0known.length a0known.length) := by (rw [hw7]; simp [go_sem])
  have hz7 : w6.heap.size < w7.heap.size := by (rw [hw7]; simp)
  clear hw7
  obtain ⟨hc7, hf7⟩ := bcell hb7
  have hm7 : w6.heap.size ≤ w7.heap.size := by (have hss := hb7.size; first | omega | (simp at hss <;> omega))
  have hs7_0 : w.heap.size < w7.heap.size := by (have hss := hb7.size; first | omega | (simp at hss <;> omega))
  have hs7_1 : w.heap.size + 1 < w7.heap.size := by (have hss := hb7.size; first | omega | (simp at hss <;> omega))
  have hs7_2 : w6.heap.size < w7.heap.size := by (have hss := hb7.size; first | omega | (simp at hss <;> omega))
  go_wp2_with fail
  go_region_held3 (fun w' => Below w7.heap.size w7 w' ∧ (∀ b o, b < w7.heap.size → w'.cell? ⟨b, o, none⟩ = w7.cell? ⟨b, o, none⟩)) (first | with_reducible exact sBeg _ | with_reducible exact sExt (by assumption) (by assumption) | (refine sMk ?_; exact (by repeat' (first | with_reducible exact Below.refl _ _ | with_reducible assumption | with_reducible refine Below.alloc ?_ ?_ _ | with_reducible refine Below.setCell ?_ ?_ _ | with_reducible refine Below.drew ?_ | with_reducible refine Below.drewN ?_ _ | with_reducible refine Below.ext ?_ (by assumption) | (simp <;> omega) | omega)))) ((first | (go_at_call_of 31 (a1.kind); refine (toCommit_any a1 _).mono ?_; rintro e w8 ⟨rfl, hb8⟩; have hzz8 := hb8.size; (try simp at hzz8)) | (go_at_call_of 37 (a0known); refine (implTelling_any a0known _ _ a1 _ ((Rd.of_Own HX6.out).ext (by repeat' (first | with_reducible exact Below.refl _ _ | with_reducible assumption | with_reducible refine Below.alloc ?_ ?_ _ | with_reducible refine Below.setCell ?_ ?_ _ | with_reducible refine Below.drew ?_ | with_reducible refine Below.drewN ?_ _ | with_reducible refine Below.ext ?_ (by assumption) | (simp <;> omega) | omega))) (by omega) (HMX.out.ext (by repeat' (first | with_reducible exact Below.refl _ _ | with_reducible assumption | with_reducible refine Below.alloc ?_ ?_ _ | with_reducible refine Below.setCell ?_ ?_ _ | with_reducible refine Below.drew ?_ | with_reducible refine Below.drewN ?_ _ | with_reducible refine Below.ext ?_ (by assumption) | (simp <;> omega) | omega))) g1name g1text rr Hrr).mono ?_; rintro e w9 ⟨ga9, qa9, rfl, hown, hb9⟩; have HX9 := Lib.hid hown; clear hown; have hzz9 := hb9.size; (try simp at hzz9))))
  have hbq9 : Ext w7 w9 := Below.ext (Below.ext ((Below.refl _ _).drew) hb8) hb9
  obtain ⟨hc9, hf9⟩ := bcell hbq9
  have hm9 : w7.heap.size ≤ w9.heap.size := by (have hss := hbq9.size; first | omega | (simp at hss <;> omega))
  have hs9_0 : w.heap.size < w9.heap.size := by (have hss := hbq9.size; first | omega | (simp at hss <;> omega))
  have hs9_1 : w.heap.size + 1 < w9.heap.size := by (have hss := hbq9.size; first | omega | (simp at hss <;> omega))
  have hs9_2 : w6.heap.size < w9.heap.size := by (have hss := hbq9.size; first | omega | (simp at hss <;> omega))
  go_wp2_with fail
  refine (eqReplyS_any rr rr _ _ _ _ _ ((Rd.of_Own HX9.out).ext (by repeat' (first | with_reducible exact Below.refl _ _ | with_reducible assumption | with_reducible refine Below.alloc ?_ ?_ _ | with_reducible refine Below.setCell ?_ ?_ _ | with_reducible refine Below.drew ?_ | with_reducible refine Below.drewN ?_ _ | with_reducible refine Below.ext ?_ (by assumption) | (simp <;> omega) | omega))) ((Rd.of_Own HX5.out).ext (by repeat' (first | with_reducible exact Below.refl _ _ | with_reducible assumption | with_reducible refine Below.alloc ?_ ?_ _ | with_reducible refine Below.setCell ?_ ?_ _ | with_reducible refine Below.drew ?_ | with_reducible refine Below.drewN ?_ _ | with_reducible refine Below.ext ?_ (by assumption) | (simp <;> omega) | omega))) true (by simp [Hid])).mono ?_
  rintro e w10 ⟨rfl, hb10⟩
  obtain ⟨hc10, hf10⟩ := bcell hb10
  have hm10 : w9.heap.size ≤ w10.heap.size := by (have hss := hb10.size; first | omega | (simp at hss <;> omega))
  have hs10_0 : w.heap.size < w10.heap.size := by (have hss := hb10.size; first | omega | (simp at hss <;> omega))
  have hs10_1 : w.heap.size + 1 < w10.heap.size := by (have hss := hb10.size; first | omega | (simp at hss <;> omega))
  have hs10_2 : w6.heap.size < w10.heap.size := by (have hss := hb10.size; first | omega | (simp at hss <;> omega))
  go_wp2_with fail
  go_region_held3 (fun w' => Below w10.heap.size w10 w' ∧ (∀ b o, b < w10.heap.size → w'.cell? ⟨b, o, none⟩ = w10.cell? ⟨b, o, none⟩)) (first | with_reducible exact sBeg _ | with_reducible exact sExt (by assumption) (by assumption) | (refine sMk ?_; exact (by repeat' (first | with_reducible exact Below.refl _ _ | with_reducible assumption | with_reducible refine Below.alloc ?_ ?_ _ | with_reducible refine Below.setCell ?_ ?_ _ | with_reducible refine Below.drew ?_ | with_reducible refine Below.drewN ?_ _ | with_reducible refine Below.ext ?_ (by assumption) | (simp <;> omega) | omega)))) ((first | (go_at_call_of 30 (a0known); refine (toView_any a0known _ _ _ (Ha0known.out.ext (by repeat' (first | with_reducible exact Below.refl _ _ | with_reducible assumption | with_reducible refine Below.alloc ?_ ?_ _ | with_reducible refine Below.setCell ?_ ?_ _ | with_reducible refine Below.drew ?_ | with_reducible refine Below.drewN ?_ _ | with_reducible refine Below.ext ?_ (by assumption) | (simp <;> omega) | omega))) hla0known).mono ?_; rintro e w11 ⟨gx11, rfl, hown, hb11⟩; have HX11 := Lib.hid (Own.of_row hown); clear hown; have hzz11 := hb11.size; (try simp at hzz11)) | (go_at_call_of 33 (a0known); refine (eqView_any a0known _ _ a0known _ _ _ ((Rd.of_Own HX6.out).ext (by repeat' (first | with_reducible exact Below.refl _ _ | with_reducible assumption | with_reducible refine Below.alloc ?_ ?_ _ | with_reducible refine Below.setCell ?_ ?_ _ | with_reducible refine Below.drew ?_ | with_reducible refine Below.drewN ?_ _ | with_reducible refine Below.ext ?_ (by assumption) | (simp <;> omega) | omega))) ((Rd.of_Own HX11.out).ext (by repeat' (first | with_reducible exact Below.refl _ _ | with_reducible assumption | with_reducible refine Below.alloc ?_ ?_ _ | with_reducible refine Below.setCell ?_ ?_ _ | with_reducible refine Below.drew ?_ | with_reducible refine Below.drewN ?_ _ | with_reducible refine Below.ext ?_ (by assumption) | (simp <;> omega) | omega))) true (by simp [Hid])).mono ?_; rintro e w12 ⟨rfl, hb12⟩; have hzz12 := hb12.size; (try simp at hzz12))))
  have hbq12 : Ext w10 w12 := Below.ext (Below.ext ((Below.refl _ _).drew) hb11) hb12
  obtain ⟨hc12, hf12⟩ := bcell hbq12
  have hm12 : w10.heap.size ≤ w12.heap.size := by (have hss := hbq12.size; first | omega | (simp at hss <;> omega))
  have hs12_0 : w.heap.size < w12.heap.size := by (have hss := hbq12.size; first | omega | (simp at hss <;> omega))
  have hs12_1 : w.heap.size + 1 < w12.heap.size := by (have hss := hbq12.size; first | omega | (simp at hss <;> omega))
  have hs12_2 : w6.heap.size < w12.heap.size := by (have hss := hbq12.size; first | omega | (simp at hss <;> omega))
  go_wp2_with fail
  refine (markView_any a0known _ _ _ (1) _ (HX6.out.ext (by repeat' (first | with_reducible exact Below.refl _ _ | with_reducible assumption | with_reducible refine Below.alloc ?_ ?_ _ | with_reducible refine Below.setCell ?_ ?_ _ | with_reducible refine Below.drew ?_ | with_reducible refine Below.drewN ?_ _ | with_reducible refine Below.ext ?_ (by assumption) | (simp <;> omega) | omega))) (by omega) (by omega) (by omega)).mono ?_
  rintro e w13 ⟨rfl, hown, hg13⟩
  have HM13 := Lib.hid hown
  clear hown
  have hroot13 : Below w.heap.size w w13 := below_foot (show Below w.heap.size w w12 from by repeat' (first | with_reducible exact Below.refl _ _ | with_reducible assumption | with_reducible refine Below.alloc ?_ ?_ _ | with_reducible refine Below.setCell ?_ ?_ _ | with_reducible refine Below.drew ?_ | with_reducible refine Below.drewN ?_ _ | with_reducible refine Below.ext ?_ (by assumption) | (simp <;> omega) | omega)) (HX6.out.ext (by repeat' (first | with_reducible exact Below.refl _ _ | with_reducible assumption | with_reducible refine Below.alloc ?_ ?_ _ | with_reducible refine Below.setCell ?_ ?_ _ | with_reducible refine Below.drew ?_ | with_reducible refine Below.drewN ?_ _ | with_reducible refine Below.ext ?_ (by assumption) | (simp <;> omega) | omega))) (by (first | omega | (simp <;> omega))) (by (first | omega | (simp <;> omega))) hg13
  obtain ⟨hc13, hf13⟩ := grown_foff hg13
  have hm13 : w12.heap.size ≤ w13.heap.size := hg13.size
  have hs13_0 : w.heap.size < w13.heap.size := by omega
  have hn13_0 : FOff (w.heap.size) _ := FOff.lt HX6.out (by (first | omega | (simp <;> omega)))
  have hs13_1 : w.heap.size + 1 < w13.heap.size := by omega
  have hn13_1 : FOff (w.heap.size + 1) _ := FOff.lt HX6.out (by (first | omega | (simp <;> omega)))
  have hs13_2 : w6.heap.size < w13.heap.size := by omega
  have hn13_2 : FOff (w6.heap.size) _ := FOff.ge HX6.out (by (first | omega | (simp <;> omega)))
  have HR13_9 := Lib.hid (Own.off (HX9.out.ext (by repeat' (first | with_reducible exact Below.refl _ _ | with_reducible assumption | with_reducible refine Below.alloc ?_ ?_ _ | with_reducible refine Below.setCell ?_ ?_ _ | with_reducible refine Below.drew ?_ | with_reducible refine Below.drewN ?_ _ | with_reducible refine Below.ext ?_ (by assumption) | (simp <;> omega) | omega))) hg13 ((Off2.of HX6.out HX9.out (by (first | omega | (simp <;> omega)))).symm))
  have HR13_5 := Lib.hid (Own.off (HX5.out.ext (by repeat' (first | with_reducible exact Below.refl _ _ | with_reducible assumption | with_reducible refine Below.alloc ?_ ?_ _ | with_reducible refine Below.setCell ?_ ?_ _ | with_reducible refine Below.drew ?_ | with_reducible refine Below.drewN ?_ _ | with_reducible refine Below.ext ?_ (by assumption) | (simp <;> omega) | omega))) hg13 (Off2.of HX5.out HX6.out (by (first | omega | (simp <;> omega)))))
  clear hg13
  go_wp2_with fail
  refine (eqReplyS_any rr rr _ _ _ _ _ ((Rd.of_Own HR13_9.out).ext (by repeat' (first | with_reducible exact Below.refl _ _ | with_reducible assumption | with_reducible refine Below.alloc ?_ ?_ _ | with_reducible refine Below.setCell ?_ ?_ _ | with_reducible refine Below.drew ?_ | with_reducible refine Below.drewN ?_ _ | with_reducible refine Below.ext ?_ (by assumption) | (simp <;> omega) | omega))) ((Rd.of_Own HR13_5.out).ext (by repeat' (first | with_reducible exact Below.refl _ _ | with_reducible assumption | with_reducible refine Below.alloc ?_ ?_ _ | with_reducible refine Below.setCell ?_ ?_ _ | with_reducible refine Below.drew ?_ | with_reducible refine Below.drewN ?_ _ | with_reducible refine Below.ext ?_ (by assumption) | (simp <;> omega) | omega))) true (by simp [Hid])).mono ?_
  rintro e w14 ⟨rfl, hb14⟩
  obtain ⟨hc14, hf14⟩ := bcell hb14
  have hm14 : w13.heap.size ≤ w14.heap.size := by (have hss := hb14.size; first | omega | (simp at hss <;> omega))
  have hs14_0 : w.heap.size < w14.heap.size := by (have hss := hb14.size; first | omega | (simp at hss <;> omega))
  have hs14_1 : w.heap.size + 1 < w14.heap.size := by (have hss := hb14.size; first | omega | (simp at hss <;> omega))
  have hs14_2 : w6.heap.size < w14.heap.size := by (have hss := hb14.size; first | omega | (simp at hss <;> omega))
  go_wp2_with fail
  refine (markReplyS_any rr _ _ _ 1 _ (HR13_9.out.ext (by repeat' (first | with_reducible exact Below.refl _ _ | with_reducible assumption | with_reducible refine Below.alloc ?_ ?_ _ | with_reducible refine Below.setCell ?_ ?_ _ | with_reducible refine Below.drew ?_ | with_reducible refine Below.drewN ?_ _ | with_reducible refine Below.ext ?_ (by assumption) | (simp <;> omega) | omega))) (by omega) (by omega) hlr).mono ?_
  rintro e w15 ⟨rfl, hown, hg15⟩
  have HM15 := Lib.hid hown
  clear hown
  have hroot15 : Below w.heap.size w w15 := below_foot (show Below w.heap.size w w14 from by repeat' (first | with_reducible exact Below.refl _ _ | with_reducible assumption | with_reducible refine Below.alloc ?_ ?_ _ | with_reducible refine Below.setCell ?_ ?_ _ | with_reducible refine Below.drew ?_ | with_reducible refine Below.drewN ?_ _ | with_reducible refine Below.ext ?_ (by assumption) | (simp <;> omega) | omega)) (HR13_9.out.ext (by repeat' (first | with_reducible exact Below.refl _ _ | with_reducible assumption | with_reducible refine Below.alloc ?_ ?_ _ | with_reducible refine Below.setCell ?_ ?_ _ | with_reducible refine Below.drew ?_ | with_reducible refine Below.drewN ?_ _ | with_reducible refine Below.ext ?_ (by assumption) | (simp <;> omega) | omega))) (by (first | omega | (simp <;> omega))) (by (first | omega | (simp <;> omega))) hg15
  obtain ⟨hc15, hf15⟩ := grown_foff hg15
  have hm15 : w14.heap.size ≤ w15.heap.size := hg15.size
  have hs15_0 : w.heap.size < w15.heap.size := by omega
  have hn15_0 : FOff (w.heap.size) _ := FOff.lt HX9.out (by (first | omega | (simp <;> omega)))
  have hs15_1 : w.heap.size + 1 < w15.heap.size := by omega
  have hn15_1 : FOff (w.heap.size + 1) _ := FOff.lt HX9.out (by (first | omega | (simp <;> omega)))
  have hs15_2 : w6.heap.size < w15.heap.size := by omega
  have hn15_2 : FOff (w6.heap.size) _ := FOff.lt HX9.out (by (first | omega | (simp <;> omega)))
  have HR15_5 := Lib.hid (Own.off (HR13_5.out.ext (by repeat' (first | with_reducible exact Below.refl _ _ | with_reducible assumption | with_reducible refine Below.alloc ?_ ?_ _ | with_reducible refine Below.setCell ?_ ?_ _ | with_reducible refine Below.drew ?_ | with_reducible refine Below.drewN ?_ _ | with_reducible refine Below.ext ?_ (by assumption) | (simp <;> omega) | omega))) hg15 (Off2.of HX5.out HX9.out (by (first | omega | (simp <;> omega)))))
  clear hg15
  go_wp2_with fail
  refine (heldReplyS_any rr.length _ _ 1 _ ((Rd.of_Own HM15.out).ext (by repeat' (first | with_reducible exact Below.refl _ _ | with_reducible assumption | with_reducible refine Below.alloc ?_ ?_ _ | with_reducible refine Below.setCell ?_ ?_ _ | with_reducible refine Below.drew ?_ | with_reducible refine Below.drewN ?_ _ | with_reducible refine Below.ext ?_ (by assumption) | (simp <;> omega) | omega))) (by omega) (by omega) hlr).mono ?_
  rintro e w16 ⟨rfl, hb16⟩
  obtain ⟨hc16, hf16⟩ := bcell hb16
  have hm16 : w15.heap.size ≤ w16.heap.size := by (have hss := hb16.size; first | omega | (simp at hss <;> omega))
  have hs16_0 : w.heap.size < w16.heap.size := by (have hss := hb16.size; first | omega | (simp at hss <;> omega))
  have hs16_1 : w.heap.size + 1 < w16.heap.size := by (have hss := hb16.size; first | omega | (simp at hss <;> omega))
  have hs16_2 : w6.heap.size < w16.heap.size := by (have hss := hb16.size; first | omega | (simp at hss <;> omega))
  go_wp2_with fail
  go_region_held3 (fun w' => Below w16.heap.size w16 w' ∧ (∀ b o, b < w16.heap.size → w'.cell? ⟨b, o, none⟩ = w16.cell? ⟨b, o, none⟩)) (first | with_reducible exact sBeg _ | with_reducible exact sExt (by assumption) (by assumption) | (refine sMk ?_; exact (by repeat' (first | with_reducible exact Below.refl _ _ | with_reducible assumption | with_reducible refine Below.alloc ?_ ?_ _ | with_reducible refine Below.setCell ?_ ?_ _ | with_reducible refine Below.drew ?_ | with_reducible refine Below.drewN ?_ _ | with_reducible refine Below.ext ?_ (by assumption) | (simp <;> omega) | omega)))) ((first | (go_at_call_of 30 (a0known); refine (toView_any a0known _ _ _ (Ha0known.out.ext (by repeat' (first | with_reducible exact Below.refl _ _ | with_reducible assumption | with_reducible refine Below.alloc ?_ ?_ _ | with_reducible refine Below.setCell ?_ ?_ _ | with_reducible refine Below.drew ?_ | with_reducible refine Below.drewN ?_ _ | with_reducible refine Below.ext ?_ (by assumption) | (simp <;> omega) | omega))) hla0known).mono ?_; rintro e w17 ⟨gx17, rfl, hown, hb17⟩; have HX17 := Lib.hid (Own.of_row hown); clear hown; have hzz17 := hb17.size; (try simp at hzz17)) | (go_at_call_of 31 (a1.kind); refine (toCommit_any a1 _).mono ?_; rintro e w18 ⟨rfl, hb18⟩; have hzz18 := hb18.size; (try simp at hzz18)) | (go_at_call_of 37 (a0known); refine (implTelling_any a0known _ _ a1 _ ((Rd.of_Own HX17.out).ext (by repeat' (first | with_reducible exact Below.refl _ _ | with_reducible assumption | with_reducible refine Below.alloc ?_ ?_ _ | with_reducible refine Below.setCell ?_ ?_ _ | with_reducible refine Below.drew ?_ | with_reducible refine Below.drewN ?_ _ | with_reducible refine Below.ext ?_ (by assumption) | (simp <;> omega) | omega))) (by omega) (HMX.out.ext (by repeat' (first | with_reducible exact Below.refl _ _ | with_reducible assumption | with_reducible refine Below.alloc ?_ ?_ _ | with_reducible refine Below.setCell ?_ ?_ _ | with_reducible refine Below.drew ?_ | with_reducible refine Below.drewN ?_ _ | with_reducible refine Below.ext ?_ (by assumption) | (simp <;> omega) | omega))) g1name g1text rr Hrr).mono ?_; rintro e w19 ⟨ga19, qa19, rfl, hown, hb19⟩; have HX19 := Lib.hid hown; clear hown; have hzz19 := hb19.size; (try simp at hzz19))))
  have hbq19 : Ext w16 w19 := Below.ext (Below.ext (Below.ext ((Below.refl _ _).drew) hb17) hb18) hb19
  obtain ⟨hc19, hf19⟩ := bcell hbq19
  have hm19 : w16.heap.size ≤ w19.heap.size := by (have hss := hbq19.size; first | omega | (simp at hss <;> omega))
  have hs19_0 : w.heap.size < w19.heap.size := by (have hss := hbq19.size; first | omega | (simp at hss <;> omega))
  have hs19_1 : w.heap.size + 1 < w19.heap.size := by (have hss := hbq19.size; first | omega | (simp at hss <;> omega))
  have hs19_2 : w6.heap.size < w19.heap.size := by (have hss := hbq19.size; first | omega | (simp at hss <;> omega))
  go_wp2_with fail
  refine (eqReplyS_any rr rr _ _ _ _ _ ((Rd.of_Own HX19.out).ext (by repeat' (first | with_reducible exact Below.refl _ _ | with_reducible assumption | with_reducible refine Below.alloc ?_ ?_ _ | with_reducible refine Below.setCell ?_ ?_ _ | with_reducible refine Below.drew ?_ | with_reducible refine Below.drewN ?_ _ | with_reducible refine Below.ext ?_ (by assumption) | (simp <;> omega) | omega))) ((Rd.of_Own HR15_5.out).ext (by repeat' (first | with_reducible exact Below.refl _ _ | with_reducible assumption | with_reducible refine Below.alloc ?_ ?_ _ | with_reducible refine Below.setCell ?_ ?_ _ | with_reducible refine Below.drew ?_ | with_reducible refine Below.drewN ?_ _ | with_reducible refine Below.ext ?_ (by assumption) | (simp <;> omega) | omega))) true (by simp [Hid])).mono ?_
  rintro e w20 ⟨rfl, hb20⟩
  obtain ⟨hc20, hf20⟩ := bcell hb20
  have hm20 : w19.heap.size ≤ w20.heap.size := by (have hss := hb20.size; first | omega | (simp at hss <;> omega))
  have hs20_0 : w.heap.size < w20.heap.size := by (have hss := hb20.size; first | omega | (simp at hss <;> omega))
  have hs20_1 : w.heap.size + 1 < w20.heap.size := by (have hss := hb20.size; first | omega | (simp at hss <;> omega))
  have hs20_2 : w6.heap.size < w20.heap.size := by (have hss := hb20.size; first | omega | (simp at hss <;> omega))
  go_wp2_with fail
  refine (heldReplyS_any rr.length _ _ 1 _ ((Rd.of_Own HM15.out).ext (by repeat' (first | with_reducible exact Below.refl _ _ | with_reducible assumption | with_reducible refine Below.alloc ?_ ?_ _ | with_reducible refine Below.setCell ?_ ?_ _ | with_reducible refine Below.drew ?_ | with_reducible refine Below.drewN ?_ _ | with_reducible refine Below.ext ?_ (by assumption) | (simp <;> omega) | omega))) (by omega) (by omega) hlr).mono ?_
  rintro e w21 ⟨rfl, hb21⟩
  obtain ⟨hc21, hf21⟩ := bcell hb21
  have hm21 : w20.heap.size ≤ w21.heap.size := by (have hss := hb21.size; first | omega | (simp at hss <;> omega))
  have hs21_0 : w.heap.size < w21.heap.size := by (have hss := hb21.size; first | omega | (simp at hss <;> omega))
  have hs21_1 : w.heap.size + 1 < w21.heap.size := by (have hss := hb21.size; first | omega | (simp at hss <;> omega))
  have hs21_2 : w6.heap.size < w21.heap.size := by (have hss := hb21.size; first | omega | (simp at hss <;> omega))
  go_wp2_with fail
  go_ret
  exact ⟨rfl, by repeat' (first | with_reducible exact Below.refl _ _ | with_reducible assumption | with_reducible refine Below.alloc ?_ ?_ _ | with_reducible refine Below.setCell ?_ ?_ _ | with_reducible refine Below.drew ?_ | with_reducible refine Below.drewN ?_ _ | with_reducible refine Below.ext ?_ (by assumption) | (simp <;> omega) | omega)⟩

end Go.Proofs.Ytmmbdmdfbdmilaa
