/-
  The law FnExactSelecting: its walk, out of the contracts of what it calls.
-/
import Derived.Test.YtmmbdmdfbdmilaaWSelecting
import Derived.Test.YtmmbdmdfbdmilaaFamBox
import Derived.Test.YtmmbdmdfbdmilaaMarkBox
import Derived.Test.YtmmbdmdfbdmilaaMarkReply
import Derived.Test.YtmmbdmdfbdmilaaCut
namespace Go.Proofs.Ytmmbdmdfbdmilaa
open Go.RowKit
set_option linter.unusedVariables false
set_option linter.unusedSimpArgs false

theorem sMk {W w : World} (h3 : Below W.heap.size W w) : Below W.heap.size W w ∧ (∀ b o, b < W.heap.size → w.cell? ⟨b, o, none⟩ = W.cell? ⟨b, o, none⟩) := ⟨h3, (bcell h3).1⟩

set_option maxHeartbeats 8000000 in
theorem fnExactSelecting_walk (a0name : ByteArray) (a0validity : Int) (a0next : Int) (a0msgs : List DMsg) (a0msgsA : Option Addr) (a0msgsC : Nat) (w : World) : (MaxLen w) → (Rd w a0msgsA a0msgsC 3 a0msgs.length (a0msgs.flatMap DMsg.cells)) → (a0name.size ≤ 9223372036854775807) → (∀ y ∈ a0msgs, y.text.size ≤ 9223372036854775807) →
    Calls Try.prog 4 #[.agg #[.string a0name, .int .i64 a0validity, .int .i64 a0next, .slice a0msgsA a0msgs.length a0msgsC]] w fun e w' => e = .returned (.bool true) ∧ Below w.heap.size w w' := by
  intro hmx a0msgsR g0name gs0msgs
  have HMX := Lib.hid hmx
  clear hmx
  obtain ⟨rr, hrr⟩ : ∃ r, selecting a0name a0validity a0next a0msgs = r := ⟨_, rfl⟩
  have Hrr := Lib.hid hrr
  clear hrr
  have Ha0msgs := Lib.hid a0msgsR
  clear a0msgsR
  have Hgs0msgs := Lib.hid gs0msgs
  clear gs0msgs
  go_enter Try.func4, Try.ntmps4
  go_wp2_with fail
  refine (szBox_any a0name a0validity a0next a0msgs _ _ 1048576 _ (Ha0msgs.out.ext (by repeat' (first | with_reducible exact Below.refl _ _ | with_reducible assumption | with_reducible refine Below.alloc ?_ ?_ _ | with_reducible refine Below.setCell ?_ ?_ _ | with_reducible refine Below.drew ?_ | with_reducible refine Below.drewN ?_ _ | with_reducible refine Below.ext ?_ (by assumption) | (simp <;> omega) | omega))) (by omega) (by omega) g0name Hgs0msgs.out).mono ?_
  rintro e w1 ⟨left1, rfl, hz1, hb1⟩
  obtain ⟨hc1, hf1⟩ := bcell hb1
  have hs1_0 : w.heap.size < w1.heap.size := by (have hss := hb1.size; first | omega | (simp at hss <;> omega))
  rcases hz1 with hz1 | ⟨hz10, hz1⟩
  · go_wp2_with fail
    go_ret
    exact ⟨rfl, by repeat' (first | with_reducible exact Below.refl _ _ | with_reducible assumption | with_reducible refine Below.alloc ?_ ?_ _ | with_reducible refine Below.setCell ?_ ?_ _ | with_reducible refine Below.drew ?_ | with_reducible refine Below.drewN ?_ _ | with_reducible refine Below.ext ?_ (by assumption) | (simp <;> omega) | omega)⟩
  have hlt1 : left1 ≤ 1048576 := by omega
  have hla0msgs : a0msgs.length ≤ 1048576 := by (have := DMsg.len_le a0msgs; omega)
  clear hz1
  have hlr : rr.length ≤ 2097152 := by (rw [← Hrr.out]; have := selecting_len a0name a0validity a0next a0msgs; omega)
  go_wp2_with fail
  refine (toBox_any a0name a0validity a0next a0msgs _ _ _ (Ha0msgs.out.ext (by repeat' (first | with_reducible exact Below.refl _ _ | with_reducible assumption | with_reducible refine Below.alloc ?_ ?_ _ | with_reducible refine Below.setCell ?_ ?_ _ | with_reducible refine Below.drew ?_ | with_reducible refine Below.drewN ?_ _ | with_reducible refine Below.ext ?_ (by assumption) | (simp <;> omega) | omega))) hla0msgs).mono ?_
  rintro e w2 ⟨gx2, rfl, hown, hb2⟩
  have HX2 := Lib.hid (Own.of_row hown); clear hown
  obtain ⟨hc2, hf2⟩ := bcell hb2
  have hm2 : w1.heap.size ≤ w2.heap.size := by (have hss := hb2.size; first | omega | (simp at hss <;> omega))
  have hs2_0 : w.heap.size < w2.heap.size := by (have hss := hb2.size; first | omega | (simp at hss <;> omega))
  go_wp2_with fail
  refine (specSelecting_any a0name a0validity a0next a0msgs _ _ _ ((Rd.of_Own HX2.out).ext (by repeat' (first | with_reducible exact Below.refl _ _ | with_reducible assumption | with_reducible refine Below.alloc ?_ ?_ _ | with_reducible refine Below.setCell ?_ ?_ _ | with_reducible refine Below.drew ?_ | with_reducible refine Below.drewN ?_ _ | with_reducible refine Below.ext ?_ (by assumption) | (simp <;> omega) | omega))) (by omega) g0name Hgs0msgs.out rr Hrr).mono ?_
  rintro e w3 ⟨ga3, qa3, rfl, hown, hb3⟩
  have HX3 := Lib.hid hown; clear hown
  obtain ⟨hc3, hf3⟩ := bcell hb3
  have hm3 : w2.heap.size ≤ w3.heap.size := by (have hss := hb3.size; first | omega | (simp at hss <;> omega))
  have hs3_0 : w.heap.size < w3.heap.size := by (have hss := hb3.size; first | omega | (simp at hss <;> omega))
  go_wp2_with fail
  refine (toBox_any a0name a0validity a0next a0msgs _ _ _ (Ha0msgs.out.ext (by repeat' (first | with_reducible exact Below.refl _ _ | with_reducible assumption | with_reducible refine Below.alloc ?_ ?_ _ | with_reducible refine Below.setCell ?_ ?_ _ | with_reducible refine Below.drew ?_ | with_reducible refine Below.drewN ?_ _ | with_reducible refine Below.ext ?_ (by assumption) | (simp <;> omega) | omega))) hla0msgs).mono ?_
  rintro e w4 ⟨gx4, rfl, hown, hb4⟩
  have HX4 := Lib.hid (Own.of_row hown); clear hown
  obtain ⟨hc4, hf4⟩ := bcell hb4
  have hm4 : w3.heap.size ≤ w4.heap.size := by (have hss := hb4.size; first | omega | (simp at hss <;> omega))
  have hs4_0 : w.heap.size < w4.heap.size := by (have hss := hb4.size; first | omega | (simp at hss <;> omega))
  go_wp2_with fail
  refine (implSelecting_any a0name a0validity a0next a0msgs _ _ _ ((Rd.of_Own HX4.out).ext (by repeat' (first | with_reducible exact Below.refl _ _ | with_reducible assumption | with_reducible refine Below.alloc ?_ ?_ _ | with_reducible refine Below.setCell ?_ ?_ _ | with_reducible refine Below.drew ?_ | with_reducible refine Below.drewN ?_ _ | with_reducible refine Below.ext ?_ (by assumption) | (simp <;> omega) | omega))) (by omega) (HMX.out.ext (by repeat' (first | with_reducible exact Below.refl _ _ | with_reducible assumption | with_reducible refine Below.alloc ?_ ?_ _ | with_reducible refine Below.setCell ?_ ?_ _ | with_reducible refine Below.drew ?_ | with_reducible refine Below.drewN ?_ _ | with_reducible refine Below.ext ?_ (by assumption) | (simp <;> omega) | omega))) g0name Hgs0msgs.out rr Hrr).mono ?_
  rintro e w5 ⟨ga5, qa5, rfl, hown, hb5⟩
  have HX5 := Lib.hid hown; clear hown
  obtain ⟨hc5, hf5⟩ := bcell hb5
  have hm5 : w4.heap.size ≤ w5.heap.size := by (have hss := hb5.size; first | omega | (simp at hss <;> omega))
  have hs5_0 : w.heap.size < w5.heap.size := by (have hss := hb5.size; first | omega | (simp at hss <;> omega))
  have hs5_1 : w4.heap.size < w5.heap.size := by (have hss := hb5.size; first | omega | (simp at hss <;> omega))
  go_wp2_with fail
  refine (eqReplyS_any rr rr _ _ _ _ _ ((Rd.of_Own HX5.out).ext (by repeat' (first | with_reducible exact Below.refl _ _ | with_reducible assumption | with_reducible refine Below.alloc ?_ ?_ _ | with_reducible refine Below.setCell ?_ ?_ _ | with_reducible refine Below.drew ?_ | with_reducible refine Below.drewN ?_ _ | with_reducible refine Below.ext ?_ (by assumption) | (simp <;> omega) | omega))) ((Rd.of_Own HX3.out).ext (by repeat' (first | with_reducible exact Below.refl _ _ | with_reducible assumption | with_reducible refine Below.alloc ?_ ?_ _ | with_reducible refine Below.setCell ?_ ?_ _ | with_reducible refine Below.drew ?_ | with_reducible refine Below.drewN ?_ _ | with_reducible refine Below.ext ?_ (by assumption) | (simp <;> omega) | omega))) true (by simp [Hid])).mono ?_
  rintro e w6 ⟨rfl, hb6⟩
  obtain ⟨hc6, hf6⟩ := bcell hb6
  have hm6 : w5.heap.size ≤ w6.heap.size := by (have hss := hb6.size; first | omega | (simp at hss <;> omega))
  have hs6_0 : w.heap.size < w6.heap.size := by (have hss := hb6.size; first | omega | (simp at hss <;> omega))
  have hs6_1 : w4.heap.size < w6.heap.size := by (have hss := hb6.size; first | omega | (simp at hss <;> omega))
  go_wp2_with fail
  go_region_held3 (fun w' => Below w6.heap.size w6 w' ∧ (∀ b o, b < w6.heap.size → w'.cell? ⟨b, o, none⟩ = w6.cell? ⟨b, o, none⟩)) (first | with_reducible exact sBeg _ | with_reducible exact sExt (by assumption) (by assumption) | (refine sMk ?_; exact (by repeat' (first | with_reducible exact Below.refl _ _ | with_reducible assumption | with_reducible refine Below.alloc ?_ ?_ _ | with_reducible refine Below.setCell ?_ ?_ _ | with_reducible refine Below.drew ?_ | with_reducible refine Below.drewN ?_ _ | with_reducible refine Below.ext ?_ (by assumption) | (simp <;> omega) | omega)))) ((first | (go_at_call_of 22 (a0msgs); refine (toBox_any a0name a0validity a0next a0msgs _ _ _ (Ha0msgs.out.ext (by repeat' (first | with_reducible exact Below.refl _ _ | with_reducible assumption | with_reducible refine Below.alloc ?_ ?_ _ | with_reducible refine Below.setCell ?_ ?_ _ | with_reducible refine Below.drew ?_ | with_reducible refine Below.drewN ?_ _ | with_reducible refine Below.ext ?_ (by assumption) | (simp <;> omega) | omega))) hla0msgs).mono ?_; rintro e w7 ⟨gx7, rfl, hown, hb7⟩; have HX7 := Lib.hid (Own.of_row hown); clear hown; have hzz7 := hb7.size; (try simp at hzz7)) | (go_at_call_of 24 (a0msgs); refine (eqBox_any a0name a0validity a0next a0msgs _ _ a0name a0validity a0next a0msgs _ _ _ ((Rd.of_Own HX4.out).ext (by repeat' (first | with_reducible exact Below.refl _ _ | with_reducible assumption | with_reducible refine Below.alloc ?_ ?_ _ | with_reducible refine Below.setCell ?_ ?_ _ | with_reducible refine Below.drew ?_ | with_reducible refine Below.drewN ?_ _ | with_reducible refine Below.ext ?_ (by assumption) | (simp <;> omega) | omega))) ((Rd.of_Own HX7.out).ext (by repeat' (first | with_reducible exact Below.refl _ _ | with_reducible assumption | with_reducible refine Below.alloc ?_ ?_ _ | with_reducible refine Below.setCell ?_ ?_ _ | with_reducible refine Below.drew ?_ | with_reducible refine Below.drewN ?_ _ | with_reducible refine Below.ext ?_ (by assumption) | (simp <;> omega) | omega))) true (by simp [Hid])).mono ?_; rintro e w8 ⟨rfl, hb8⟩; have hzz8 := hb8.size; (try simp at hzz8))))
  have hbq8 : Ext w6 w8 := Below.ext (Below.ext ((Below.refl _ _).drew) hb7) hb8
  obtain ⟨hc8, hf8⟩ := bcell hbq8
  have hm8 : w6.heap.size ≤ w8.heap.size := by (have hss := hbq8.size; first | omega | (simp at hss <;> omega))
  have hs8_0 : w.heap.size < w8.heap.size := by (have hss := hbq8.size; first | omega | (simp at hss <;> omega))
  have hs8_1 : w4.heap.size < w8.heap.size := by (have hss := hbq8.size; first | omega | (simp at hss <;> omega))
  go_wp2_with fail
  refine (markBox_any a0name a0validity a0next a0msgs _ _ _ (1) _ (HX4.out.ext (by repeat' (first | with_reducible exact Below.refl _ _ | with_reducible assumption | with_reducible refine Below.alloc ?_ ?_ _ | with_reducible refine Below.setCell ?_ ?_ _ | with_reducible refine Below.drew ?_ | with_reducible refine Below.drewN ?_ _ | with_reducible refine Below.ext ?_ (by assumption) | (simp <;> omega) | omega))) (by omega) (by omega) (by omega)).mono ?_
  rintro e w9 ⟨rfl, hown, hg9⟩
  have HM9 := Lib.hid hown
  clear hown
  have hroot9 : Below w.heap.size w w9 := below_foot (show Below w.heap.size w w8 from by repeat' (first | with_reducible exact Below.refl _ _ | with_reducible assumption | with_reducible refine Below.alloc ?_ ?_ _ | with_reducible refine Below.setCell ?_ ?_ _ | with_reducible refine Below.drew ?_ | with_reducible refine Below.drewN ?_ _ | with_reducible refine Below.ext ?_ (by assumption) | (simp <;> omega) | omega)) (HX4.out.ext (by repeat' (first | with_reducible exact Below.refl _ _ | with_reducible assumption | with_reducible refine Below.alloc ?_ ?_ _ | with_reducible refine Below.setCell ?_ ?_ _ | with_reducible refine Below.drew ?_ | with_reducible refine Below.drewN ?_ _ | with_reducible refine Below.ext ?_ (by assumption) | (simp <;> omega) | omega))) (by (first | omega | (simp <;> omega))) (by (first | omega | (simp <;> omega))) hg9
  obtain ⟨hc9, hf9⟩ := grown_foff hg9
  have hm9 : w8.heap.size ≤ w9.heap.size := hg9.size
  have hs9_0 : w.heap.size < w9.heap.size := by omega
  have hn9_0 : FOff (w.heap.size) _ := FOff.lt HX4.out (by (first | omega | (simp <;> omega)))
  have hs9_1 : w4.heap.size < w9.heap.size := by omega
  have hn9_1 : FOff (w4.heap.size) _ := FOff.ge HX4.out (by (first | omega | (simp <;> omega)))
  have HR9_5 := Lib.hid (Own.off (HX5.out.ext (by repeat' (first | with_reducible exact Below.refl _ _ | with_reducible assumption | with_reducible refine Below.alloc ?_ ?_ _ | with_reducible refine Below.setCell ?_ ?_ _ | with_reducible refine Below.drew ?_ | with_reducible refine Below.drewN ?_ _ | with_reducible refine Below.ext ?_ (by assumption) | (simp <;> omega) | omega))) hg9 ((Off2.of HX4.out HX5.out (by (first | omega | (simp <;> omega)))).symm))
  have HR9_3 := Lib.hid (Own.off (HX3.out.ext (by repeat' (first | with_reducible exact Below.refl _ _ | with_reducible assumption | with_reducible refine Below.alloc ?_ ?_ _ | with_reducible refine Below.setCell ?_ ?_ _ | with_reducible refine Below.drew ?_ | with_reducible refine Below.drewN ?_ _ | with_reducible refine Below.ext ?_ (by assumption) | (simp <;> omega) | omega))) hg9 (Off2.of HX3.out HX4.out (by (first | omega | (simp <;> omega)))))
  clear hg9
  go_wp2_with fail
  refine (eqReplyS_any rr rr _ _ _ _ _ ((Rd.of_Own HR9_5.out).ext (by repeat' (first | with_reducible exact Below.refl _ _ | with_reducible assumption | with_reducible refine Below.alloc ?_ ?_ _ | with_reducible refine Below.setCell ?_ ?_ _ | with_reducible refine Below.drew ?_ | with_reducible refine Below.drewN ?_ _ | with_reducible refine Below.ext ?_ (by assumption) | (simp <;> omega) | omega))) ((Rd.of_Own HR9_3.out).ext (by repeat' (first | with_reducible exact Below.refl _ _ | with_reducible assumption | with_reducible refine Below.alloc ?_ ?_ _ | with_reducible refine Below.setCell ?_ ?_ _ | with_reducible refine Below.drew ?_ | with_reducible refine Below.drewN ?_ _ | with_reducible refine Below.ext ?_ (by assumption) | (simp <;> omega) | omega))) true (by simp [Hid])).mono ?_
  rintro e w10 ⟨rfl, hb10⟩
  obtain ⟨hc10, hf10⟩ := bcell hb10
  have hm10 : w9.heap.size ≤ w10.heap.size := by (have hss := hb10.size; first | omega | (simp at hss <;> omega))
  have hs10_0 : w.heap.size < w10.heap.size := by (have hss := hb10.size; first | omega | (simp at hss <;> omega))
  have hs10_1 : w4.heap.size < w10.heap.size := by (have hss := hb10.size; first | omega | (simp at hss <;> omega))
  go_wp2_with fail
  refine (markReplyS_any rr _ _ _ 1 _ (HR9_5.out.ext (by repeat' (first | with_reducible exact Below.refl _ _ | with_reducible assumption | with_reducible refine Below.alloc ?_ ?_ _ | with_reducible refine Below.setCell ?_ ?_ _ | with_reducible refine Below.drew ?_ | with_reducible refine Below.drewN ?_ _ | with_reducible refine Below.ext ?_ (by assumption) | (simp <;> omega) | omega))) (by omega) (by omega) hlr).mono ?_
  rintro e w11 ⟨rfl, hown, hg11⟩
  have HM11 := Lib.hid hown
  clear hown
  have hroot11 : Below w.heap.size w w11 := below_foot (show Below w.heap.size w w10 from by repeat' (first | with_reducible exact Below.refl _ _ | with_reducible assumption | with_reducible refine Below.alloc ?_ ?_ _ | with_reducible refine Below.setCell ?_ ?_ _ | with_reducible refine Below.drew ?_ | with_reducible refine Below.drewN ?_ _ | with_reducible refine Below.ext ?_ (by assumption) | (simp <;> omega) | omega)) (HR9_5.out.ext (by repeat' (first | with_reducible exact Below.refl _ _ | with_reducible assumption | with_reducible refine Below.alloc ?_ ?_ _ | with_reducible refine Below.setCell ?_ ?_ _ | with_reducible refine Below.drew ?_ | with_reducible refine Below.drewN ?_ _ | with_reducible refine Below.ext ?_ (by assumption) | (simp <;> omega) | omega))) (by (first | omega | (simp <;> omega))) (by (first | omega | (simp <;> omega))) hg11
  obtain ⟨hc11, hf11⟩ := grown_foff hg11
  have hm11 : w10.heap.size ≤ w11.heap.size := hg11.size
  have hs11_0 : w.heap.size < w11.heap.size := by omega
  have hn11_0 : FOff (w.heap.size) _ := FOff.lt HX5.out (by (first | omega | (simp <;> omega)))
  have hs11_1 : w4.heap.size < w11.heap.size := by omega
  have hn11_1 : FOff (w4.heap.size) _ := FOff.lt HX5.out (by (first | omega | (simp <;> omega)))
  have HR11_3 := Lib.hid (Own.off (HR9_3.out.ext (by repeat' (first | with_reducible exact Below.refl _ _ | with_reducible assumption | with_reducible refine Below.alloc ?_ ?_ _ | with_reducible refine Below.setCell ?_ ?_ _ | with_reducible refine Below.drew ?_ | with_reducible refine Below.drewN ?_ _ | with_reducible refine Below.ext ?_ (by assumption) | (simp <;> omega) | omega))) hg11 (Off2.of HX3.out HX5.out (by (first | omega | (simp <;> omega)))))
  clear hg11
  go_wp2_with fail
  refine (heldReplyS_any rr.length _ _ 1 _ ((Rd.of_Own HM11.out).ext (by repeat' (first | with_reducible exact Below.refl _ _ | with_reducible assumption | with_reducible refine Below.alloc ?_ ?_ _ | with_reducible refine Below.setCell ?_ ?_ _ | with_reducible refine Below.drew ?_ | with_reducible refine Below.drewN ?_ _ | with_reducible refine Below.ext ?_ (by assumption) | (simp <;> omega) | omega))) (by omega) (by omega) hlr).mono ?_
  rintro e w12 ⟨rfl, hb12⟩
  obtain ⟨hc12, hf12⟩ := bcell hb12
  have hm12 : w11.heap.size ≤ w12.heap.size := by (have hss := hb12.size; first | omega | (simp at hss <;> omega))
  have hs12_0 : w.heap.size < w12.heap.size := by (have hss := hb12.size; first | omega | (simp at hss <;> omega))
  have hs12_1 : w4.heap.size < w12.heap.size := by (have hss := hb12.size; first | omega | (simp at hss <;> omega))
  go_wp2_with fail
  refine (toBox_any a0name a0validity a0next a0msgs _ _ _ (Ha0msgs.out.ext (by repeat' (first | with_reducible exact Below.refl _ _ | with_reducible assumption | with_reducible refine Below.alloc ?_ ?_ _ | with_reducible refine Below.setCell ?_ ?_ _ | with_reducible refine Below.drew ?_ | with_reducible refine Below.drewN ?_ _ | with_reducible refine Below.ext ?_ (by assumption) | (simp <;> omega) | omega))) hla0msgs).mono ?_
  rintro e w13 ⟨gx13, rfl, hown, hb13⟩
  have HX13 := Lib.hid (Own.of_row hown); clear hown
  obtain ⟨hc13, hf13⟩ := bcell hb13
  have hm13 : w12.heap.size ≤ w13.heap.size := by (have hss := hb13.size; first | omega | (simp at hss <;> omega))
  have hs13_0 : w.heap.size < w13.heap.size := by (have hss := hb13.size; first | omega | (simp at hss <;> omega))
  have hs13_1 : w4.heap.size < w13.heap.size := by (have hss := hb13.size; first | omega | (simp at hss <;> omega))
  go_wp2_with fail
  refine (implSelecting_any a0name a0validity a0next a0msgs _ _ _ ((Rd.of_Own HX13.out).ext (by repeat' (first | with_reducible exact Below.refl _ _ | with_reducible assumption | with_reducible refine Below.alloc ?_ ?_ _ | with_reducible refine Below.setCell ?_ ?_ _ | with_reducible refine Below.drew ?_ | with_reducible refine Below.drewN ?_ _ | with_reducible refine Below.ext ?_ (by assumption) | (simp <;> omega) | omega))) (by omega) (HMX.out.ext (by repeat' (first | with_reducible exact Below.refl _ _ | with_reducible assumption | with_reducible refine Below.alloc ?_ ?_ _ | with_reducible refine Below.setCell ?_ ?_ _ | with_reducible refine Below.drew ?_ | with_reducible refine Below.drewN ?_ _ | with_reducible refine Below.ext ?_ (by assumption) | (simp <;> omega) | omega))) g0name Hgs0msgs.out rr Hrr).mono ?_
  rintro e w14 ⟨ga14, qa14, rfl, hown, hb14⟩
  have HX14 := Lib.hid hown; clear hown
  obtain ⟨hc14, hf14⟩ := bcell hb14
  have hm14 : w13.heap.size ≤ w14.heap.size := by (have hss := hb14.size; first | omega | (simp at hss <;> omega))
  have hs14_0 : w.heap.size < w14.heap.size := by (have hss := hb14.size; first | omega | (simp at hss <;> omega))
  have hs14_1 : w4.heap.size < w14.heap.size := by (have hss := hb14.size; first | omega | (simp at hss <;> omega))
  go_wp2_with fail
  refine (eqReplyS_any rr rr _ _ _ _ _ ((Rd.of_Own HX14.out).ext (by repeat' (first | with_reducible exact Below.refl _ _ | with_reducible assumption | with_reducible refine Below.alloc ?_ ?_ _ | with_reducible refine Below.setCell ?_ ?_ _ | with_reducible refine Below.drew ?_ | with_reducible refine Below.drewN ?_ _ | with_reducible refine Below.ext ?_ (by assumption) | (simp <;> omega) | omega))) ((Rd.of_Own HR11_3.out).ext (by repeat' (first | with_reducible exact Below.refl _ _ | with_reducible assumption | with_reducible refine Below.alloc ?_ ?_ _ | with_reducible refine Below.setCell ?_ ?_ _ | with_reducible refine Below.drew ?_ | with_reducible refine Below.drewN ?_ _ | with_reducible refine Below.ext ?_ (by assumption) | (simp <;> omega) | omega))) true (by simp [Hid])).mono ?_
  rintro e w15 ⟨rfl, hb15⟩
  obtain ⟨hc15, hf15⟩ := bcell hb15
  have hm15 : w14.heap.size ≤ w15.heap.size := by (have hss := hb15.size; first | omega | (simp at hss <;> omega))
  have hs15_0 : w.heap.size < w15.heap.size := by (have hss := hb15.size; first | omega | (simp at hss <;> omega))
  have hs15_1 : w4.heap.size < w15.heap.size := by (have hss := hb15.size; first | omega | (simp at hss <;> omega))
  go_wp2_with fail
  refine (heldReplyS_any rr.length _ _ 1 _ ((Rd.of_Own HM11.out).ext (by repeat' (first | with_reducible exact Below.refl _ _ | with_reducible assumption | with_reducible refine Below.alloc ?_ ?_ _ | with_reducible refine Below.setCell ?_ ?_ _ | with_reducible refine Below.drew ?_ | with_reducible refine Below.drewN ?_ _ | with_reducible refine Below.ext ?_ (by assumption) | (simp <;> omega) | omega))) (by omega) (by omega) hlr).mono ?_
  rintro e w16 ⟨rfl, hb16⟩
  obtain ⟨hc16, hf16⟩ := bcell hb16
  have hm16 : w15.heap.size ≤ w16.heap.size := by (have hss := hb16.size; first | omega | (simp at hss <;> omega))
  have hs16_0 : w.heap.size < w16.heap.size := by (have hss := hb16.size; first | omega | (simp at hss <;> omega))
  have hs16_1 : w4.heap.size < w16.heap.size := by (have hss := hb16.size; first | omega | (simp at hss <;> omega))
  go_wp2_with fail
  go_ret
  exact ⟨rfl, by repeat' (first | with_reducible exact Below.refl _ _ | with_reducible assumption | with_reducible refine Below.alloc ?_ ?_ _ | with_reducible refine Below.setCell ?_ ?_ _ | with_reducible refine Below.drew ?_ | with_reducible refine Below.drewN ?_ _ | with_reducible refine Below.ext ?_ (by assumption) | (simp <;> omega) | omega)⟩

end Go.Proofs.Ytmmbdmdfbdmilaa
