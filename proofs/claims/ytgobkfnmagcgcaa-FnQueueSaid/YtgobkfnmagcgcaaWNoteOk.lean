/-
  Whether a note is valid: the program's function and the reference's.
-/
import Derived.Test.YtgobkfnmagcgcaaFamNote
import Derived.Test.YtgobkfnmagcgcaaWNameOk
namespace Go.Proofs.Ytgobkfnmagcgcaa
open Go.RowKit
set_option linter.unusedVariables false
set_option linter.unusedSimpArgs false

def NoteP (n : DNote) : Prop := (n.kind = 1 ∧ (0 ≤ n.n ∧ n.n ≤ 300) ∧ (0 ≤ n.uid ∧ n.uid ≤ 999999998) ∧ n.name = ⟨#[]⟩) ∨ (n.kind ≠ 1 ∧ (2 ≤ n.kind ∧ n.kind ≤ 4) ∧ n.n = 0 ∧ n.uid = 0 ∧ NameP n.name)
theorem noteP_box (n : DNote) (h : n.kind = 1) : NoteP n ↔ (0 ≤ n.n ∧ n.n ≤ 300) ∧ (0 ≤ n.uid ∧ n.uid ≤ 999999998) ∧ n.name = ⟨#[]⟩ := by simp [NoteP, h]
theorem noteP_oth (n : DNote) (h : n.kind ≠ 1) : NoteP n ↔ (2 ≤ n.kind ∧ n.kind ≤ 4) ∧ n.n = 0 ∧ n.uid = 0 ∧ NameP n.name := by simp [NoteP, h]

set_option maxHeartbeats 4000000 in
theorem specNoteOk_any (a : DNote) (w : World) (hs : a.name.size ≤ 9223372036854775807) (r : Bool) (Hr : Hid (Tells r (NoteP a))) :
    Calls Try.prog 21 #[.agg #[.int .i64 a.kind, .int .i64 a.n, .int .i64 a.uid, .string a.name]] w fun e w' => e = .returned (.bool r) ∧ Ext w w' := by
  obtain ⟨d1, hd1⟩ := boolOf (0 ≤ a.n ∧ a.n ≤ 300)
  obtain ⟨d2, hd2⟩ := boolOf (0 ≤ a.uid ∧ a.uid ≤ 999999998)
  obtain ⟨d3, hd3⟩ := boolOf (2 ≤ a.kind ∧ a.kind ≤ 4)
  obtain ⟨d4, hd4⟩ := boolOf (NameP a.name)
  have H1 := Lib.hid hd1
  have H2 := Lib.hid hd2
  have H3 := Lib.hid hd3
  have H4 := Lib.hid hd4
  clear hd1 hd2 hd3 hd4
  by_cases hk : a.kind = 1
  · have hp := noteP_box a hk
    have HP := Lib.hid hp
    have he : (a.kind == 1) = true := by simp [hk]
    have HK := Lib.hid hk
    clear hp hk
    cases d1
    · go_enter Try.func21, Try.ntmps21
      go_wp2_with ((go_at_call 46; refine (l1In_any _ _ _ _ false H1).mono ?_; rintro e w1 ⟨rfl, rfl⟩))
      go_ret
      exact ⟨ret_no Hr.out (fun hn => no_of H1.out (HP.out.1 hn).1), bxt⟩
    cases d2
    · go_enter Try.func21, Try.ntmps21
      go_wp2_with (first | (go_at_call_of 46 (a.n); refine (l1In_any _ _ _ _ true H1).mono ?_; rintro e w1 ⟨rfl, rfl⟩) | (go_at_call_of 46 (a.uid); refine (l1In_any _ _ _ _ false H2).mono ?_; rintro e w1 ⟨rfl, rfl⟩))
      go_ret
      exact ⟨ret_no Hr.out (fun hn => no_of H2.out (HP.out.1 hn).2.1), bxt⟩
    by_cases hs0 : a.name = ⟨#[]⟩
    · have hq : a.name.toList.isEmpty = true := by rw [str_empty]; simp [hs0]
      have HS := Lib.hid hs0
      clear hs0
      go_enter Try.func21, Try.ntmps21
      go_wp2_with (first | (go_at_call_of 46 (a.n); refine (l1In_any _ _ _ _ true H1).mono ?_; rintro e w1 ⟨rfl, rfl⟩) | (go_at_call_of 46 (a.uid); refine (l1In_any _ _ _ _ true H2).mono ?_; rintro e w1 ⟨rfl, rfl⟩))
      go_ret
      exact ⟨ret_yes Hr.out (HP.out.2 ⟨yes_of H1.out, yes_of H2.out, HS.out⟩), bxt⟩
    · have hq : a.name.toList.isEmpty = false := by rw [str_empty]; simp [hs0]
      have HS := Lib.hid hs0
      clear hs0
      go_enter Try.func21, Try.ntmps21
      go_wp2_with (first | (go_at_call_of 46 (a.n); refine (l1In_any _ _ _ _ true H1).mono ?_; rintro e w1 ⟨rfl, rfl⟩) | (go_at_call_of 46 (a.uid); refine (l1In_any _ _ _ _ true H2).mono ?_; rintro e w1 ⟨rfl, rfl⟩))
      go_ret
      exact ⟨ret_no Hr.out (fun hn => HS.out (HP.out.1 hn).2.2), bxt⟩
  · have hp := noteP_oth a hk
    have HP := Lib.hid hp
    have he : (a.kind == 1) = false := by simp [hk]
    have HK := Lib.hid hk
    clear hp hk
    cases d3
    · go_enter Try.func21, Try.ntmps21
      go_wp2_with ((go_at_call 46; refine (l1In_any _ _ _ _ false H3).mono ?_; rintro e w1 ⟨rfl, rfl⟩))
      go_ret
      exact ⟨ret_no Hr.out (fun hn => no_of H3.out (HP.out.1 hn).1), bxt⟩
    by_cases hn0 : a.n = 0
    rotate_left
    · have hq : (a.n == 0) = false := by simp [hn0]
      have HS := Lib.hid hn0
      clear hn0
      go_enter Try.func21, Try.ntmps21
      go_wp2_with ((go_at_call 46; refine (l1In_any _ _ _ _ true H3).mono ?_; rintro e w1 ⟨rfl, rfl⟩))
      go_ret
      exact ⟨ret_no Hr.out (fun hn => HS.out (HP.out.1 hn).2.1), bxt⟩
    have hq : (a.n == 0) = true := by simp [hn0]
    have HN := Lib.hid hn0
    clear hn0
    by_cases hu0 : a.uid = 0
    rotate_left
    · have hq2 : (a.uid == 0) = false := by simp [hu0]
      have HS := Lib.hid hu0
      clear hu0
      go_enter Try.func21, Try.ntmps21
      go_wp2_with ((go_at_call 46; refine (l1In_any _ _ _ _ true H3).mono ?_; rintro e w1 ⟨rfl, rfl⟩))
      go_ret
      exact ⟨ret_no Hr.out (fun hn => HS.out (HP.out.1 hn).2.2.1), bxt⟩
    have hq2 : (a.uid == 0) = true := by simp [hu0]
    have HU := Lib.hid hu0
    clear hu0
    go_enter Try.func21, Try.ntmps21
    go_wp2_with (first | (go_at_call 46; refine (l1In_any _ _ _ _ true H3).mono ?_; rintro e w1 ⟨rfl, rfl⟩) | (go_at_call 64; refine (specNameOk_any a.name _ hs d4 H4).mono ?_; rintro e w1 ⟨rfl, rfl⟩))
    go_ret
    refine ⟨ret_bool ?_, bxt⟩
    cases d4
    · exact (Hr.out.eq_false (fun hn => no_of H4.out (HP.out.1 hn).2.2.2)).symm
    · exact (Hr.out.eq_true (HP.out.2 ⟨yes_of H3.out, HN.out, HU.out, yes_of H4.out⟩)).symm

set_option maxHeartbeats 4000000 in
theorem implNoteOk_any (a : DNote) (w : World) (hm : MaxLen w) (hs : a.name.size ≤ 9223372036854775807) (r : Bool) (Hr : Hid (Tells r (NoteP a))) :
    Calls Try.prog 54 #[.agg #[.int .i64 a.kind, .int .i64 a.n, .int .i64 a.uid, .string a.name]] w fun e w' => e = .returned (.bool r) ∧ Ext w w' := by
  obtain ⟨d1, hd1⟩ := boolOf (0 ≤ a.n ∧ a.n ≤ 300)
  obtain ⟨d2, hd2⟩ := boolOf (0 ≤ a.uid ∧ a.uid ≤ 999999998)
  obtain ⟨d3, hd3⟩ := boolOf (2 ≤ a.kind ∧ a.kind ≤ 4)
  obtain ⟨d4, hd4⟩ := boolOf (NameP a.name)
  have H1 := Lib.hid hd1
  have H2 := Lib.hid hd2
  have H3 := Lib.hid hd3
  have H4 := Lib.hid hd4
  clear hd1 hd2 hd3 hd4
  have HM := Lib.hid hm
  clear hm
  by_cases hk : a.kind = 1
  · have hp := noteP_box a hk
    have HP := Lib.hid hp
    have he : (a.kind == 1) = true := by simp [hk]
    have HK := Lib.hid hk
    clear hp hk
    cases d1
    · go_enter Try.func54, Try.ntmps54
      go_wp2_with ((go_at_call 44; refine (within_any _ _ _ _ false H1).mono ?_; rintro e w1 ⟨rfl, rfl⟩))
      go_ret
      exact ⟨ret_no Hr.out (fun hn => no_of H1.out (HP.out.1 hn).1), bxt⟩
    cases d2
    · go_enter Try.func54, Try.ntmps54
      go_wp2_with (first | (go_at_call_of 44 (a.n); refine (within_any _ _ _ _ true H1).mono ?_; rintro e w1 ⟨rfl, rfl⟩) | (go_at_call_of 44 (a.uid); refine (within_any _ _ _ _ false H2).mono ?_; rintro e w1 ⟨rfl, rfl⟩))
      go_ret
      exact ⟨ret_no Hr.out (fun hn => no_of H2.out (HP.out.1 hn).2.1), bxt⟩
    by_cases hs0 : a.name = ⟨#[]⟩
    · have hq : a.name.toList.isEmpty = true := by rw [str_empty]; simp [hs0]
      have HS := Lib.hid hs0
      clear hs0
      go_enter Try.func54, Try.ntmps54
      go_wp2_with (first | (go_at_call_of 44 (a.n); refine (within_any _ _ _ _ true H1).mono ?_; rintro e w1 ⟨rfl, rfl⟩) | (go_at_call_of 44 (a.uid); refine (within_any _ _ _ _ true H2).mono ?_; rintro e w1 ⟨rfl, rfl⟩))
      go_ret
      exact ⟨ret_yes Hr.out (HP.out.2 ⟨yes_of H1.out, yes_of H2.out, HS.out⟩), bxt⟩
    · have hq : a.name.toList.isEmpty = false := by rw [str_empty]; simp [hs0]
      have HS := Lib.hid hs0
      clear hs0
      go_enter Try.func54, Try.ntmps54
      go_wp2_with (first | (go_at_call_of 44 (a.n); refine (within_any _ _ _ _ true H1).mono ?_; rintro e w1 ⟨rfl, rfl⟩) | (go_at_call_of 44 (a.uid); refine (within_any _ _ _ _ true H2).mono ?_; rintro e w1 ⟨rfl, rfl⟩))
      go_ret
      exact ⟨ret_no Hr.out (fun hn => HS.out (HP.out.1 hn).2.2), bxt⟩
  · have hp := noteP_oth a hk
    have HP := Lib.hid hp
    have he : (a.kind == 1) = false := by simp [hk]
    have HK := Lib.hid hk
    clear hp hk
    cases d3
    · go_enter Try.func54, Try.ntmps54
      go_wp2_with ((go_at_call 44; refine (within_any _ _ _ _ false H3).mono ?_; rintro e w1 ⟨rfl, rfl⟩))
      go_ret
      exact ⟨ret_no Hr.out (fun hn => no_of H3.out (HP.out.1 hn).1), bxt⟩
    by_cases hn0 : a.n = 0
    rotate_left
    · have hq : (a.n == 0) = false := by simp [hn0]
      have HS := Lib.hid hn0
      clear hn0
      go_enter Try.func54, Try.ntmps54
      go_wp2_with ((go_at_call 44; refine (within_any _ _ _ _ true H3).mono ?_; rintro e w1 ⟨rfl, rfl⟩))
      go_ret
      exact ⟨ret_no Hr.out (fun hn => HS.out (HP.out.1 hn).2.1), bxt⟩
    have hq : (a.n == 0) = true := by simp [hn0]
    have HN := Lib.hid hn0
    clear hn0
    by_cases hu0 : a.uid = 0
    rotate_left
    · have hq2 : (a.uid == 0) = false := by simp [hu0]
      have HS := Lib.hid hu0
      clear hu0
      go_enter Try.func54, Try.ntmps54
      go_wp2_with ((go_at_call 44; refine (within_any _ _ _ _ true H3).mono ?_; rintro e w1 ⟨rfl, rfl⟩))
      go_ret
      exact ⟨ret_no Hr.out (fun hn => HS.out (HP.out.1 hn).2.2.1), bxt⟩
    have hq2 : (a.uid == 0) = true := by simp [hu0]
    have HU := Lib.hid hu0
    clear hu0
    go_enter Try.func54, Try.ntmps54
    go_wp2_with (first | (go_at_call 44; refine (within_any _ _ _ _ true H3).mono ?_; rintro e w1 ⟨rfl, rfl⟩) | (go_at_call 97; refine (implNameOk_any a.name _ (HM.out.ext bxt) hs d4 H4).mono ?_; rintro e w1 ⟨rfl, rfl⟩))
    go_ret
    refine ⟨ret_bool ?_, bxt⟩
    cases d4
    · exact (Hr.out.eq_false (fun hn => no_of H4.out (HP.out.1 hn).2.2.2)).symm
    · exact (Hr.out.eq_true (HP.out.2 ⟨yes_of H3.out, HN.out, HU.out, yes_of H4.out⟩)).symm

end Go.Proofs.Ytgobkfnmagcgcaa
