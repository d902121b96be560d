/-
  Whether a reply is valid: the program's function.
-/
import Derived.Test.YtadjlfcdjkikgaaDoorReplyP
namespace Go.Proofs.YtadjlfcdjkikgaaDoor
open Go.RowKit
set_option linter.unusedVariables false
set_option linter.unusedSimpArgs false

set_option maxRecDepth 20000 in
set_option maxHeartbeats 4000000 in
theorem implReplyT1 (n u f : Int) (nm tx : ByteArray) (w : World) (hm : MaxLen w) (g1 : nm.size ≤ 9223372036854775807) (g2 : tx.size ≤ 9223372036854775807) (r : Bool) (Hr : Hid (Tells r ((0 ≤ n ∧ n ≤ 999999999) ∧ (⟨0, 0, u, f, nm, tx⟩ : DReply) = (⟨0, 0, 0, 0, ⟨#[]⟩, ⟨#[]⟩⟩ : DReply)))) :
    Calls Tryd.prog 31 #[.agg #[.int .i64 1, .int .i64 n, .int .i64 u, .int .i64 f, .string nm, .string tx]] w fun e w' => e = .returned (.bool r) ∧ Ext w w' := by
  have hG := eqReplyG
  obtain ⟨dE, hE⟩ : ∃ d, decide ((⟨0, 0, u, f, nm, tx⟩ : DReply) = (⟨0, 0, 0, 0, ⟨#[]⟩, ⟨#[]⟩⟩ : DReply)) = d := ⟨_, rfl⟩
  have HE := Lib.hid hE
  have hq := fun w => eqReplyB (⟨0, 0, u, f, nm, tx⟩ : DReply) (⟨0, 0, 0, 0, ⟨#[]⟩, ⟨#[]⟩⟩ : DReply) dE hE w
  dsimp only at hq
  clear hE
  have HM := Lib.hid hm
  clear hm
  rcases (by omega : (n < 0) ∨ (0 ≤ n ∧ n ≤ 999999999) ∨ (999999999 < n)) with cN | cN | cN
  · skip
    try have eN0 : decide (0 ≤ n) = true := decide_eq_true (by omega)
    try have eN0 : decide (0 ≤ n) = false := decide_eq_false (by omega)
    try have eN1 : decide (n ≤ 999999999) = true := decide_eq_true (by omega)
    try have eN1 : decide (n ≤ 999999999) = false := decide_eq_false (by omega)
    try have eN2 : decide (n < 0) = true := decide_eq_true (by omega)
    try have eN2 : decide (n < 0) = false := decide_eq_false (by omega)
    try have eN3 : decide (1 ≤ n) = true := decide_eq_true (by omega)
    try have eN3 : decide (1 ≤ n) = false := decide_eq_false (by omega)
    try have eN4 : decide (n < 1) = true := decide_eq_true (by omega)
    try have eN4 : decide (n < 1) = false := decide_eq_false (by omega)
    have HN := Lib.hid cN
    clear cN
    go_enter Tryd.func31, Tryd.ntmps31
    go_wp2_with (first | (go_at_call 53; refine (within_dec _ _ _ _).mono ?_; rintro e w1 ⟨rfl, rfl⟩) | (go_at_call 54; refine (isId_dec _ _).mono ?_; rintro e w1 ⟨rfl, rfl⟩) | (go_at_call 55; refine (flagsOk_dec _ _).mono ?_; rintro e w1 ⟨rfl, rfl⟩))
    go_ret
    exact ⟨ret_no Hr.out (fun hn => by have hh := hn.1; have cc := HN.out; omega), bxt⟩
  · skip
    try have eN0 : decide (0 ≤ n) = true := decide_eq_true (by omega)
    try have eN0 : decide (0 ≤ n) = false := decide_eq_false (by omega)
    try have eN1 : decide (n ≤ 999999999) = true := decide_eq_true (by omega)
    try have eN1 : decide (n ≤ 999999999) = false := decide_eq_false (by omega)
    try have eN2 : decide (n < 0) = true := decide_eq_true (by omega)
    try have eN2 : decide (n < 0) = false := decide_eq_false (by omega)
    try have eN3 : decide (1 ≤ n) = true := decide_eq_true (by omega)
    try have eN3 : decide (1 ≤ n) = false := decide_eq_false (by omega)
    try have eN4 : decide (n < 1) = true := decide_eq_true (by omega)
    try have eN4 : decide (n < 1) = false := decide_eq_false (by omega)
    have HN := Lib.hid cN
    clear cN
    cases dE
    · go_enter Tryd.func31, Tryd.ntmps31
      go_wp2_with (first | (go_at_call 53; refine (within_dec _ _ _ _).mono ?_; rintro e w1 ⟨rfl, rfl⟩) | (go_at_call 54; refine (isId_dec _ _).mono ?_; rintro e w1 ⟨rfl, rfl⟩) | (go_at_call 55; refine (flagsOk_dec _ _).mono ?_; rintro e w1 ⟨rfl, rfl⟩))
      go_ret
      exact ⟨ret_no Hr.out (fun hn => of_decide_eq_false HE.out hn.2), bxt⟩
    · go_enter Tryd.func31, Tryd.ntmps31
      go_wp2_with (first | (go_at_call 53; refine (within_dec _ _ _ _).mono ?_; rintro e w1 ⟨rfl, rfl⟩) | (go_at_call 54; refine (isId_dec _ _).mono ?_; rintro e w1 ⟨rfl, rfl⟩) | (go_at_call 55; refine (flagsOk_dec _ _).mono ?_; rintro e w1 ⟨rfl, rfl⟩))
      go_ret
      exact ⟨ret_yes Hr.out ⟨HN.out, of_decide_eq_true HE.out⟩, bxt⟩
  · skip
    try have eN0 : decide (0 ≤ n) = true := decide_eq_true (by omega)
    try have eN0 : decide (0 ≤ n) = false := decide_eq_false (by omega)
    try have eN1 : decide (n ≤ 999999999) = true := decide_eq_true (by omega)
    try have eN1 : decide (n ≤ 999999999) = false := decide_eq_false (by omega)
    try have eN2 : decide (n < 0) = true := decide_eq_true (by omega)
    try have eN2 : decide (n < 0) = false := decide_eq_false (by omega)
    try have eN3 : decide (1 ≤ n) = true := decide_eq_true (by omega)
    try have eN3 : decide (1 ≤ n) = false := decide_eq_false (by omega)
    try have eN4 : decide (n < 1) = true := decide_eq_true (by omega)
    try have eN4 : decide (n < 1) = false := decide_eq_false (by omega)
    have HN := Lib.hid cN
    clear cN
    go_enter Tryd.func31, Tryd.ntmps31
    go_wp2_with (first | (go_at_call 53; refine (within_dec _ _ _ _).mono ?_; rintro e w1 ⟨rfl, rfl⟩) | (go_at_call 54; refine (isId_dec _ _).mono ?_; rintro e w1 ⟨rfl, rfl⟩) | (go_at_call 55; refine (flagsOk_dec _ _).mono ?_; rintro e w1 ⟨rfl, rfl⟩))
    go_ret
    exact ⟨ret_no Hr.out (fun hn => by have hh := hn.1; have cc := HN.out; omega), bxt⟩

theorem implReply1 (n u f : Int) (nm tx : ByteArray) (w : World) (hm : MaxLen w) (g1 : nm.size ≤ 9223372036854775807) (g2 : tx.size ≤ 9223372036854775807) (r : Bool) (Hr : Hid (Tells r (ReplyK 1 n u f nm tx))) :
    Calls Tryd.prog 31 #[.agg #[.int .i64 1, .int .i64 n, .int .i64 u, .int .i64 f, .string nm, .string tx]] w fun e w' => e = .returned (.bool r) ∧ Ext w w' :=
  implReplyT1 n u f nm tx w hm g1 g2 r (Lib.hid (Iff.trans Hr.out (by simp [ReplyK])))

set_option maxRecDepth 20000 in
set_option maxHeartbeats 4000000 in
theorem implReplyT2 (n u f : Int) (nm tx : ByteArray) (w : World) (hm : MaxLen w) (g1 : nm.size ≤ 9223372036854775807) (g2 : tx.size ≤ 9223372036854775807) (r : Bool) (Hr : Hid (Tells r ((1 ≤ n ∧ n ≤ 999999999) ∧ (⟨0, 0, u, f, nm, tx⟩ : DReply) = (⟨0, 0, 0, 0, ⟨#[]⟩, ⟨#[]⟩⟩ : DReply)))) :
    Calls Tryd.prog 31 #[.agg #[.int .i64 2, .int .i64 n, .int .i64 u, .int .i64 f, .string nm, .string tx]] w fun e w' => e = .returned (.bool r) ∧ Ext w w' := by
  have hG := eqReplyG
  obtain ⟨dE, hE⟩ : ∃ d, decide ((⟨0, 0, u, f, nm, tx⟩ : DReply) = (⟨0, 0, 0, 0, ⟨#[]⟩, ⟨#[]⟩⟩ : DReply)) = d := ⟨_, rfl⟩
  have HE := Lib.hid hE
  have hq := fun w => eqReplyB (⟨0, 0, u, f, nm, tx⟩ : DReply) (⟨0, 0, 0, 0, ⟨#[]⟩, ⟨#[]⟩⟩ : DReply) dE hE w
  dsimp only at hq
  clear hE
  have HM := Lib.hid hm
  clear hm
  rcases (by omega : (n < 0) ∨ (n = 0) ∨ (1 ≤ n ∧ n ≤ 999999999) ∨ (999999999 < n)) with cI | cI | cI | cI
  · skip
    try have eI0 : decide (0 ≤ n) = true := decide_eq_true (by omega)
    try have eI0 : decide (0 ≤ n) = false := decide_eq_false (by omega)
    try have eI1 : decide (n ≤ 999999999) = true := decide_eq_true (by omega)
    try have eI1 : decide (n ≤ 999999999) = false := decide_eq_false (by omega)
    try have eI2 : decide (n < 1) = true := decide_eq_true (by omega)
    try have eI2 : decide (n < 1) = false := decide_eq_false (by omega)
    try have eI3 : decide (1 ≤ n) = true := decide_eq_true (by omega)
    try have eI3 : decide (1 ≤ n) = false := decide_eq_false (by omega)
    try have eI4 : decide (n < 0) = true := decide_eq_true (by omega)
    try have eI4 : decide (n < 0) = false := decide_eq_false (by omega)
    have HI := Lib.hid cI
    clear cI
    go_enter Tryd.func31, Tryd.ntmps31
    go_wp2_with (first | (go_at_call 53; refine (within_dec _ _ _ _).mono ?_; rintro e w1 ⟨rfl, rfl⟩) | (go_at_call 54; refine (isId_dec _ _).mono ?_; rintro e w1 ⟨rfl, rfl⟩) | (go_at_call 55; refine (flagsOk_dec _ _).mono ?_; rintro e w1 ⟨rfl, rfl⟩))
    go_ret
    exact ⟨ret_no Hr.out (fun hn => by have hh := hn.1; have cc := HI.out; omega), bxt⟩
  · skip
    try have eI0 : decide (0 ≤ n) = true := decide_eq_true (by omega)
    try have eI0 : decide (0 ≤ n) = false := decide_eq_false (by omega)
    try have eI1 : decide (n ≤ 999999999) = true := decide_eq_true (by omega)
    try have eI1 : decide (n ≤ 999999999) = false := decide_eq_false (by omega)
    try have eI2 : decide (n < 1) = true := decide_eq_true (by omega)
    try have eI2 : decide (n < 1) = false := decide_eq_false (by omega)
    try have eI3 : decide (1 ≤ n) = true := decide_eq_true (by omega)
    try have eI3 : decide (1 ≤ n) = false := decide_eq_false (by omega)
    try have eI4 : decide (n < 0) = true := decide_eq_true (by omega)
    try have eI4 : decide (n < 0) = false := decide_eq_false (by omega)
    have HI := Lib.hid cI
    clear cI
    go_enter Tryd.func31, Tryd.ntmps31
    go_wp2_with (first | (go_at_call 53; refine (within_dec _ _ _ _).mono ?_; rintro e w1 ⟨rfl, rfl⟩) | (go_at_call 54; refine (isId_dec _ _).mono ?_; rintro e w1 ⟨rfl, rfl⟩) | (go_at_call 55; refine (flagsOk_dec _ _).mono ?_; rintro e w1 ⟨rfl, rfl⟩))
    go_ret
    exact ⟨ret_no Hr.out (fun hn => by have hh := hn.1; have cc := HI.out; omega), bxt⟩
  · skip
    try have eI0 : decide (0 ≤ n) = true := decide_eq_true (by omega)
    try have eI0 : decide (0 ≤ n) = false := decide_eq_false (by omega)
    try have eI1 : decide (n ≤ 999999999) = true := decide_eq_true (by omega)
    try have eI1 : decide (n ≤ 999999999) = false := decide_eq_false (by omega)
    try have eI2 : decide (n < 1) = true := decide_eq_true (by omega)
    try have eI2 : decide (n < 1) = false := decide_eq_false (by omega)
    try have eI3 : decide (1 ≤ n) = true := decide_eq_true (by omega)
    try have eI3 : decide (1 ≤ n) = false := decide_eq_false (by omega)
    try have eI4 : decide (n < 0) = true := decide_eq_true (by omega)
    try have eI4 : decide (n < 0) = false := decide_eq_false (by omega)
    have HI := Lib.hid cI
    clear cI
    cases dE
    · go_enter Tryd.func31, Tryd.ntmps31
      go_wp2_with (first | (go_at_call 53; refine (within_dec _ _ _ _).mono ?_; rintro e w1 ⟨rfl, rfl⟩) | (go_at_call 54; refine (isId_dec _ _).mono ?_; rintro e w1 ⟨rfl, rfl⟩) | (go_at_call 55; refine (flagsOk_dec _ _).mono ?_; rintro e w1 ⟨rfl, rfl⟩))
      go_ret
      exact ⟨ret_no Hr.out (fun hn => of_decide_eq_false HE.out hn.2), bxt⟩
    · go_enter Tryd.func31, Tryd.ntmps31
      go_wp2_with (first | (go_at_call 53; refine (within_dec _ _ _ _).mono ?_; rintro e w1 ⟨rfl, rfl⟩) | (go_at_call 54; refine (isId_dec _ _).mono ?_; rintro e w1 ⟨rfl, rfl⟩) | (go_at_call 55; refine (flagsOk_dec _ _).mono ?_; rintro e w1 ⟨rfl, rfl⟩))
      go_ret
      exact ⟨ret_yes Hr.out ⟨HI.out, of_decide_eq_true HE.out⟩, bxt⟩
  · skip
    try have eI0 : decide (0 ≤ n) = true := decide_eq_true (by omega)
    try have eI0 : decide (0 ≤ n) = false := decide_eq_false (by omega)
    try have eI1 : decide (n ≤ 999999999) = true := decide_eq_true (by omega)
    try have eI1 : decide (n ≤ 999999999) = false := decide_eq_false (by omega)
    try have eI2 : decide (n < 1) = true := decide_eq_true (by omega)
    try have eI2 : decide (n < 1) = false := decide_eq_false (by omega)
    try have eI3 : decide (1 ≤ n) = true := decide_eq_true (by omega)
    try have eI3 : decide (1 ≤ n) = false := decide_eq_false (by omega)
    try have eI4 : decide (n < 0) = true := decide_eq_true (by omega)
    try have eI4 : decide (n < 0) = false := decide_eq_false (by omega)
    have HI := Lib.hid cI
    clear cI
    go_enter Tryd.func31, Tryd.ntmps31
    go_wp2_with (first | (go_at_call 53; refine (within_dec _ _ _ _).mono ?_; rintro e w1 ⟨rfl, rfl⟩) | (go_at_call 54; refine (isId_dec _ _).mono ?_; rintro e w1 ⟨rfl, rfl⟩) | (go_at_call 55; refine (flagsOk_dec _ _).mono ?_; rintro e w1 ⟨rfl, rfl⟩))
    go_ret
    exact ⟨ret_no Hr.out (fun hn => by have hh := hn.1; have cc := HI.out; omega), bxt⟩

theorem implReply2 (n u f : Int) (nm tx : ByteArray) (w : World) (hm : MaxLen w) (g1 : nm.size ≤ 9223372036854775807) (g2 : tx.size ≤ 9223372036854775807) (r : Bool) (Hr : Hid (Tells r (ReplyK 2 n u f nm tx))) :
    Calls Tryd.prog 31 #[.agg #[.int .i64 2, .int .i64 n, .int .i64 u, .int .i64 f, .string nm, .string tx]] w fun e w' => e = .returned (.bool r) ∧ Ext w w' :=
  implReplyT2 n u f nm tx w hm g1 g2 r (Lib.hid (Iff.trans Hr.out (by simp [ReplyK])))

set_option maxRecDepth 20000 in
set_option maxHeartbeats 4000000 in
theorem implReplyT3 (n u f : Int) (nm tx : ByteArray) (w : World) (hm : MaxLen w) (g1 : nm.size ≤ 9223372036854775807) (g2 : tx.size ≤ 9223372036854775807) (r : Bool) (Hr : Hid (Tells r ((1 ≤ n ∧ n ≤ 999999999) ∧ (1 ≤ u ∧ u ≤ 999999999) ∧ (0 ≤ f ∧ f ≤ 31) ∧ (⟨0, 0, 0, 0, nm, tx⟩ : DReply) = (⟨0, 0, 0, 0, ⟨#[]⟩, ⟨#[]⟩⟩ : DReply)))) :
    Calls Tryd.prog 31 #[.agg #[.int .i64 3, .int .i64 n, .int .i64 u, .int .i64 f, .string nm, .string tx]] w fun e w' => e = .returned (.bool r) ∧ Ext w w' := by
  have hG := eqReplyG
  obtain ⟨dE, hE⟩ : ∃ d, decide ((⟨0, 0, 0, 0, nm, tx⟩ : DReply) = (⟨0, 0, 0, 0, ⟨#[]⟩, ⟨#[]⟩⟩ : DReply)) = d := ⟨_, rfl⟩
  have HE := Lib.hid hE
  have hq := fun w => eqReplyB (⟨0, 0, 0, 0, nm, tx⟩ : DReply) (⟨0, 0, 0, 0, ⟨#[]⟩, ⟨#[]⟩⟩ : DReply) dE hE w
  dsimp only at hq
  clear hE
  have HM := Lib.hid hm
  clear hm
  rcases (by omega : (n < 0) ∨ (n = 0) ∨ (1 ≤ n ∧ n ≤ 999999999) ∨ (999999999 < n)) with cI | cI | cI | cI
  · skip
    try have eI0 : decide (0 ≤ n) = true := decide_eq_true (by omega)
    try have eI0 : decide (0 ≤ n) = false := decide_eq_false (by omega)
    try have eI1 : decide (n ≤ 999999999) = true := decide_eq_true (by omega)
    try have eI1 : decide (n ≤ 999999999) = false := decide_eq_false (by omega)
    try have eI2 : decide (n < 1) = true := decide_eq_true (by omega)
    try have eI2 : decide (n < 1) = false := decide_eq_false (by omega)
    try have eI3 : decide (1 ≤ n) = true := decide_eq_true (by omega)
    try have eI3 : decide (1 ≤ n) = false := decide_eq_false (by omega)
    try have eI4 : decide (n < 0) = true := decide_eq_true (by omega)
    try have eI4 : decide (n < 0) = false := decide_eq_false (by omega)
    have HI := Lib.hid cI
    clear cI
    go_enter Tryd.func31, Tryd.ntmps31
    go_wp2_with (first | (go_at_call 53; refine (within_dec _ _ _ _).mono ?_; rintro e w1 ⟨rfl, rfl⟩) | (go_at_call 54; refine (isId_dec _ _).mono ?_; rintro e w1 ⟨rfl, rfl⟩) | (go_at_call 55; refine (flagsOk_dec _ _).mono ?_; rintro e w1 ⟨rfl, rfl⟩))
    go_ret
    exact ⟨ret_no Hr.out (fun hn => by have hh := hn.1; have cc := HI.out; omega), bxt⟩
  · skip
    try have eI0 : decide (0 ≤ n) = true := decide_eq_true (by omega)
    try have eI0 : decide (0 ≤ n) = false := decide_eq_false (by omega)
    try have eI1 : decide (n ≤ 999999999) = true := decide_eq_true (by omega)
    try have eI1 : decide (n ≤ 999999999) = false := decide_eq_false (by omega)
    try have eI2 : decide (n < 1) = true := decide_eq_true (by omega)
    try have eI2 : decide (n < 1) = false := decide_eq_false (by omega)
    try have eI3 : decide (1 ≤ n) = true := decide_eq_true (by omega)
    try have eI3 : decide (1 ≤ n) = false := decide_eq_false (by omega)
    try have eI4 : decide (n < 0) = true := decide_eq_true (by omega)
    try have eI4 : decide (n < 0) = false := decide_eq_false (by omega)
    have HI := Lib.hid cI
    clear cI
    go_enter Tryd.func31, Tryd.ntmps31
    go_wp2_with (first | (go_at_call 53; refine (within_dec _ _ _ _).mono ?_; rintro e w1 ⟨rfl, rfl⟩) | (go_at_call 54; refine (isId_dec _ _).mono ?_; rintro e w1 ⟨rfl, rfl⟩) | (go_at_call 55; refine (flagsOk_dec _ _).mono ?_; rintro e w1 ⟨rfl, rfl⟩))
    go_ret
    exact ⟨ret_no Hr.out (fun hn => by have hh := hn.1; have cc := HI.out; omega), bxt⟩
  · skip
    try have eI0 : decide (0 ≤ n) = true := decide_eq_true (by omega)
    try have eI0 : decide (0 ≤ n) = false := decide_eq_false (by omega)
    try have eI1 : decide (n ≤ 999999999) = true := decide_eq_true (by omega)
    try have eI1 : decide (n ≤ 999999999) = false := decide_eq_false (by omega)
    try have eI2 : decide (n < 1) = true := decide_eq_true (by omega)
    try have eI2 : decide (n < 1) = false := decide_eq_false (by omega)
    try have eI3 : decide (1 ≤ n) = true := decide_eq_true (by omega)
    try have eI3 : decide (1 ≤ n) = false := decide_eq_false (by omega)
    try have eI4 : decide (n < 0) = true := decide_eq_true (by omega)
    try have eI4 : decide (n < 0) = false := decide_eq_false (by omega)
    have HI := Lib.hid cI
    clear cI
    rcases (by omega : (u < 1) ∨ (1 ≤ u ∧ u ≤ 999999999) ∨ (999999999 < u)) with cU | cU | cU
    · skip
      try have eU0 : decide (1 ≤ u) = true := decide_eq_true (by omega)
      try have eU0 : decide (1 ≤ u) = false := decide_eq_false (by omega)
      try have eU1 : decide (u ≤ 999999999) = true := decide_eq_true (by omega)
      try have eU1 : decide (u ≤ 999999999) = false := decide_eq_false (by omega)
      have HU := Lib.hid cU
      clear cU
      go_enter Tryd.func31, Tryd.ntmps31
      go_wp2_with (first | (go_at_call 53; refine (within_dec _ _ _ _).mono ?_; rintro e w1 ⟨rfl, rfl⟩) | (go_at_call 54; refine (isId_dec _ _).mono ?_; rintro e w1 ⟨rfl, rfl⟩) | (go_at_call 55; refine (flagsOk_dec _ _).mono ?_; rintro e w1 ⟨rfl, rfl⟩))
      go_ret
      exact ⟨ret_no Hr.out (fun hn => by have hh := hn.2.1; have cc := HU.out; omega), bxt⟩
    · skip
      try have eU0 : decide (1 ≤ u) = true := decide_eq_true (by omega)
      try have eU0 : decide (1 ≤ u) = false := decide_eq_false (by omega)
      try have eU1 : decide (u ≤ 999999999) = true := decide_eq_true (by omega)
      try have eU1 : decide (u ≤ 999999999) = false := decide_eq_false (by omega)
      have HU := Lib.hid cU
      clear cU
      rcases (by omega : (f < 0) ∨ (0 ≤ f ∧ f ≤ 31) ∨ (31 < f)) with cF | cF | cF
      · skip
        try have eF0 : decide (0 ≤ f) = true := decide_eq_true (by omega)
        try have eF0 : decide (0 ≤ f) = false := decide_eq_false (by omega)
        try have eF1 : decide (f ≤ 31) = true := decide_eq_true (by omega)
        try have eF1 : decide (f ≤ 31) = false := decide_eq_false (by omega)
        have HF := Lib.hid cF
        clear cF
        go_enter Tryd.func31, Tryd.ntmps31
        go_wp2_with (first | (go_at_call 53; refine (within_dec _ _ _ _).mono ?_; rintro e w1 ⟨rfl, rfl⟩) | (go_at_call 54; refine (isId_dec _ _).mono ?_; rintro e w1 ⟨rfl, rfl⟩) | (go_at_call 55; refine (flagsOk_dec _ _).mono ?_; rintro e w1 ⟨rfl, rfl⟩))
        go_ret
        exact ⟨ret_no Hr.out (fun hn => by have hh := hn.2.2.1; have cc := HF.out; omega), bxt⟩
      · skip
        try have eF0 : decide (0 ≤ f) = true := decide_eq_true (by omega)
        try have eF0 : decide (0 ≤ f) = false := decide_eq_false (by omega)
        try have eF1 : decide (f ≤ 31) = true := decide_eq_true (by omega)
        try have eF1 : decide (f ≤ 31) = false := decide_eq_false (by omega)
        have HF := Lib.hid cF
        clear cF
        cases dE
        · go_enter Tryd.func31, Tryd.ntmps31
          go_wp2_with (first | (go_at_call 53; refine (within_dec _ _ _ _).mono ?_; rintro e w1 ⟨rfl, rfl⟩) | (go_at_call 54; refine (isId_dec _ _).mono ?_; rintro e w1 ⟨rfl, rfl⟩) | (go_at_call 55; refine (flagsOk_dec _ _).mono ?_; rintro e w1 ⟨rfl, rfl⟩))
          go_ret
          exact ⟨ret_no Hr.out (fun hn => of_decide_eq_false HE.out hn.2.2.2), bxt⟩
        · go_enter Tryd.func31, Tryd.ntmps31
          go_wp2_with (first | (go_at_call 53; refine (within_dec _ _ _ _).mono ?_; rintro e w1 ⟨rfl, rfl⟩) | (go_at_call 54; refine (isId_dec _ _).mono ?_; rintro e w1 ⟨rfl, rfl⟩) | (go_at_call 55; refine (flagsOk_dec _ _).mono ?_; rintro e w1 ⟨rfl, rfl⟩))
          go_ret
          exact ⟨ret_yes Hr.out ⟨HI.out, HU.out, HF.out, of_decide_eq_true HE.out⟩, bxt⟩
      · skip
        try have eF0 : decide (0 ≤ f) = true := decide_eq_true (by omega)
        try have eF0 : decide (0 ≤ f) = false := decide_eq_false (by omega)
        try have eF1 : decide (f ≤ 31) = true := decide_eq_true (by omega)
        try have eF1 : decide (f ≤ 31) = false := decide_eq_false (by omega)
        have HF := Lib.hid cF
        clear cF
        go_enter Tryd.func31, Tryd.ntmps31
        go_wp2_with (first | (go_at_call 53; refine (within_dec _ _ _ _).mono ?_; rintro e w1 ⟨rfl, rfl⟩) | (go_at_call 54; refine (isId_dec _ _).mono ?_; rintro e w1 ⟨rfl, rfl⟩) | (go_at_call 55; refine (flagsOk_dec _ _).mono ?_; rintro e w1 ⟨rfl, rfl⟩))
        go_ret
        exact ⟨ret_no Hr.out (fun hn => by have hh := hn.2.2.1; have cc := HF.out; omega), bxt⟩
    · skip
      try have eU0 : decide (1 ≤ u) = true := decide_eq_true (by omega)
      try have eU0 : decide (1 ≤ u) = false := decide_eq_false (by omega)
      try have eU1 : decide (u ≤ 999999999) = true := decide_eq_true (by omega)
      try have eU1 : decide (u ≤ 999999999) = false := decide_eq_false (by omega)
      have HU := Lib.hid cU
      clear cU
      go_enter Tryd.func31, Tryd.ntmps31
      go_wp2_with (first | (go_at_call 53; refine (within_dec _ _ _ _).mono ?_; rintro e w1 ⟨rfl, rfl⟩) | (go_at_call 54; refine (isId_dec _ _).mono ?_; rintro e w1 ⟨rfl, rfl⟩) | (go_at_call 55; refine (flagsOk_dec _ _).mono ?_; rintro e w1 ⟨rfl, rfl⟩))
      go_ret
      exact ⟨ret_no Hr.out (fun hn => by have hh := hn.2.1; have cc := HU.out; omega), bxt⟩
  · skip
    try have eI0 : decide (0 ≤ n) = true := decide_eq_true (by omega)
    try have eI0 : decide (0 ≤ n) = false := decide_eq_false (by omega)
    try have eI1 : decide (n ≤ 999999999) = true := decide_eq_true (by omega)
    try have eI1 : decide (n ≤ 999999999) = false := decide_eq_false (by omega)
    try have eI2 : decide (n < 1) = true := decide_eq_true (by omega)
    try have eI2 : decide (n < 1) = false := decide_eq_false (by omega)
    try have eI3 : decide (1 ≤ n) = true := decide_eq_true (by omega)
    try have eI3 : decide (1 ≤ n) = false := decide_eq_false (by omega)
    try have eI4 : decide (n < 0) = true := decide_eq_true (by omega)
    try have eI4 : decide (n < 0) = false := decide_eq_false (by omega)
    have HI := Lib.hid cI
    clear cI
    go_enter Tryd.func31, Tryd.ntmps31
    go_wp2_with (first | (go_at_call 53; refine (within_dec _ _ _ _).mono ?_; rintro e w1 ⟨rfl, rfl⟩) | (go_at_call 54; refine (isId_dec _ _).mono ?_; rintro e w1 ⟨rfl, rfl⟩) | (go_at_call 55; refine (flagsOk_dec _ _).mono ?_; rintro e w1 ⟨rfl, rfl⟩))
    go_ret
    exact ⟨ret_no Hr.out (fun hn => by have hh := hn.1; have cc := HI.out; omega), bxt⟩

theorem implReply3 (n u f : Int) (nm tx : ByteArray) (w : World) (hm : MaxLen w) (g1 : nm.size ≤ 9223372036854775807) (g2 : tx.size ≤ 9223372036854775807) (r : Bool) (Hr : Hid (Tells r (ReplyK 3 n u f nm tx))) :
    Calls Tryd.prog 31 #[.agg #[.int .i64 3, .int .i64 n, .int .i64 u, .int .i64 f, .string nm, .string tx]] w fun e w' => e = .returned (.bool r) ∧ Ext w w' :=
  implReplyT3 n u f nm tx w hm g1 g2 r (Lib.hid (Iff.trans Hr.out (by simp [ReplyK])))

set_option maxRecDepth 20000 in
set_option maxHeartbeats 4000000 in
theorem implReplyT4 (n u f : Int) (nm tx : ByteArray) (w : World) (hm : MaxLen w) (g1 : nm.size ≤ 9223372036854775807) (g2 : tx.size ≤ 9223372036854775807) (r : Bool) (Hr : Hid (Tells r ((1 ≤ n ∧ n ≤ 999999999) ∧ (tx.size ≤ 40) ∧ (⟨0, 0, u, f, nm, ⟨#[]⟩⟩ : DReply) = (⟨0, 0, 0, 0, ⟨#[]⟩, ⟨#[]⟩⟩ : DReply)))) :
    Calls Tryd.prog 31 #[.agg #[.int .i64 4, .int .i64 n, .int .i64 u, .int .i64 f, .string nm, .string tx]] w fun e w' => e = .returned (.bool r) ∧ Ext w w' := by
  have hG := eqReplyG
  obtain ⟨dE, hE⟩ : ∃ d, decide ((⟨0, 0, u, f, nm, ⟨#[]⟩⟩ : DReply) = (⟨0, 0, 0, 0, ⟨#[]⟩, ⟨#[]⟩⟩ : DReply)) = d := ⟨_, rfl⟩
  have HE := Lib.hid hE
  have hq := fun w => eqReplyB (⟨0, 0, u, f, nm, ⟨#[]⟩⟩ : DReply) (⟨0, 0, 0, 0, ⟨#[]⟩, ⟨#[]⟩⟩ : DReply) dE hE w
  dsimp only at hq
  clear hE
  have HM := Lib.hid hm
  clear hm
  rcases (by omega : (n < 0) ∨ (n = 0) ∨ (1 ≤ n ∧ n ≤ 999999999) ∨ (999999999 < n)) with cI | cI | cI | cI
  · skip
    try have eI0 : decide (0 ≤ n) = true := decide_eq_true (by omega)
    try have eI0 : decide (0 ≤ n) = false := decide_eq_false (by omega)
    try have eI1 : decide (n ≤ 999999999) = true := decide_eq_true (by omega)
    try have eI1 : decide (n ≤ 999999999) = false := decide_eq_false (by omega)
    try have eI2 : decide (n < 1) = true := decide_eq_true (by omega)
    try have eI2 : decide (n < 1) = false := decide_eq_false (by omega)
    try have eI3 : decide (1 ≤ n) = true := decide_eq_true (by omega)
    try have eI3 : decide (1 ≤ n) = false := decide_eq_false (by omega)
    try have eI4 : decide (n < 0) = true := decide_eq_true (by omega)
    try have eI4 : decide (n < 0) = false := decide_eq_false (by omega)
    have HI := Lib.hid cI
    clear cI
    go_enter Tryd.func31, Tryd.ntmps31
    go_wp2_with (first | (go_at_call 53; refine (within_dec _ _ _ _).mono ?_; rintro e w1 ⟨rfl, rfl⟩) | (go_at_call 54; refine (isId_dec _ _).mono ?_; rintro e w1 ⟨rfl, rfl⟩) | (go_at_call 55; refine (flagsOk_dec _ _).mono ?_; rintro e w1 ⟨rfl, rfl⟩))
    go_ret
    exact ⟨ret_no Hr.out (fun hn => by have hh := hn.1; have cc := HI.out; omega), bxt⟩
  · skip
    try have eI0 : decide (0 ≤ n) = true := decide_eq_true (by omega)
    try have eI0 : decide (0 ≤ n) = false := decide_eq_false (by omega)
    try have eI1 : decide (n ≤ 999999999) = true := decide_eq_true (by omega)
    try have eI1 : decide (n ≤ 999999999) = false := decide_eq_false (by omega)
    try have eI2 : decide (n < 1) = true := decide_eq_true (by omega)
    try have eI2 : decide (n < 1) = false := decide_eq_false (by omega)
    try have eI3 : decide (1 ≤ n) = true := decide_eq_true (by omega)
    try have eI3 : decide (1 ≤ n) = false := decide_eq_false (by omega)
    try have eI4 : decide (n < 0) = true := decide_eq_true (by omega)
    try have eI4 : decide (n < 0) = false := decide_eq_false (by omega)
    have HI := Lib.hid cI
    clear cI
    go_enter Tryd.func31, Tryd.ntmps31
    go_wp2_with (first | (go_at_call 53; refine (within_dec _ _ _ _).mono ?_; rintro e w1 ⟨rfl, rfl⟩) | (go_at_call 54; refine (isId_dec _ _).mono ?_; rintro e w1 ⟨rfl, rfl⟩) | (go_at_call 55; refine (flagsOk_dec _ _).mono ?_; rintro e w1 ⟨rfl, rfl⟩))
    go_ret
    exact ⟨ret_no Hr.out (fun hn => by have hh := hn.1; have cc := HI.out; omega), bxt⟩
  · skip
    try have eI0 : decide (0 ≤ n) = true := decide_eq_true (by omega)
    try have eI0 : decide (0 ≤ n) = false := decide_eq_false (by omega)
    try have eI1 : decide (n ≤ 999999999) = true := decide_eq_true (by omega)
    try have eI1 : decide (n ≤ 999999999) = false := decide_eq_false (by omega)
    try have eI2 : decide (n < 1) = true := decide_eq_true (by omega)
    try have eI2 : decide (n < 1) = false := decide_eq_false (by omega)
    try have eI3 : decide (1 ≤ n) = true := decide_eq_true (by omega)
    try have eI3 : decide (1 ≤ n) = false := decide_eq_false (by omega)
    try have eI4 : decide (n < 0) = true := decide_eq_true (by omega)
    try have eI4 : decide (n < 0) = false := decide_eq_false (by omega)
    have HI := Lib.hid cI
    clear cI
    rcases (by omega : (tx.size ≤ 40) ∨ (40 < tx.size)) with cT | cT
    · skip
      try have eT0 : decide ((tx.size : Int) ≤ 40) = true := decide_eq_true (by omega)
      try have eT0 : decide ((tx.size : Int) ≤ 40) = false := decide_eq_false (by omega)
      try have eT1 : decide ((40 : Int) < (tx.size : Int)) = true := decide_eq_true (by omega)
      try have eT1 : decide ((40 : Int) < (tx.size : Int)) = false := decide_eq_false (by omega)
      have HT := Lib.hid cT
      clear cT
      cases dE
      · go_enter Tryd.func31, Tryd.ntmps31
        go_wp2_with (first | (go_at_call 53; refine (within_dec _ _ _ _).mono ?_; rintro e w1 ⟨rfl, rfl⟩) | (go_at_call 54; refine (isId_dec _ _).mono ?_; rintro e w1 ⟨rfl, rfl⟩) | (go_at_call 55; refine (flagsOk_dec _ _).mono ?_; rintro e w1 ⟨rfl, rfl⟩))
        go_ret
        exact ⟨ret_no Hr.out (fun hn => of_decide_eq_false HE.out hn.2.2), bxt⟩
      · go_enter Tryd.func31, Tryd.ntmps31
        go_wp2_with (first | (go_at_call 53; refine (within_dec _ _ _ _).mono ?_; rintro e w1 ⟨rfl, rfl⟩) | (go_at_call 54; refine (isId_dec _ _).mono ?_; rintro e w1 ⟨rfl, rfl⟩) | (go_at_call 55; refine (flagsOk_dec _ _).mono ?_; rintro e w1 ⟨rfl, rfl⟩))
        go_ret
        exact ⟨ret_yes Hr.out ⟨HI.out, HT.out, of_decide_eq_true HE.out⟩, bxt⟩
    · skip
      try have eT0 : decide ((tx.size : Int) ≤ 40) = true := decide_eq_true (by omega)
      try have eT0 : decide ((tx.size : Int) ≤ 40) = false := decide_eq_false (by omega)
      try have eT1 : decide ((40 : Int) < (tx.size : Int)) = true := decide_eq_true (by omega)
      try have eT1 : decide ((40 : Int) < (tx.size : Int)) = false := decide_eq_false (by omega)
      have HT := Lib.hid cT
      clear cT
      go_enter Tryd.func31, Tryd.ntmps31
      go_wp2_with (first | (go_at_call 53; refine (within_dec _ _ _ _).mono ?_; rintro e w1 ⟨rfl, rfl⟩) | (go_at_call 54; refine (isId_dec _ _).mono ?_; rintro e w1 ⟨rfl, rfl⟩) | (go_at_call 55; refine (flagsOk_dec _ _).mono ?_; rintro e w1 ⟨rfl, rfl⟩))
      go_ret
      exact ⟨ret_no Hr.out (fun hn => by have hh := hn.2.1; have cc := HT.out; omega), bxt⟩
  · skip
    try have eI0 : decide (0 ≤ n) = true := decide_eq_true (by omega)
    try have eI0 : decide (0 ≤ n) = false := decide_eq_false (by omega)
    try have eI1 : decide (n ≤ 999999999) = true := decide_eq_true (by omega)
    try have eI1 : decide (n ≤ 999999999) = false := decide_eq_false (by omega)
    try have eI2 : decide (n < 1) = true := decide_eq_true (by omega)
    try have eI2 : decide (n < 1) = false := decide_eq_false (by omega)
    try have eI3 : decide (1 ≤ n) = true := decide_eq_true (by omega)
    try have eI3 : decide (1 ≤ n) = false := decide_eq_false (by omega)
    try have eI4 : decide (n < 0) = true := decide_eq_true (by omega)
    try have eI4 : decide (n < 0) = false := decide_eq_false (by omega)
    have HI := Lib.hid cI
    clear cI
    go_enter Tryd.func31, Tryd.ntmps31
    go_wp2_with (first | (go_at_call 53; refine (within_dec _ _ _ _).mono ?_; rintro e w1 ⟨rfl, rfl⟩) | (go_at_call 54; refine (isId_dec _ _).mono ?_; rintro e w1 ⟨rfl, rfl⟩) | (go_at_call 55; refine (flagsOk_dec _ _).mono ?_; rintro e w1 ⟨rfl, rfl⟩))
    go_ret
    exact ⟨ret_no Hr.out (fun hn => by have hh := hn.1; have cc := HI.out; omega), bxt⟩

theorem implReply4 (n u f : Int) (nm tx : ByteArray) (w : World) (hm : MaxLen w) (g1 : nm.size ≤ 9223372036854775807) (g2 : tx.size ≤ 9223372036854775807) (r : Bool) (Hr : Hid (Tells r (ReplyK 4 n u f nm tx))) :
    Calls Tryd.prog 31 #[.agg #[.int .i64 4, .int .i64 n, .int .i64 u, .int .i64 f, .string nm, .string tx]] w fun e w' => e = .returned (.bool r) ∧ Ext w w' :=
  implReplyT4 n u f nm tx w hm g1 g2 r (Lib.hid (Iff.trans Hr.out (by simp [ReplyK])))

set_option maxRecDepth 20000 in
set_option maxHeartbeats 4000000 in
theorem implReplyT5 (n u f : Int) (nm tx : ByteArray) (w : World) (hm : MaxLen w) (g1 : nm.size ≤ 9223372036854775807) (g2 : tx.size ≤ 9223372036854775807) (r : Bool) (Hr : Hid (Tells r ((0 ≤ n ∧ n ≤ 999999999) ∧ (1 ≤ u ∧ u ≤ 999999999) ∧ (NameP nm) ∧ (⟨0, 0, 0, f, ⟨#[]⟩, tx⟩ : DReply) = (⟨0, 0, 0, 0, ⟨#[]⟩, ⟨#[]⟩⟩ : DReply)))) :
    Calls Tryd.prog 31 #[.agg #[.int .i64 5, .int .i64 n, .int .i64 u, .int .i64 f, .string nm, .string tx]] w fun e w' => e = .returned (.bool r) ∧ Ext w w' := by
  have hG := eqReplyG
  obtain ⟨dE, hE⟩ : ∃ d, decide ((⟨0, 0, 0, f, ⟨#[]⟩, tx⟩ : DReply) = (⟨0, 0, 0, 0, ⟨#[]⟩, ⟨#[]⟩⟩ : DReply)) = d := ⟨_, rfl⟩
  have HE := Lib.hid hE
  have hq := fun w => eqReplyB (⟨0, 0, 0, f, ⟨#[]⟩, tx⟩ : DReply) (⟨0, 0, 0, 0, ⟨#[]⟩, ⟨#[]⟩⟩ : DReply) dE hE w
  dsimp only at hq
  clear hE
  have HM := Lib.hid hm
  clear hm
  rcases (by omega : (n < 0) ∨ (0 ≤ n ∧ n ≤ 999999999) ∨ (999999999 < n)) with cN | cN | cN
  · skip
    try have eN0 : decide (0 ≤ n) = true := decide_eq_true (by omega)
    try have eN0 : decide (0 ≤ n) = false := decide_eq_false (by omega)
    try have eN1 : decide (n ≤ 999999999) = true := decide_eq_true (by omega)
    try have eN1 : decide (n ≤ 999999999) = false := decide_eq_false (by omega)
    try have eN2 : decide (n < 0) = true := decide_eq_true (by omega)
    try have eN2 : decide (n < 0) = false := decide_eq_false (by omega)
    try have eN3 : decide (1 ≤ n) = true := decide_eq_true (by omega)
    try have eN3 : decide (1 ≤ n) = false := decide_eq_false (by omega)
    try have eN4 : decide (n < 1) = true := decide_eq_true (by omega)
    try have eN4 : decide (n < 1) = false := decide_eq_false (by omega)
    have HN := Lib.hid cN
    clear cN
    go_enter Tryd.func31, Tryd.ntmps31
    go_wp2_with (first | (go_at_call 53; refine (within_dec _ _ _ _).mono ?_; rintro e w1 ⟨rfl, rfl⟩) | (go_at_call 54; refine (isId_dec _ _).mono ?_; rintro e w1 ⟨rfl, rfl⟩) | (go_at_call 55; refine (flagsOk_dec _ _).mono ?_; rintro e w1 ⟨rfl, rfl⟩) | (go_at_call 56; refine (implNameOk_any nm _ (HM.out.ext bxt) g1 _ HNm).mono ?_; rintro e w1 ⟨rfl, rfl⟩))
    go_ret
    exact ⟨ret_no Hr.out (fun hn => by have hh := hn.1; have cc := HN.out; omega), bxt⟩
  · skip
    try have eN0 : decide (0 ≤ n) = true := decide_eq_true (by omega)
    try have eN0 : decide (0 ≤ n) = false := decide_eq_false (by omega)
    try have eN1 : decide (n ≤ 999999999) = true := decide_eq_true (by omega)
    try have eN1 : decide (n ≤ 999999999) = false := decide_eq_false (by omega)
    try have eN2 : decide (n < 0) = true := decide_eq_true (by omega)
    try have eN2 : decide (n < 0) = false := decide_eq_false (by omega)
    try have eN3 : decide (1 ≤ n) = true := decide_eq_true (by omega)
    try have eN3 : decide (1 ≤ n) = false := decide_eq_false (by omega)
    try have eN4 : decide (n < 1) = true := decide_eq_true (by omega)
    try have eN4 : decide (n < 1) = false := decide_eq_false (by omega)
    have HN := Lib.hid cN
    clear cN
    rcases (by omega : (u < 1) ∨ (1 ≤ u ∧ u ≤ 999999999) ∨ (999999999 < u)) with cU | cU | cU
    · skip
      try have eU0 : decide (1 ≤ u) = true := decide_eq_true (by omega)
      try have eU0 : decide (1 ≤ u) = false := decide_eq_false (by omega)
      try have eU1 : decide (u ≤ 999999999) = true := decide_eq_true (by omega)
      try have eU1 : decide (u ≤ 999999999) = false := decide_eq_false (by omega)
      have HU := Lib.hid cU
      clear cU
      go_enter Tryd.func31, Tryd.ntmps31
      go_wp2_with (first | (go_at_call 53; refine (within_dec _ _ _ _).mono ?_; rintro e w1 ⟨rfl, rfl⟩) | (go_at_call 54; refine (isId_dec _ _).mono ?_; rintro e w1 ⟨rfl, rfl⟩) | (go_at_call 55; refine (flagsOk_dec _ _).mono ?_; rintro e w1 ⟨rfl, rfl⟩) | (go_at_call 56; refine (implNameOk_any nm _ (HM.out.ext bxt) g1 _ HNm).mono ?_; rintro e w1 ⟨rfl, rfl⟩))
      go_ret
      exact ⟨ret_no Hr.out (fun hn => by have hh := hn.2.1; have cc := HU.out; omega), bxt⟩
    · skip
      try have eU0 : decide (1 ≤ u) = true := decide_eq_true (by omega)
      try have eU0 : decide (1 ≤ u) = false := decide_eq_false (by omega)
      try have eU1 : decide (u ≤ 999999999) = true := decide_eq_true (by omega)
      try have eU1 : decide (u ≤ 999999999) = false := decide_eq_false (by omega)
      have HU := Lib.hid cU
      clear cU
      obtain ⟨d, hd⟩ := boolOf (NameP nm)
      have HNm := Lib.hid hd
      clear hd
      cases d
      · go_enter Tryd.func31, Tryd.ntmps31
        go_wp2_with (first | (go_at_call 53; refine (within_dec _ _ _ _).mono ?_; rintro e w1 ⟨rfl, rfl⟩) | (go_at_call 54; refine (isId_dec _ _).mono ?_; rintro e w1 ⟨rfl, rfl⟩) | (go_at_call 55; refine (flagsOk_dec _ _).mono ?_; rintro e w1 ⟨rfl, rfl⟩) | (go_at_call 56; refine (implNameOk_any nm _ (HM.out.ext bxt) g1 _ HNm).mono ?_; rintro e w1 ⟨rfl, rfl⟩))
        go_ret
        exact ⟨ret_no Hr.out (fun hn => no_of HNm.out hn.2.2.1), bxt⟩
      · skip
        cases dE
        · go_enter Tryd.func31, Tryd.ntmps31
          go_wp2_with (first | (go_at_call 53; refine (within_dec _ _ _ _).mono ?_; rintro e w1 ⟨rfl, rfl⟩) | (go_at_call 54; refine (isId_dec _ _).mono ?_; rintro e w1 ⟨rfl, rfl⟩) | (go_at_call 55; refine (flagsOk_dec _ _).mono ?_; rintro e w1 ⟨rfl, rfl⟩) | (go_at_call 56; refine (implNameOk_any nm _ (HM.out.ext bxt) g1 _ HNm).mono ?_; rintro e w1 ⟨rfl, rfl⟩))
          go_ret
          exact ⟨ret_no Hr.out (fun hn => of_decide_eq_false HE.out hn.2.2.2), bxt⟩
        · go_enter Tryd.func31, Tryd.ntmps31
          go_wp2_with (first | (go_at_call 53; refine (within_dec _ _ _ _).mono ?_; rintro e w1 ⟨rfl, rfl⟩) | (go_at_call 54; refine (isId_dec _ _).mono ?_; rintro e w1 ⟨rfl, rfl⟩) | (go_at_call 55; refine (flagsOk_dec _ _).mono ?_; rintro e w1 ⟨rfl, rfl⟩) | (go_at_call 56; refine (implNameOk_any nm _ (HM.out.ext bxt) g1 _ HNm).mono ?_; rintro e w1 ⟨rfl, rfl⟩))
          go_ret
          exact ⟨ret_yes Hr.out ⟨HN.out, HU.out, yes_of HNm.out, of_decide_eq_true HE.out⟩, bxt⟩
    · skip
      try have eU0 : decide (1 ≤ u) = true := decide_eq_true (by omega)
      try have eU0 : decide (1 ≤ u) = false := decide_eq_false (by omega)
      try have eU1 : decide (u ≤ 999999999) = true := decide_eq_true (by omega)
      try have eU1 : decide (u ≤ 999999999) = false := decide_eq_false (by omega)
      have HU := Lib.hid cU
      clear cU
      go_enter Tryd.func31, Tryd.ntmps31
      go_wp2_with (first | (go_at_call 53; refine (within_dec _ _ _ _).mono ?_; rintro e w1 ⟨rfl, rfl⟩) | (go_at_call 54; refine (isId_dec _ _).mono ?_; rintro e w1 ⟨rfl, rfl⟩) | (go_at_call 55; refine (flagsOk_dec _ _).mono ?_; rintro e w1 ⟨rfl, rfl⟩) | (go_at_call 56; refine (implNameOk_any nm _ (HM.out.ext bxt) g1 _ HNm).mono ?_; rintro e w1 ⟨rfl, rfl⟩))
      go_ret
      exact ⟨ret_no Hr.out (fun hn => by have hh := hn.2.1; have cc := HU.out; omega), bxt⟩
  · skip
    try have eN0 : decide (0 ≤ n) = true := decide_eq_true (by omega)
    try have eN0 : decide (0 ≤ n) = false := decide_eq_false (by omega)
    try have eN1 : decide (n ≤ 999999999) = true := decide_eq_true (by omega)
    try have eN1 : decide (n ≤ 999999999) = false := decide_eq_false (by omega)
    try have eN2 : decide (n < 0) = true := decide_eq_true (by omega)
    try have eN2 : decide (n < 0) = false := decide_eq_false (by omega)
    try have eN3 : decide (1 ≤ n) = true := decide_eq_true (by omega)
    try have eN3 : decide (1 ≤ n) = false := decide_eq_false (by omega)
    try have eN4 : decide (n < 1) = true := decide_eq_true (by omega)
    try have eN4 : decide (n < 1) = false := decide_eq_false (by omega)
    have HN := Lib.hid cN
    clear cN
    go_enter Tryd.func31, Tryd.ntmps31
    go_wp2_with (first | (go_at_call 53; refine (within_dec _ _ _ _).mono ?_; rintro e w1 ⟨rfl, rfl⟩) | (go_at_call 54; refine (isId_dec _ _).mono ?_; rintro e w1 ⟨rfl, rfl⟩) | (go_at_call 55; refine (flagsOk_dec _ _).mono ?_; rintro e w1 ⟨rfl, rfl⟩) | (go_at_call 56; refine (implNameOk_any nm _ (HM.out.ext bxt) g1 _ HNm).mono ?_; rintro e w1 ⟨rfl, rfl⟩))
    go_ret
    exact ⟨ret_no Hr.out (fun hn => by have hh := hn.1; have cc := HN.out; omega), bxt⟩

theorem implReply5 (n u f : Int) (nm tx : ByteArray) (w : World) (hm : MaxLen w) (g1 : nm.size ≤ 9223372036854775807) (g2 : tx.size ≤ 9223372036854775807) (r : Bool) (Hr : Hid (Tells r (ReplyK 5 n u f nm tx))) :
    Calls Tryd.prog 31 #[.agg #[.int .i64 5, .int .i64 n, .int .i64 u, .int .i64 f, .string nm, .string tx]] w fun e w' => e = .returned (.bool r) ∧ Ext w w' :=
  implReplyT5 n u f nm tx w hm g1 g2 r (Lib.hid (Iff.trans Hr.out (by simp [ReplyK])))

set_option maxRecDepth 20000 in
set_option maxHeartbeats 4000000 in
theorem implReplyT6 (n u f : Int) (nm tx : ByteArray) (w : World) (hm : MaxLen w) (g1 : nm.size ≤ 9223372036854775807) (g2 : tx.size ≤ 9223372036854775807) (r : Bool) (Hr : Hid (Tells r ((NameP nm) ∧ (⟨0, n, u, f, ⟨#[]⟩, tx⟩ : DReply) = (⟨0, 0, 0, 0, ⟨#[]⟩, ⟨#[]⟩⟩ : DReply)))) :
    Calls Tryd.prog 31 #[.agg #[.int .i64 6, .int .i64 n, .int .i64 u, .int .i64 f, .string nm, .string tx]] w fun e w' => e = .returned (.bool r) ∧ Ext w w' := by
  have hG := eqReplyG
  obtain ⟨dE, hE⟩ : ∃ d, decide ((⟨0, n, u, f, ⟨#[]⟩, tx⟩ : DReply) = (⟨0, 0, 0, 0, ⟨#[]⟩, ⟨#[]⟩⟩ : DReply)) = d := ⟨_, rfl⟩
  have HE := Lib.hid hE
  have hq := fun w => eqReplyB (⟨0, n, u, f, ⟨#[]⟩, tx⟩ : DReply) (⟨0, 0, 0, 0, ⟨#[]⟩, ⟨#[]⟩⟩ : DReply) dE hE w
  dsimp only at hq
  clear hE
  have HM := Lib.hid hm
  clear hm
  obtain ⟨d, hd⟩ := boolOf (NameP nm)
  have HNm := Lib.hid hd
  clear hd
  cases d
  · go_enter Tryd.func31, Tryd.ntmps31
    go_wp2_with (first | (go_at_call 53; refine (within_dec _ _ _ _).mono ?_; rintro e w1 ⟨rfl, rfl⟩) | (go_at_call 54; refine (isId_dec _ _).mono ?_; rintro e w1 ⟨rfl, rfl⟩) | (go_at_call 55; refine (flagsOk_dec _ _).mono ?_; rintro e w1 ⟨rfl, rfl⟩) | (go_at_call 56; refine (implNameOk_any nm _ (HM.out.ext bxt) g1 _ HNm).mono ?_; rintro e w1 ⟨rfl, rfl⟩))
    go_ret
    exact ⟨ret_no Hr.out (fun hn => no_of HNm.out hn.1), bxt⟩
  · skip
    cases dE
    · go_enter Tryd.func31, Tryd.ntmps31
      go_wp2_with (first | (go_at_call 53; refine (within_dec _ _ _ _).mono ?_; rintro e w1 ⟨rfl, rfl⟩) | (go_at_call 54; refine (isId_dec _ _).mono ?_; rintro e w1 ⟨rfl, rfl⟩) | (go_at_call 55; refine (flagsOk_dec _ _).mono ?_; rintro e w1 ⟨rfl, rfl⟩) | (go_at_call 56; refine (implNameOk_any nm _ (HM.out.ext bxt) g1 _ HNm).mono ?_; rintro e w1 ⟨rfl, rfl⟩))
      go_ret
      exact ⟨ret_no Hr.out (fun hn => of_decide_eq_false HE.out hn.2), bxt⟩
    · go_enter Tryd.func31, Tryd.ntmps31
      go_wp2_with (first | (go_at_call 53; refine (within_dec _ _ _ _).mono ?_; rintro e w1 ⟨rfl, rfl⟩) | (go_at_call 54; refine (isId_dec _ _).mono ?_; rintro e w1 ⟨rfl, rfl⟩) | (go_at_call 55; refine (flagsOk_dec _ _).mono ?_; rintro e w1 ⟨rfl, rfl⟩) | (go_at_call 56; refine (implNameOk_any nm _ (HM.out.ext bxt) g1 _ HNm).mono ?_; rintro e w1 ⟨rfl, rfl⟩))
      go_ret
      exact ⟨ret_yes Hr.out ⟨yes_of HNm.out, of_decide_eq_true HE.out⟩, bxt⟩

theorem implReply6 (n u f : Int) (nm tx : ByteArray) (w : World) (hm : MaxLen w) (g1 : nm.size ≤ 9223372036854775807) (g2 : tx.size ≤ 9223372036854775807) (r : Bool) (Hr : Hid (Tells r (ReplyK 6 n u f nm tx))) :
    Calls Tryd.prog 31 #[.agg #[.int .i64 6, .int .i64 n, .int .i64 u, .int .i64 f, .string nm, .string tx]] w fun e w' => e = .returned (.bool r) ∧ Ext w w' :=
  implReplyT6 n u f nm tx w hm g1 g2 r (Lib.hid (Iff.trans Hr.out (by simp [ReplyK])))

set_option maxRecDepth 20000 in
set_option maxHeartbeats 4000000 in
theorem implReplyT7 (n u f : Int) (nm tx : ByteArray) (w : World) (hm : MaxLen w) (g1 : nm.size ≤ 9223372036854775807) (g2 : tx.size ≤ 9223372036854775807) (r : Bool) (Hr : Hid (Tells r ((NameP nm) ∧ (⟨0, n, u, f, ⟨#[]⟩, tx⟩ : DReply) = (⟨0, 0, 0, 0, ⟨#[]⟩, ⟨#[]⟩⟩ : DReply)))) :
    Calls Tryd.prog 31 #[.agg #[.int .i64 7, .int .i64 n, .int .i64 u, .int .i64 f, .string nm, .string tx]] w fun e w' => e = .returned (.bool r) ∧ Ext w w' := by
  have hG := eqReplyG
  obtain ⟨dE, hE⟩ : ∃ d, decide ((⟨0, n, u, f, ⟨#[]⟩, tx⟩ : DReply) = (⟨0, 0, 0, 0, ⟨#[]⟩, ⟨#[]⟩⟩ : DReply)) = d := ⟨_, rfl⟩
  have HE := Lib.hid hE
  have hq := fun w => eqReplyB (⟨0, n, u, f, ⟨#[]⟩, tx⟩ : DReply) (⟨0, 0, 0, 0, ⟨#[]⟩, ⟨#[]⟩⟩ : DReply) dE hE w
  dsimp only at hq
  clear hE
  have HM := Lib.hid hm
  clear hm
  obtain ⟨d, hd⟩ := boolOf (NameP nm)
  have HNm := Lib.hid hd
  clear hd
  cases d
  · go_enter Tryd.func31, Tryd.ntmps31
    go_wp2_with (first | (go_at_call 53; refine (within_dec _ _ _ _).mono ?_; rintro e w1 ⟨rfl, rfl⟩) | (go_at_call 54; refine (isId_dec _ _).mono ?_; rintro e w1 ⟨rfl, rfl⟩) | (go_at_call 55; refine (flagsOk_dec _ _).mono ?_; rintro e w1 ⟨rfl, rfl⟩) | (go_at_call 56; refine (implNameOk_any nm _ (HM.out.ext bxt) g1 _ HNm).mono ?_; rintro e w1 ⟨rfl, rfl⟩))
    go_ret
    exact ⟨ret_no Hr.out (fun hn => no_of HNm.out hn.1), bxt⟩
  · skip
    cases dE
    · go_enter Tryd.func31, Tryd.ntmps31
      go_wp2_with (first | (go_at_call 53; refine (within_dec _ _ _ _).mono ?_; rintro e w1 ⟨rfl, rfl⟩) | (go_at_call 54; refine (isId_dec _ _).mono ?_; rintro e w1 ⟨rfl, rfl⟩) | (go_at_call 55; refine (flagsOk_dec _ _).mono ?_; rintro e w1 ⟨rfl, rfl⟩) | (go_at_call 56; refine (implNameOk_any nm _ (HM.out.ext bxt) g1 _ HNm).mono ?_; rintro e w1 ⟨rfl, rfl⟩))
      go_ret
      exact ⟨ret_no Hr.out (fun hn => of_decide_eq_false HE.out hn.2), bxt⟩
    · go_enter Tryd.func31, Tryd.ntmps31
      go_wp2_with (first | (go_at_call 53; refine (within_dec _ _ _ _).mono ?_; rintro e w1 ⟨rfl, rfl⟩) | (go_at_call 54; refine (isId_dec _ _).mono ?_; rintro e w1 ⟨rfl, rfl⟩) | (go_at_call 55; refine (flagsOk_dec _ _).mono ?_; rintro e w1 ⟨rfl, rfl⟩) | (go_at_call 56; refine (implNameOk_any nm _ (HM.out.ext bxt) g1 _ HNm).mono ?_; rintro e w1 ⟨rfl, rfl⟩))
      go_ret
      exact ⟨ret_yes Hr.out ⟨yes_of HNm.out, of_decide_eq_true HE.out⟩, bxt⟩

theorem implReply7 (n u f : Int) (nm tx : ByteArray) (w : World) (hm : MaxLen w) (g1 : nm.size ≤ 9223372036854775807) (g2 : tx.size ≤ 9223372036854775807) (r : Bool) (Hr : Hid (Tells r (ReplyK 7 n u f nm tx))) :
    Calls Tryd.prog 31 #[.agg #[.int .i64 7, .int .i64 n, .int .i64 u, .int .i64 f, .string nm, .string tx]] w fun e w' => e = .returned (.bool r) ∧ Ext w w' :=
  implReplyT7 n u f nm tx w hm g1 g2 r (Lib.hid (Iff.trans Hr.out (by simp [ReplyK])))

set_option maxRecDepth 20000 in
set_option maxHeartbeats 4000000 in
theorem implReplyT8 (n u f : Int) (nm tx : ByteArray) (w : World) (hm : MaxLen w) (g1 : nm.size ≤ 9223372036854775807) (g2 : tx.size ≤ 9223372036854775807) (r : Bool) (Hr : Hid (Tells r ((0 ≤ n ∧ n ≤ 999999999) ∧ (NameP nm) ∧ (⟨0, 0, u, f, ⟨#[]⟩, tx⟩ : DReply) = (⟨0, 0, 0, 0, ⟨#[]⟩, ⟨#[]⟩⟩ : DReply)))) :
    Calls Tryd.prog 31 #[.agg #[.int .i64 8, .int .i64 n, .int .i64 u, .int .i64 f, .string nm, .string tx]] w fun e w' => e = .returned (.bool r) ∧ Ext w w' := by
  have hG := eqReplyG
  obtain ⟨dE, hE⟩ : ∃ d, decide ((⟨0, 0, u, f, ⟨#[]⟩, tx⟩ : DReply) = (⟨0, 0, 0, 0, ⟨#[]⟩, ⟨#[]⟩⟩ : DReply)) = d := ⟨_, rfl⟩
  have HE := Lib.hid hE
  have hq := fun w => eqReplyB (⟨0, 0, u, f, ⟨#[]⟩, tx⟩ : DReply) (⟨0, 0, 0, 0, ⟨#[]⟩, ⟨#[]⟩⟩ : DReply) dE hE w
  dsimp only at hq
  clear hE
  have HM := Lib.hid hm
  clear hm
  rcases (by omega : (n < 0) ∨ (0 ≤ n ∧ n ≤ 999999999) ∨ (999999999 < n)) with cN | cN | cN
  · skip
    try have eN0 : decide (0 ≤ n) = true := decide_eq_true (by omega)
    try have eN0 : decide (0 ≤ n) = false := decide_eq_false (by omega)
    try have eN1 : decide (n ≤ 999999999) = true := decide_eq_true (by omega)
    try have eN1 : decide (n ≤ 999999999) = false := decide_eq_false (by omega)
    try have eN2 : decide (n < 0) = true := decide_eq_true (by omega)
    try have eN2 : decide (n < 0) = false := decide_eq_false (by omega)
    try have eN3 : decide (1 ≤ n) = true := decide_eq_true (by omega)
    try have eN3 : decide (1 ≤ n) = false := decide_eq_false (by omega)
    try have eN4 : decide (n < 1) = true := decide_eq_true (by omega)
    try have eN4 : decide (n < 1) = false := decide_eq_false (by omega)
    have HN := Lib.hid cN
    clear cN
    go_enter Tryd.func31, Tryd.ntmps31
    go_wp2_with (first | (go_at_call 53; refine (within_dec _ _ _ _).mono ?_; rintro e w1 ⟨rfl, rfl⟩) | (go_at_call 54; refine (isId_dec _ _).mono ?_; rintro e w1 ⟨rfl, rfl⟩) | (go_at_call 55; refine (flagsOk_dec _ _).mono ?_; rintro e w1 ⟨rfl, rfl⟩) | (go_at_call 56; refine (implNameOk_any nm _ (HM.out.ext bxt) g1 _ HNm).mono ?_; rintro e w1 ⟨rfl, rfl⟩))
    go_ret
    exact ⟨ret_no Hr.out (fun hn => by have hh := hn.1; have cc := HN.out; omega), bxt⟩
  · skip
    try have eN0 : decide (0 ≤ n) = true := decide_eq_true (by omega)
    try have eN0 : decide (0 ≤ n) = false := decide_eq_false (by omega)
    try have eN1 : decide (n ≤ 999999999) = true := decide_eq_true (by omega)
    try have eN1 : decide (n ≤ 999999999) = false := decide_eq_false (by omega)
    try have eN2 : decide (n < 0) = true := decide_eq_true (by omega)
    try have eN2 : decide (n < 0) = false := decide_eq_false (by omega)
    try have eN3 : decide (1 ≤ n) = true := decide_eq_true (by omega)
    try have eN3 : decide (1 ≤ n) = false := decide_eq_false (by omega)
    try have eN4 : decide (n < 1) = true := decide_eq_true (by omega)
    try have eN4 : decide (n < 1) = false := decide_eq_false (by omega)
    have HN := Lib.hid cN
    clear cN
    obtain ⟨d, hd⟩ := boolOf (NameP nm)
    have HNm := Lib.hid hd
    clear hd
    cases d
    · go_enter Tryd.func31, Tryd.ntmps31
      go_wp2_with (first | (go_at_call 53; refine (within_dec _ _ _ _).mono ?_; rintro e w1 ⟨rfl, rfl⟩) | (go_at_call 54; refine (isId_dec _ _).mono ?_; rintro e w1 ⟨rfl, rfl⟩) | (go_at_call 55; refine (flagsOk_dec _ _).mono ?_; rintro e w1 ⟨rfl, rfl⟩) | (go_at_call 56; refine (implNameOk_any nm _ (HM.out.ext bxt) g1 _ HNm).mono ?_; rintro e w1 ⟨rfl, rfl⟩))
      go_ret
      exact ⟨ret_no Hr.out (fun hn => no_of HNm.out hn.2.1), bxt⟩
    · skip
      cases dE
      · go_enter Tryd.func31, Tryd.ntmps31
        go_wp2_with (first | (go_at_call 53; refine (within_dec _ _ _ _).mono ?_; rintro e w1 ⟨rfl, rfl⟩) | (go_at_call 54; refine (isId_dec _ _).mono ?_; rintro e w1 ⟨rfl, rfl⟩) | (go_at_call 55; refine (flagsOk_dec _ _).mono ?_; rintro e w1 ⟨rfl, rfl⟩) | (go_at_call 56; refine (implNameOk_any nm _ (HM.out.ext bxt) g1 _ HNm).mono ?_; rintro e w1 ⟨rfl, rfl⟩))
        go_ret
        exact ⟨ret_no Hr.out (fun hn => of_decide_eq_false HE.out hn.2.2), bxt⟩
      · go_enter Tryd.func31, Tryd.ntmps31
        go_wp2_with (first | (go_at_call 53; refine (within_dec _ _ _ _).mono ?_; rintro e w1 ⟨rfl, rfl⟩) | (go_at_call 54; refine (isId_dec _ _).mono ?_; rintro e w1 ⟨rfl, rfl⟩) | (go_at_call 55; refine (flagsOk_dec _ _).mono ?_; rintro e w1 ⟨rfl, rfl⟩) | (go_at_call 56; refine (implNameOk_any nm _ (HM.out.ext bxt) g1 _ HNm).mono ?_; rintro e w1 ⟨rfl, rfl⟩))
        go_ret
        exact ⟨ret_yes Hr.out ⟨HN.out, yes_of HNm.out, of_decide_eq_true HE.out⟩, bxt⟩
  · skip
    try have eN0 : decide (0 ≤ n) = true := decide_eq_true (by omega)
    try have eN0 : decide (0 ≤ n) = false := decide_eq_false (by omega)
    try have eN1 : decide (n ≤ 999999999) = true := decide_eq_true (by omega)
    try have eN1 : decide (n ≤ 999999999) = false := decide_eq_false (by omega)
    try have eN2 : decide (n < 0) = true := decide_eq_true (by omega)
    try have eN2 : decide (n < 0) = false := decide_eq_false (by omega)
    try have eN3 : decide (1 ≤ n) = true := decide_eq_true (by omega)
    try have eN3 : decide (1 ≤ n) = false := decide_eq_false (by omega)
    try have eN4 : decide (n < 1) = true := decide_eq_true (by omega)
    try have eN4 : decide (n < 1) = false := decide_eq_false (by omega)
    have HN := Lib.hid cN
    clear cN
    go_enter Tryd.func31, Tryd.ntmps31
    go_wp2_with (first | (go_at_call 53; refine (within_dec _ _ _ _).mono ?_; rintro e w1 ⟨rfl, rfl⟩) | (go_at_call 54; refine (isId_dec _ _).mono ?_; rintro e w1 ⟨rfl, rfl⟩) | (go_at_call 55; refine (flagsOk_dec _ _).mono ?_; rintro e w1 ⟨rfl, rfl⟩) | (go_at_call 56; refine (implNameOk_any nm _ (HM.out.ext bxt) g1 _ HNm).mono ?_; rintro e w1 ⟨rfl, rfl⟩))
    go_ret
    exact ⟨ret_no Hr.out (fun hn => by have hh := hn.1; have cc := HN.out; omega), bxt⟩

theorem implReply8 (n u f : Int) (nm tx : ByteArray) (w : World) (hm : MaxLen w) (g1 : nm.size ≤ 9223372036854775807) (g2 : tx.size ≤ 9223372036854775807) (r : Bool) (Hr : Hid (Tells r (ReplyK 8 n u f nm tx))) :
    Calls Tryd.prog 31 #[.agg #[.int .i64 8, .int .i64 n, .int .i64 u, .int .i64 f, .string nm, .string tx]] w fun e w' => e = .returned (.bool r) ∧ Ext w w' :=
  implReplyT8 n u f nm tx w hm g1 g2 r (Lib.hid (Iff.trans Hr.out (by simp [ReplyK])))

set_option maxRecDepth 20000 in
set_option maxHeartbeats 4000000 in
theorem implReplyT9 (n u f : Int) (nm tx : ByteArray) (w : World) (hm : MaxLen w) (g1 : nm.size ≤ 9223372036854775807) (g2 : tx.size ≤ 9223372036854775807) (r : Bool) (Hr : Hid (Tells r ((⟨0, n, u, f, nm, tx⟩ : DReply) = (⟨0, 0, 0, 0, ⟨#[]⟩, ⟨#[]⟩⟩ : DReply)))) :
    Calls Tryd.prog 31 #[.agg #[.int .i64 9, .int .i64 n, .int .i64 u, .int .i64 f, .string nm, .string tx]] w fun e w' => e = .returned (.bool r) ∧ Ext w w' := by
  have hG := eqReplyG
  obtain ⟨dE, hE⟩ : ∃ d, decide ((⟨0, n, u, f, nm, tx⟩ : DReply) = (⟨0, 0, 0, 0, ⟨#[]⟩, ⟨#[]⟩⟩ : DReply)) = d := ⟨_, rfl⟩
  have HE := Lib.hid hE
  have hq := fun w => eqReplyB (⟨0, n, u, f, nm, tx⟩ : DReply) (⟨0, 0, 0, 0, ⟨#[]⟩, ⟨#[]⟩⟩ : DReply) dE hE w
  dsimp only at hq
  clear hE
  have HM := Lib.hid hm
  clear hm
  cases dE
  · go_enter Tryd.func31, Tryd.ntmps31
    go_wp2_with (first | (go_at_call 53; refine (within_dec _ _ _ _).mono ?_; rintro e w1 ⟨rfl, rfl⟩) | (go_at_call 54; refine (isId_dec _ _).mono ?_; rintro e w1 ⟨rfl, rfl⟩) | (go_at_call 55; refine (flagsOk_dec _ _).mono ?_; rintro e w1 ⟨rfl, rfl⟩))
    go_ret
    exact ⟨ret_no Hr.out (fun hn => of_decide_eq_false HE.out hn), bxt⟩
  · go_enter Tryd.func31, Tryd.ntmps31
    go_wp2_with (first | (go_at_call 53; refine (within_dec _ _ _ _).mono ?_; rintro e w1 ⟨rfl, rfl⟩) | (go_at_call 54; refine (isId_dec _ _).mono ?_; rintro e w1 ⟨rfl, rfl⟩) | (go_at_call 55; refine (flagsOk_dec _ _).mono ?_; rintro e w1 ⟨rfl, rfl⟩))
    go_ret
    exact ⟨ret_yes Hr.out (of_decide_eq_true HE.out), bxt⟩

theorem implReply9 (n u f : Int) (nm tx : ByteArray) (w : World) (hm : MaxLen w) (g1 : nm.size ≤ 9223372036854775807) (g2 : tx.size ≤ 9223372036854775807) (r : Bool) (Hr : Hid (Tells r (ReplyK 9 n u f nm tx))) :
    Calls Tryd.prog 31 #[.agg #[.int .i64 9, .int .i64 n, .int .i64 u, .int .i64 f, .string nm, .string tx]] w fun e w' => e = .returned (.bool r) ∧ Ext w w' :=
  implReplyT9 n u f nm tx w hm g1 g2 r (Lib.hid (Iff.trans Hr.out (by simp [ReplyK])))

set_option maxRecDepth 20000 in
set_option maxHeartbeats 4000000 in
theorem implReplyT10 (n u f : Int) (nm tx : ByteArray) (w : World) (hm : MaxLen w) (g1 : nm.size ≤ 9223372036854775807) (g2 : tx.size ≤ 9223372036854775807) (r : Bool) (Hr : Hid (Tells r ((⟨0, n, u, f, nm, tx⟩ : DReply) = (⟨0, 0, 0, 0, ⟨#[]⟩, ⟨#[]⟩⟩ : DReply)))) :
    Calls Tryd.prog 31 #[.agg #[.int .i64 10, .int .i64 n, .int .i64 u, .int .i64 f, .string nm, .string tx]] w fun e w' => e = .returned (.bool r) ∧ Ext w w' := by
  have hG := eqReplyG
  obtain ⟨dE, hE⟩ : ∃ d, decide ((⟨0, n, u, f, nm, tx⟩ : DReply) = (⟨0, 0, 0, 0, ⟨#[]⟩, ⟨#[]⟩⟩ : DReply)) = d := ⟨_, rfl⟩
  have HE := Lib.hid hE
  have hq := fun w => eqReplyB (⟨0, n, u, f, nm, tx⟩ : DReply) (⟨0, 0, 0, 0, ⟨#[]⟩, ⟨#[]⟩⟩ : DReply) dE hE w
  dsimp only at hq
  clear hE
  have HM := Lib.hid hm
  clear hm
  cases dE
  · go_enter Tryd.func31, Tryd.ntmps31
    go_wp2_with (first | (go_at_call 53; refine (within_dec _ _ _ _).mono ?_; rintro e w1 ⟨rfl, rfl⟩) | (go_at_call 54; refine (isId_dec _ _).mono ?_; rintro e w1 ⟨rfl, rfl⟩) | (go_at_call 55; refine (flagsOk_dec _ _).mono ?_; rintro e w1 ⟨rfl, rfl⟩))
    go_ret
    exact ⟨ret_no Hr.out (fun hn => of_decide_eq_false HE.out hn), bxt⟩
  · go_enter Tryd.func31, Tryd.ntmps31
    go_wp2_with (first | (go_at_call 53; refine (within_dec _ _ _ _).mono ?_; rintro e w1 ⟨rfl, rfl⟩) | (go_at_call 54; refine (isId_dec _ _).mono ?_; rintro e w1 ⟨rfl, rfl⟩) | (go_at_call 55; refine (flagsOk_dec _ _).mono ?_; rintro e w1 ⟨rfl, rfl⟩))
    go_ret
    exact ⟨ret_yes Hr.out (of_decide_eq_true HE.out), bxt⟩

theorem implReply10 (n u f : Int) (nm tx : ByteArray) (w : World) (hm : MaxLen w) (g1 : nm.size ≤ 9223372036854775807) (g2 : tx.size ≤ 9223372036854775807) (r : Bool) (Hr : Hid (Tells r (ReplyK 10 n u f nm tx))) :
    Calls Tryd.prog 31 #[.agg #[.int .i64 10, .int .i64 n, .int .i64 u, .int .i64 f, .string nm, .string tx]] w fun e w' => e = .returned (.bool r) ∧ Ext w w' :=
  implReplyT10 n u f nm tx w hm g1 g2 r (Lib.hid (Iff.trans Hr.out (by simp [ReplyK])))

set_option maxRecDepth 20000 in
set_option maxHeartbeats 4000000 in
theorem implReplyT11 (n u f : Int) (nm tx : ByteArray) (w : World) (hm : MaxLen w) (g1 : nm.size ≤ 9223372036854775807) (g2 : tx.size ≤ 9223372036854775807) (r : Bool) (Hr : Hid (Tells r ((⟨0, n, u, f, nm, tx⟩ : DReply) = (⟨0, 0, 0, 0, ⟨#[]⟩, ⟨#[]⟩⟩ : DReply)))) :
    Calls Tryd.prog 31 #[.agg #[.int .i64 11, .int .i64 n, .int .i64 u, .int .i64 f, .string nm, .string tx]] w fun e w' => e = .returned (.bool r) ∧ Ext w w' := by
  have hG := eqReplyG
  obtain ⟨dE, hE⟩ : ∃ d, decide ((⟨0, n, u, f, nm, tx⟩ : DReply) = (⟨0, 0, 0, 0, ⟨#[]⟩, ⟨#[]⟩⟩ : DReply)) = d := ⟨_, rfl⟩
  have HE := Lib.hid hE
  have hq := fun w => eqReplyB (⟨0, n, u, f, nm, tx⟩ : DReply) (⟨0, 0, 0, 0, ⟨#[]⟩, ⟨#[]⟩⟩ : DReply) dE hE w
  dsimp only at hq
  clear hE
  have HM := Lib.hid hm
  clear hm
  cases dE
  · go_enter Tryd.func31, Tryd.ntmps31
    go_wp2_with (first | (go_at_call 53; refine (within_dec _ _ _ _).mono ?_; rintro e w1 ⟨rfl, rfl⟩) | (go_at_call 54; refine (isId_dec _ _).mono ?_; rintro e w1 ⟨rfl, rfl⟩) | (go_at_call 55; refine (flagsOk_dec _ _).mono ?_; rintro e w1 ⟨rfl, rfl⟩))
    go_ret
    exact ⟨ret_no Hr.out (fun hn => of_decide_eq_false HE.out hn), bxt⟩
  · go_enter Tryd.func31, Tryd.ntmps31
    go_wp2_with (first | (go_at_call 53; refine (within_dec _ _ _ _).mono ?_; rintro e w1 ⟨rfl, rfl⟩) | (go_at_call 54; refine (isId_dec _ _).mono ?_; rintro e w1 ⟨rfl, rfl⟩) | (go_at_call 55; refine (flagsOk_dec _ _).mono ?_; rintro e w1 ⟨rfl, rfl⟩))
    go_ret
    exact ⟨ret_yes Hr.out (of_decide_eq_true HE.out), bxt⟩

theorem implReply11 (n u f : Int) (nm tx : ByteArray) (w : World) (hm : MaxLen w) (g1 : nm.size ≤ 9223372036854775807) (g2 : tx.size ≤ 9223372036854775807) (r : Bool) (Hr : Hid (Tells r (ReplyK 11 n u f nm tx))) :
    Calls Tryd.prog 31 #[.agg #[.int .i64 11, .int .i64 n, .int .i64 u, .int .i64 f, .string nm, .string tx]] w fun e w' => e = .returned (.bool r) ∧ Ext w w' :=
  implReplyT11 n u f nm tx w hm g1 g2 r (Lib.hid (Iff.trans Hr.out (by simp [ReplyK])))

set_option maxRecDepth 20000 in
set_option maxHeartbeats 4000000 in
theorem implReplyT12 (n u f : Int) (nm tx : ByteArray) (w : World) (hm : MaxLen w) (g1 : nm.size ≤ 9223372036854775807) (g2 : tx.size ≤ 9223372036854775807) (r : Bool) (Hr : Hid (Tells r ((TagP nm ∨ nm = ⟨#[42]⟩) ∧ (⟨0, n, u, f, ⟨#[]⟩, tx⟩ : DReply) = (⟨0, 0, 0, 0, ⟨#[]⟩, ⟨#[]⟩⟩ : DReply)))) :
    Calls Tryd.prog 31 #[.agg #[.int .i64 12, .int .i64 n, .int .i64 u, .int .i64 f, .string nm, .string tx]] w fun e w' => e = .returned (.bool r) ∧ Ext w w' := by
  have hG := eqReplyG
  obtain ⟨dE, hE⟩ : ∃ d, decide ((⟨0, n, u, f, ⟨#[]⟩, tx⟩ : DReply) = (⟨0, 0, 0, 0, ⟨#[]⟩, ⟨#[]⟩⟩ : DReply)) = d := ⟨_, rfl⟩
  have HE := Lib.hid hE
  have hq := fun w => eqReplyB (⟨0, n, u, f, ⟨#[]⟩, tx⟩ : DReply) (⟨0, 0, 0, 0, ⟨#[]⟩, ⟨#[]⟩⟩ : DReply) dE hE w
  dsimp only at hq
  clear hE
  have HM := Lib.hid hm
  clear hm
  obtain ⟨d, hd⟩ := boolOf (TagP nm)
  have HT := Lib.hid hd
  clear hd
  cases d
  · by_cases hst : nm = ⟨#[42]⟩
    · skip
      have hs2 : (nm.toList == [42]) = true := (str_is nm [42]).trans (by simp [hst])
      have HS := Lib.hid hst
      clear hst
      cases dE
      · go_enter Tryd.func31, Tryd.ntmps31
        go_wp2_with (first | (go_at_call 53; refine (within_dec _ _ _ _).mono ?_; rintro e w1 ⟨rfl, rfl⟩) | (go_at_call 54; refine (isId_dec _ _).mono ?_; rintro e w1 ⟨rfl, rfl⟩) | (go_at_call 55; refine (flagsOk_dec _ _).mono ?_; rintro e w1 ⟨rfl, rfl⟩) | (go_at_call 57; refine (implTagOk_any _ _ g1 _ HT).mono ?_; rintro e w1 ⟨rfl, hb1⟩; obtain ⟨hcb1, hfb1⟩ := bcell hb1))
        go_ret
        exact ⟨ret_no Hr.out (fun hn => of_decide_eq_false HE.out hn.2), bxt⟩
      · go_enter Tryd.func31, Tryd.ntmps31
        go_wp2_with (first | (go_at_call 53; refine (within_dec _ _ _ _).mono ?_; rintro e w1 ⟨rfl, rfl⟩) | (go_at_call 54; refine (isId_dec _ _).mono ?_; rintro e w1 ⟨rfl, rfl⟩) | (go_at_call 55; refine (flagsOk_dec _ _).mono ?_; rintro e w1 ⟨rfl, rfl⟩) | (go_at_call 57; refine (implTagOk_any _ _ g1 _ HT).mono ?_; rintro e w1 ⟨rfl, hb1⟩; obtain ⟨hcb1, hfb1⟩ := bcell hb1))
        go_ret
        exact ⟨ret_yes Hr.out ⟨by (first | exact Or.inr HS.out | exact Or.inl (yes_of HT.out)), of_decide_eq_true HE.out⟩, bxt⟩
    · skip
      have hs2 : (nm.toList == [42]) = false := (str_is nm [42]).trans (by simp [hst])
      have HS := Lib.hid hst
      clear hst
      go_enter Tryd.func31, Tryd.ntmps31
      go_wp2_with (first | (go_at_call 53; refine (within_dec _ _ _ _).mono ?_; rintro e w1 ⟨rfl, rfl⟩) | (go_at_call 54; refine (isId_dec _ _).mono ?_; rintro e w1 ⟨rfl, rfl⟩) | (go_at_call 55; refine (flagsOk_dec _ _).mono ?_; rintro e w1 ⟨rfl, rfl⟩) | (go_at_call 57; refine (implTagOk_any _ _ g1 _ HT).mono ?_; rintro e w1 ⟨rfl, hb1⟩; obtain ⟨hcb1, hfb1⟩ := bcell hb1))
      go_ret
      exact ⟨ret_no Hr.out (fun hn => hn.1.elim (no_of HT.out) HS.out), bxt⟩
  · skip
    cases dE
    · go_enter Tryd.func31, Tryd.ntmps31
      go_wp2_with (first | (go_at_call 53; refine (within_dec _ _ _ _).mono ?_; rintro e w1 ⟨rfl, rfl⟩) | (go_at_call 54; refine (isId_dec _ _).mono ?_; rintro e w1 ⟨rfl, rfl⟩) | (go_at_call 55; refine (flagsOk_dec _ _).mono ?_; rintro e w1 ⟨rfl, rfl⟩) | (go_at_call 57; refine (implTagOk_any _ _ g1 _ HT).mono ?_; rintro e w1 ⟨rfl, hb1⟩; obtain ⟨hcb1, hfb1⟩ := bcell hb1))
      go_ret
      exact ⟨ret_no Hr.out (fun hn => of_decide_eq_false HE.out hn.2), bxt⟩
    · go_enter Tryd.func31, Tryd.ntmps31
      go_wp2_with (first | (go_at_call 53; refine (within_dec _ _ _ _).mono ?_; rintro e w1 ⟨rfl, rfl⟩) | (go_at_call 54; refine (isId_dec _ _).mono ?_; rintro e w1 ⟨rfl, rfl⟩) | (go_at_call 55; refine (flagsOk_dec _ _).mono ?_; rintro e w1 ⟨rfl, rfl⟩) | (go_at_call 57; refine (implTagOk_any _ _ g1 _ HT).mono ?_; rintro e w1 ⟨rfl, hb1⟩; obtain ⟨hcb1, hfb1⟩ := bcell hb1))
      go_ret
      exact ⟨ret_yes Hr.out ⟨by (first | exact Or.inr HS.out | exact Or.inl (yes_of HT.out)), of_decide_eq_true HE.out⟩, bxt⟩

theorem implReply12 (n u f : Int) (nm tx : ByteArray) (w : World) (hm : MaxLen w) (g1 : nm.size ≤ 9223372036854775807) (g2 : tx.size ≤ 9223372036854775807) (r : Bool) (Hr : Hid (Tells r (ReplyK 12 n u f nm tx))) :
    Calls Tryd.prog 31 #[.agg #[.int .i64 12, .int .i64 n, .int .i64 u, .int .i64 f, .string nm, .string tx]] w fun e w' => e = .returned (.bool r) ∧ Ext w w' :=
  implReplyT12 n u f nm tx w hm g1 g2 r (Lib.hid (Iff.trans Hr.out (by simp [ReplyK])))

set_option maxRecDepth 20000 in
set_option maxHeartbeats 4000000 in
theorem implReplyT13 (n u f : Int) (nm tx : ByteArray) (w : World) (hm : MaxLen w) (g1 : nm.size ≤ 9223372036854775807) (g2 : tx.size ≤ 9223372036854775807) (r : Bool) (Hr : Hid (Tells r ((TagP nm ∨ nm = ⟨#[42]⟩) ∧ (⟨0, n, u, f, ⟨#[]⟩, tx⟩ : DReply) = (⟨0, 0, 0, 0, ⟨#[]⟩, ⟨#[]⟩⟩ : DReply)))) :
    Calls Tryd.prog 31 #[.agg #[.int .i64 13, .int .i64 n, .int .i64 u, .int .i64 f, .string nm, .string tx]] w fun e w' => e = .returned (.bool r) ∧ Ext w w' := by
  have hG := eqReplyG
  obtain ⟨dE, hE⟩ : ∃ d, decide ((⟨0, n, u, f, ⟨#[]⟩, tx⟩ : DReply) = (⟨0, 0, 0, 0, ⟨#[]⟩, ⟨#[]⟩⟩ : DReply)) = d := ⟨_, rfl⟩
  have HE := Lib.hid hE
  have hq := fun w => eqReplyB (⟨0, n, u, f, ⟨#[]⟩, tx⟩ : DReply) (⟨0, 0, 0, 0, ⟨#[]⟩, ⟨#[]⟩⟩ : DReply) dE hE w
  dsimp only at hq
  clear hE
  have HM := Lib.hid hm
  clear hm
  obtain ⟨d, hd⟩ := boolOf (TagP nm)
  have HT := Lib.hid hd
  clear hd
  cases d
  · by_cases hst : nm = ⟨#[42]⟩
    · skip
      have hs2 : (nm.toList == [42]) = true := (str_is nm [42]).trans (by simp [hst])
      have HS := Lib.hid hst
      clear hst
      cases dE
      · go_enter Tryd.func31, Tryd.ntmps31
        go_wp2_with (first | (go_at_call 53; refine (within_dec _ _ _ _).mono ?_; rintro e w1 ⟨rfl, rfl⟩) | (go_at_call 54; refine (isId_dec _ _).mono ?_; rintro e w1 ⟨rfl, rfl⟩) | (go_at_call 55; refine (flagsOk_dec _ _).mono ?_; rintro e w1 ⟨rfl, rfl⟩) | (go_at_call 57; refine (implTagOk_any _ _ g1 _ HT).mono ?_; rintro e w1 ⟨rfl, hb1⟩; obtain ⟨hcb1, hfb1⟩ := bcell hb1))
        go_ret
        exact ⟨ret_no Hr.out (fun hn => of_decide_eq_false HE.out hn.2), bxt⟩
      · go_enter Tryd.func31, Tryd.ntmps31
        go_wp2_with (first | (go_at_call 53; refine (within_dec _ _ _ _).mono ?_; rintro e w1 ⟨rfl, rfl⟩) | (go_at_call 54; refine (isId_dec _ _).mono ?_; rintro e w1 ⟨rfl, rfl⟩) | (go_at_call 55; refine (flagsOk_dec _ _).mono ?_; rintro e w1 ⟨rfl, rfl⟩) | (go_at_call 57; refine (implTagOk_any _ _ g1 _ HT).mono ?_; rintro e w1 ⟨rfl, hb1⟩; obtain ⟨hcb1, hfb1⟩ := bcell hb1))
        go_ret
        exact ⟨ret_yes Hr.out ⟨by (first | exact Or.inr HS.out | exact Or.inl (yes_of HT.out)), of_decide_eq_true HE.out⟩, bxt⟩
    · skip
      have hs2 : (nm.toList == [42]) = false := (str_is nm [42]).trans (by simp [hst])
      have HS := Lib.hid hst
      clear hst
      go_enter Tryd.func31, Tryd.ntmps31
      go_wp2_with (first | (go_at_call 53; refine (within_dec _ _ _ _).mono ?_; rintro e w1 ⟨rfl, rfl⟩) | (go_at_call 54; refine (isId_dec _ _).mono ?_; rintro e w1 ⟨rfl, rfl⟩) | (go_at_call 55; refine (flagsOk_dec _ _).mono ?_; rintro e w1 ⟨rfl, rfl⟩) | (go_at_call 57; refine (implTagOk_any _ _ g1 _ HT).mono ?_; rintro e w1 ⟨rfl, hb1⟩; obtain ⟨hcb1, hfb1⟩ := bcell hb1))
      go_ret
      exact ⟨ret_no Hr.out (fun hn => hn.1.elim (no_of HT.out) HS.out), bxt⟩
  · skip
    cases dE
    · go_enter Tryd.func31, Tryd.ntmps31
      go_wp2_with (first | (go_at_call 53; refine (within_dec _ _ _ _).mono ?_; rintro e w1 ⟨rfl, rfl⟩) | (go_at_call 54; refine (isId_dec _ _).mono ?_; rintro e w1 ⟨rfl, rfl⟩) | (go_at_call 55; refine (flagsOk_dec _ _).mono ?_; rintro e w1 ⟨rfl, rfl⟩) | (go_at_call 57; refine (implTagOk_any _ _ g1 _ HT).mono ?_; rintro e w1 ⟨rfl, hb1⟩; obtain ⟨hcb1, hfb1⟩ := bcell hb1))
      go_ret
      exact ⟨ret_no Hr.out (fun hn => of_decide_eq_false HE.out hn.2), bxt⟩
    · go_enter Tryd.func31, Tryd.ntmps31
      go_wp2_with (first | (go_at_call 53; refine (within_dec _ _ _ _).mono ?_; rintro e w1 ⟨rfl, rfl⟩) | (go_at_call 54; refine (isId_dec _ _).mono ?_; rintro e w1 ⟨rfl, rfl⟩) | (go_at_call 55; refine (flagsOk_dec _ _).mono ?_; rintro e w1 ⟨rfl, rfl⟩) | (go_at_call 57; refine (implTagOk_any _ _ g1 _ HT).mono ?_; rintro e w1 ⟨rfl, hb1⟩; obtain ⟨hcb1, hfb1⟩ := bcell hb1))
      go_ret
      exact ⟨ret_yes Hr.out ⟨by (first | exact Or.inr HS.out | exact Or.inl (yes_of HT.out)), of_decide_eq_true HE.out⟩, bxt⟩

theorem implReply13 (n u f : Int) (nm tx : ByteArray) (w : World) (hm : MaxLen w) (g1 : nm.size ≤ 9223372036854775807) (g2 : tx.size ≤ 9223372036854775807) (r : Bool) (Hr : Hid (Tells r (ReplyK 13 n u f nm tx))) :
    Calls Tryd.prog 31 #[.agg #[.int .i64 13, .int .i64 n, .int .i64 u, .int .i64 f, .string nm, .string tx]] w fun e w' => e = .returned (.bool r) ∧ Ext w w' :=
  implReplyT13 n u f nm tx w hm g1 g2 r (Lib.hid (Iff.trans Hr.out (by simp [ReplyK])))

set_option maxRecDepth 20000 in
set_option maxHeartbeats 4000000 in
theorem implReplyT14 (n u f : Int) (nm tx : ByteArray) (w : World) (hm : MaxLen w) (g1 : nm.size ≤ 9223372036854775807) (g2 : tx.size ≤ 9223372036854775807) (r : Bool) (Hr : Hid (Tells r ((TagP nm ∨ nm = ⟨#[42]⟩) ∧ (⟨0, n, u, f, ⟨#[]⟩, tx⟩ : DReply) = (⟨0, 0, 0, 0, ⟨#[]⟩, ⟨#[]⟩⟩ : DReply)))) :
    Calls Tryd.prog 31 #[.agg #[.int .i64 14, .int .i64 n, .int .i64 u, .int .i64 f, .string nm, .string tx]] w fun e w' => e = .returned (.bool r) ∧ Ext w w' := by
  have hG := eqReplyG
  obtain ⟨dE, hE⟩ : ∃ d, decide ((⟨0, n, u, f, ⟨#[]⟩, tx⟩ : DReply) = (⟨0, 0, 0, 0, ⟨#[]⟩, ⟨#[]⟩⟩ : DReply)) = d := ⟨_, rfl⟩
  have HE := Lib.hid hE
  have hq := fun w => eqReplyB (⟨0, n, u, f, ⟨#[]⟩, tx⟩ : DReply) (⟨0, 0, 0, 0, ⟨#[]⟩, ⟨#[]⟩⟩ : DReply) dE hE w
  dsimp only at hq
  clear hE
  have HM := Lib.hid hm
  clear hm
  obtain ⟨d, hd⟩ := boolOf (TagP nm)
  have HT := Lib.hid hd
  clear hd
  cases d
  · by_cases hst : nm = ⟨#[42]⟩
    · skip
      have hs2 : (nm.toList == [42]) = true := (str_is nm [42]).trans (by simp [hst])
      have HS := Lib.hid hst
      clear hst
      cases dE
      · go_enter Tryd.func31, Tryd.ntmps31
        go_wp2_with (first | (go_at_call 53; refine (within_dec _ _ _ _).mono ?_; rintro e w1 ⟨rfl, rfl⟩) | (go_at_call 54; refine (isId_dec _ _).mono ?_; rintro e w1 ⟨rfl, rfl⟩) | (go_at_call 55; refine (flagsOk_dec _ _).mono ?_; rintro e w1 ⟨rfl, rfl⟩) | (go_at_call 57; refine (implTagOk_any _ _ g1 _ HT).mono ?_; rintro e w1 ⟨rfl, hb1⟩; obtain ⟨hcb1, hfb1⟩ := bcell hb1))
        go_ret
        exact ⟨ret_no Hr.out (fun hn => of_decide_eq_false HE.out hn.2), bxt⟩
      · go_enter Tryd.func31, Tryd.ntmps31
        go_wp2_with (first | (go_at_call 53; refine (within_dec _ _ _ _).mono ?_; rintro e w1 ⟨rfl, rfl⟩) | (go_at_call 54; refine (isId_dec _ _).mono ?_; rintro e w1 ⟨rfl, rfl⟩) | (go_at_call 55; refine (flagsOk_dec _ _).mono ?_; rintro e w1 ⟨rfl, rfl⟩) | (go_at_call 57; refine (implTagOk_any _ _ g1 _ HT).mono ?_; rintro e w1 ⟨rfl, hb1⟩; obtain ⟨hcb1, hfb1⟩ := bcell hb1))
        go_ret
        exact ⟨ret_yes Hr.out ⟨by (first | exact Or.inr HS.out | exact Or.inl (yes_of HT.out)), of_decide_eq_true HE.out⟩, bxt⟩
    · skip
      have hs2 : (nm.toList == [42]) = false := (str_is nm [42]).trans (by simp [hst])
      have HS := Lib.hid hst
      clear hst
      go_enter Tryd.func31, Tryd.ntmps31
      go_wp2_with (first | (go_at_call 53; refine (within_dec _ _ _ _).mono ?_; rintro e w1 ⟨rfl, rfl⟩) | (go_at_call 54; refine (isId_dec _ _).mono ?_; rintro e w1 ⟨rfl, rfl⟩) | (go_at_call 55; refine (flagsOk_dec _ _).mono ?_; rintro e w1 ⟨rfl, rfl⟩) | (go_at_call 57; refine (implTagOk_any _ _ g1 _ HT).mono ?_; rintro e w1 ⟨rfl, hb1⟩; obtain ⟨hcb1, hfb1⟩ := bcell hb1))
      go_ret
      exact ⟨ret_no Hr.out (fun hn => hn.1.elim (no_of HT.out) HS.out), bxt⟩
  · skip
    cases dE
    · go_enter Tryd.func31, Tryd.ntmps31
      go_wp2_with (first | (go_at_call 53; refine (within_dec _ _ _ _).mono ?_; rintro e w1 ⟨rfl, rfl⟩) | (go_at_call 54; refine (isId_dec _ _).mono ?_; rintro e w1 ⟨rfl, rfl⟩) | (go_at_call 55; refine (flagsOk_dec _ _).mono ?_; rintro e w1 ⟨rfl, rfl⟩) | (go_at_call 57; refine (implTagOk_any _ _ g1 _ HT).mono ?_; rintro e w1 ⟨rfl, hb1⟩; obtain ⟨hcb1, hfb1⟩ := bcell hb1))
      go_ret
      exact ⟨ret_no Hr.out (fun hn => of_decide_eq_false HE.out hn.2), bxt⟩
    · go_enter Tryd.func31, Tryd.ntmps31
      go_wp2_with (first | (go_at_call 53; refine (within_dec _ _ _ _).mono ?_; rintro e w1 ⟨rfl, rfl⟩) | (go_at_call 54; refine (isId_dec _ _).mono ?_; rintro e w1 ⟨rfl, rfl⟩) | (go_at_call 55; refine (flagsOk_dec _ _).mono ?_; rintro e w1 ⟨rfl, rfl⟩) | (go_at_call 57; refine (implTagOk_any _ _ g1 _ HT).mono ?_; rintro e w1 ⟨rfl, hb1⟩; obtain ⟨hcb1, hfb1⟩ := bcell hb1))
      go_ret
      exact ⟨ret_yes Hr.out ⟨by (first | exact Or.inr HS.out | exact Or.inl (yes_of HT.out)), of_decide_eq_true HE.out⟩, bxt⟩

theorem implReply14 (n u f : Int) (nm tx : ByteArray) (w : World) (hm : MaxLen w) (g1 : nm.size ≤ 9223372036854775807) (g2 : tx.size ≤ 9223372036854775807) (r : Bool) (Hr : Hid (Tells r (ReplyK 14 n u f nm tx))) :
    Calls Tryd.prog 31 #[.agg #[.int .i64 14, .int .i64 n, .int .i64 u, .int .i64 f, .string nm, .string tx]] w fun e w' => e = .returned (.bool r) ∧ Ext w w' :=
  implReplyT14 n u f nm tx w hm g1 g2 r (Lib.hid (Iff.trans Hr.out (by simp [ReplyK])))

set_option maxRecDepth 20000 in
set_option maxHeartbeats 4000000 in
theorem implReplyT15 (n u f : Int) (nm tx : ByteArray) (w : World) (hm : MaxLen w) (g1 : nm.size ≤ 9223372036854775807) (g2 : tx.size ≤ 9223372036854775807) (r : Bool) (Hr : Hid (Tells r ((⟨0, n, u, f, nm, tx⟩ : DReply) = (⟨0, 0, 0, 0, ⟨#[]⟩, ⟨#[]⟩⟩ : DReply)))) :
    Calls Tryd.prog 31 #[.agg #[.int .i64 15, .int .i64 n, .int .i64 u, .int .i64 f, .string nm, .string tx]] w fun e w' => e = .returned (.bool r) ∧ Ext w w' := by
  have hG := eqReplyG
  obtain ⟨dE, hE⟩ : ∃ d, decide ((⟨0, n, u, f, nm, tx⟩ : DReply) = (⟨0, 0, 0, 0, ⟨#[]⟩, ⟨#[]⟩⟩ : DReply)) = d := ⟨_, rfl⟩
  have HE := Lib.hid hE
  have hq := fun w => eqReplyB (⟨0, n, u, f, nm, tx⟩ : DReply) (⟨0, 0, 0, 0, ⟨#[]⟩, ⟨#[]⟩⟩ : DReply) dE hE w
  dsimp only at hq
  clear hE
  have HM := Lib.hid hm
  clear hm
  cases dE
  · go_enter Tryd.func31, Tryd.ntmps31
    go_wp2_with (first | (go_at_call 53; refine (within_dec _ _ _ _).mono ?_; rintro e w1 ⟨rfl, rfl⟩) | (go_at_call 54; refine (isId_dec _ _).mono ?_; rintro e w1 ⟨rfl, rfl⟩) | (go_at_call 55; refine (flagsOk_dec _ _).mono ?_; rintro e w1 ⟨rfl, rfl⟩))
    go_ret
    exact ⟨ret_no Hr.out (fun hn => of_decide_eq_false HE.out hn), bxt⟩
  · go_enter Tryd.func31, Tryd.ntmps31
    go_wp2_with (first | (go_at_call 53; refine (within_dec _ _ _ _).mono ?_; rintro e w1 ⟨rfl, rfl⟩) | (go_at_call 54; refine (isId_dec _ _).mono ?_; rintro e w1 ⟨rfl, rfl⟩) | (go_at_call 55; refine (flagsOk_dec _ _).mono ?_; rintro e w1 ⟨rfl, rfl⟩))
    go_ret
    exact ⟨ret_yes Hr.out (of_decide_eq_true HE.out), bxt⟩

theorem implReply15 (n u f : Int) (nm tx : ByteArray) (w : World) (hm : MaxLen w) (g1 : nm.size ≤ 9223372036854775807) (g2 : tx.size ≤ 9223372036854775807) (r : Bool) (Hr : Hid (Tells r (ReplyK 15 n u f nm tx))) :
    Calls Tryd.prog 31 #[.agg #[.int .i64 15, .int .i64 n, .int .i64 u, .int .i64 f, .string nm, .string tx]] w fun e w' => e = .returned (.bool r) ∧ Ext w w' :=
  implReplyT15 n u f nm tx w hm g1 g2 r (Lib.hid (Iff.trans Hr.out (by simp [ReplyK])))

set_option maxRecDepth 20000 in
set_option maxHeartbeats 4000000 in
theorem implReplyT16 (n u f : Int) (nm tx : ByteArray) (w : World) (hm : MaxLen w) (g1 : nm.size ≤ 9223372036854775807) (g2 : tx.size ≤ 9223372036854775807) (r : Bool) (Hr : Hid (Tells r ((⟨0, n, u, f, nm, tx⟩ : DReply) = (⟨0, 0, 0, 0, ⟨#[]⟩, ⟨#[]⟩⟩ : DReply)))) :
    Calls Tryd.prog 31 #[.agg #[.int .i64 16, .int .i64 n, .int .i64 u, .int .i64 f, .string nm, .string tx]] w fun e w' => e = .returned (.bool r) ∧ Ext w w' := by
  have hG := eqReplyG
  obtain ⟨dE, hE⟩ : ∃ d, decide ((⟨0, n, u, f, nm, tx⟩ : DReply) = (⟨0, 0, 0, 0, ⟨#[]⟩, ⟨#[]⟩⟩ : DReply)) = d := ⟨_, rfl⟩
  have HE := Lib.hid hE
  have hq := fun w => eqReplyB (⟨0, n, u, f, nm, tx⟩ : DReply) (⟨0, 0, 0, 0, ⟨#[]⟩, ⟨#[]⟩⟩ : DReply) dE hE w
  dsimp only at hq
  clear hE
  have HM := Lib.hid hm
  clear hm
  cases dE
  · go_enter Tryd.func31, Tryd.ntmps31
    go_wp2_with (first | (go_at_call 53; refine (within_dec _ _ _ _).mono ?_; rintro e w1 ⟨rfl, rfl⟩) | (go_at_call 54; refine (isId_dec _ _).mono ?_; rintro e w1 ⟨rfl, rfl⟩) | (go_at_call 55; refine (flagsOk_dec _ _).mono ?_; rintro e w1 ⟨rfl, rfl⟩))
    go_ret
    exact ⟨ret_no Hr.out (fun hn => of_decide_eq_false HE.out hn), bxt⟩
  · go_enter Tryd.func31, Tryd.ntmps31
    go_wp2_with (first | (go_at_call 53; refine (within_dec _ _ _ _).mono ?_; rintro e w1 ⟨rfl, rfl⟩) | (go_at_call 54; refine (isId_dec _ _).mono ?_; rintro e w1 ⟨rfl, rfl⟩) | (go_at_call 55; refine (flagsOk_dec _ _).mono ?_; rintro e w1 ⟨rfl, rfl⟩))
    go_ret
    exact ⟨ret_yes Hr.out (of_decide_eq_true HE.out), bxt⟩

theorem implReply16 (n u f : Int) (nm tx : ByteArray) (w : World) (hm : MaxLen w) (g1 : nm.size ≤ 9223372036854775807) (g2 : tx.size ≤ 9223372036854775807) (r : Bool) (Hr : Hid (Tells r (ReplyK 16 n u f nm tx))) :
    Calls Tryd.prog 31 #[.agg #[.int .i64 16, .int .i64 n, .int .i64 u, .int .i64 f, .string nm, .string tx]] w fun e w' => e = .returned (.bool r) ∧ Ext w w' :=
  implReplyT16 n u f nm tx w hm g1 g2 r (Lib.hid (Iff.trans Hr.out (by simp [ReplyK])))

set_option maxHeartbeats 4000000 in
theorem implReply0 (k n u f : Int) (nm tx : ByteArray) (w : World) (hk : ¬ (1 ≤ k ∧ k ≤ 16)) :
    Calls Tryd.prog 31 #[.agg #[.int .i64 k, .int .i64 n, .int .i64 u, .int .i64 f, .string nm, .string tx]] w fun e w' => e = .returned (.bool false) ∧ Ext w w' := by
  rcases (by omega : k < 1 ∨ 16 < k) with c | c
  all_goals try have e1 : decide (1 ≤ k) = true := decide_eq_true (by omega)
  all_goals try have e1 : decide (1 ≤ k) = false := decide_eq_false (by omega)
  all_goals try have e2 : decide (k ≤ 16) = true := decide_eq_true (by omega)
  all_goals try have e2 : decide (k ≤ 16) = false := decide_eq_false (by omega)
  all_goals have h1 : (k == 1) = false := by (simp; omega)
  all_goals have h2 : (k == 2) = false := by (simp; omega)
  all_goals have h3 : (k == 3) = false := by (simp; omega)
  all_goals have h4 : (k == 4) = false := by (simp; omega)
  all_goals have h5 : (k == 5) = false := by (simp; omega)
  all_goals have h6 : (k == 6) = false := by (simp; omega)
  all_goals have h7 : (k == 7) = false := by (simp; omega)
  all_goals have h8 : (k == 8) = false := by (simp; omega)
  all_goals have h9 : (k == 9) = false := by (simp; omega)
  all_goals have h10 : (k == 10) = false := by (simp; omega)
  all_goals have h11 : (k == 11) = false := by (simp; omega)
  all_goals have h12 : (k == 12) = false := by (simp; omega)
  all_goals have h13 : (k == 13) = false := by (simp; omega)
  all_goals have h14 : (k == 14) = false := by (simp; omega)
  all_goals have h15 : (k == 15) = false := by (simp; omega)
  all_goals have h16 : (k == 16) = false := by (simp; omega)
  all_goals clear hk c
  all_goals go_enter Tryd.func31, Tryd.ntmps31
  all_goals go_wp2_with (first | (go_at_call 53; refine (within_dec _ _ _ _).mono ?_; rintro e w1 ⟨rfl, rfl⟩) | (go_at_call 54; refine (isId_dec _ _).mono ?_; rintro e w1 ⟨rfl, rfl⟩) | (go_at_call 55; refine (flagsOk_dec _ _).mono ?_; rintro e w1 ⟨rfl, rfl⟩))
  all_goals go_ret
  all_goals exact ⟨rfl, bxt⟩
theorem implReplyOk_any (a : DReply) (w : World) (hm : MaxLen w) (g1 : a.name.size ≤ 9223372036854775807) (g2 : a.text.size ≤ 9223372036854775807) (r : Bool) (Hr : Hid (Tells r (ReplyP a))) :
    Calls Tryd.prog 31 #[.agg #[.int .i64 a.kind, .int .i64 a.n, .int .i64 a.uid, .int .i64 a.flags, .string a.name, .string a.text]] w fun e w' => e = .returned (.bool r) ∧ Ext w w' := by
  obtain ⟨k, n, u, f, nm, tx⟩ := a
  by_cases hk : 1 ≤ k ∧ k ≤ 16
  · have : k = 1 ∨ k = 2 ∨ k = 3 ∨ k = 4 ∨ k = 5 ∨ k = 6 ∨ k = 7 ∨ k = 8 ∨ k = 9 ∨ k = 10 ∨ k = 11 ∨ k = 12 ∨ k = 13 ∨ k = 14 ∨ k = 15 ∨ k = 16 := by omega
    rcases this with rfl | rfl | rfl | rfl | rfl | rfl | rfl | rfl | rfl | rfl | rfl | rfl | rfl | rfl | rfl | rfl
    · exact implReply1 n u f nm tx w hm g1 g2 r Hr
    · exact implReply2 n u f nm tx w hm g1 g2 r Hr
    · exact implReply3 n u f nm tx w hm g1 g2 r Hr
    · exact implReply4 n u f nm tx w hm g1 g2 r Hr
    · exact implReply5 n u f nm tx w hm g1 g2 r Hr
    · exact implReply6 n u f nm tx w hm g1 g2 r Hr
    · exact implReply7 n u f nm tx w hm g1 g2 r Hr
    · exact implReply8 n u f nm tx w hm g1 g2 r Hr
    · exact implReply9 n u f nm tx w hm g1 g2 r Hr
    · exact implReply10 n u f nm tx w hm g1 g2 r Hr
    · exact implReply11 n u f nm tx w hm g1 g2 r Hr
    · exact implReply12 n u f nm tx w hm g1 g2 r Hr
    · exact implReply13 n u f nm tx w hm g1 g2 r Hr
    · exact implReply14 n u f nm tx w hm g1 g2 r Hr
    · exact implReply15 n u f nm tx w hm g1 g2 r Hr
    · exact implReply16 n u f nm tx w hm g1 g2 r Hr
  · have : r = false := Hr.out.eq_false (replyK_no k n u f nm tx hk)
    subst this
    exact implReply0 k n u f nm tx w hk

end Go.Proofs.YtadjlfcdjkikgaaDoor
