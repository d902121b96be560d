/-
  Whether a reply is valid: the reference's function.
-/
import Derived.Test.YtadjlfcdjkikgaaDoorReplyP
namespace Go.Proofs.YtadjlfcdjkikgaaDoor
open Go.RowKit
set_option linter.unusedVariables false
set_option linter.unusedSimpArgs false

set_option maxRecDepth 20000 in
set_option maxHeartbeats 4000000 in
theorem specReplyT1 (n : Int) (w : World) (r : Bool) (Hr : Hid (Tells r ((0 ≤ n ∧ n ≤ 999999999) ∧ True))) :
    Calls Tryd.prog 26 #[.agg #[.int .i64 1, .int .i64 n, .int .i64 0, .int .i64 0, .string ⟨#[]⟩, .string ⟨#[]⟩]] w fun e w' => e = .returned (.bool r) ∧ Ext w w' := by
  have hG := eqReplyG
  have hq := fun w => eqReplyB (⟨1, n, 0, 0, ⟨#[]⟩, ⟨#[]⟩⟩ : DReply) (⟨1, n, 0, 0, ⟨#[]⟩, ⟨#[]⟩⟩ : DReply) true (by simp) w
  dsimp only at hq
  rcases (by omega : (n < 0) ∨ (0 ≤ n ∧ n ≤ 999999999) ∨ (999999999 < n)) with cN | cN | cN
  · skip
    try have eN0 : decide (0 ≤ n) = true := decide_eq_true (by omega)
    try have eN0 : decide (0 ≤ n) = false := decide_eq_false (by omega)
    try have eN1 : decide (n ≤ 999999999) = true := decide_eq_true (by omega)
    try have eN1 : decide (n ≤ 999999999) = false := decide_eq_false (by omega)
    try have eN2 : decide (n < 0) = true := decide_eq_true (by omega)
    try have eN2 : decide (n < 0) = false := decide_eq_false (by omega)
    try have eN3 : decide (1 ≤ n) = true := decide_eq_true (by omega)
    try have eN3 : decide (1 ≤ n) = false := decide_eq_false (by omega)
    try have eN4 : decide (n < 1) = true := decide_eq_true (by omega)
    try have eN4 : decide (n < 1) = false := decide_eq_false (by omega)
    have HN := Lib.hid cN
    clear cN
    go_enter Tryd.func26, Tryd.ntmps26
    go_wp2_with (first | (go_at_call 43; refine (l1In_dec _ _ _ _).mono ?_; rintro e w1 ⟨rfl, rfl⟩) | (go_at_call 46; refine (sNumber_dec _ _).mono ?_; rintro e w1 ⟨rfl, rfl⟩) | (go_at_call 47; refine (sFlagsOk_dec _ _).mono ?_; rintro e w1 ⟨rfl, rfl⟩) | (go_at_call 44; refine (l14Named_dec _ _).mono ?_; rintro e w1 ⟨rfl, rfl⟩) | (go_at_call 45; refine (l14Tagged_dec _ _).mono ?_; rintro e w1 ⟨rfl, rfl⟩))
    go_ret
    exact ⟨ret_no Hr.out (fun hn => by have hh := hn.1; have cc := HN.out; omega), bxt⟩
  · skip
    try have eN0 : decide (0 ≤ n) = true := decide_eq_true (by omega)
    try have eN0 : decide (0 ≤ n) = false := decide_eq_false (by omega)
    try have eN1 : decide (n ≤ 999999999) = true := decide_eq_true (by omega)
    try have eN1 : decide (n ≤ 999999999) = false := decide_eq_false (by omega)
    try have eN2 : decide (n < 0) = true := decide_eq_true (by omega)
    try have eN2 : decide (n < 0) = false := decide_eq_false (by omega)
    try have eN3 : decide (1 ≤ n) = true := decide_eq_true (by omega)
    try have eN3 : decide (1 ≤ n) = false := decide_eq_false (by omega)
    try have eN4 : decide (n < 1) = true := decide_eq_true (by omega)
    try have eN4 : decide (n < 1) = false := decide_eq_false (by omega)
    have HN := Lib.hid cN
    clear cN
    go_enter Tryd.func26, Tryd.ntmps26
    go_wp2_with (first | (go_at_call 43; refine (l1In_dec _ _ _ _).mono ?_; rintro e w1 ⟨rfl, rfl⟩) | (go_at_call 46; refine (sNumber_dec _ _).mono ?_; rintro e w1 ⟨rfl, rfl⟩) | (go_at_call 47; refine (sFlagsOk_dec _ _).mono ?_; rintro e w1 ⟨rfl, rfl⟩) | (go_at_call 44; refine (l14Named_dec _ _).mono ?_; rintro e w1 ⟨rfl, rfl⟩) | (go_at_call 45; refine (l14Tagged_dec _ _).mono ?_; rintro e w1 ⟨rfl, rfl⟩))
    go_ret
    exact ⟨ret_yes Hr.out ⟨HN.out, trivial⟩, bxt⟩
  · skip
    try have eN0 : decide (0 ≤ n) = true := decide_eq_true (by omega)
    try have eN0 : decide (0 ≤ n) = false := decide_eq_false (by omega)
    try have eN1 : decide (n ≤ 999999999) = true := decide_eq_true (by omega)
    try have eN1 : decide (n ≤ 999999999) = false := decide_eq_false (by omega)
    try have eN2 : decide (n < 0) = true := decide_eq_true (by omega)
    try have eN2 : decide (n < 0) = false := decide_eq_false (by omega)
    try have eN3 : decide (1 ≤ n) = true := decide_eq_true (by omega)
    try have eN3 : decide (1 ≤ n) = false := decide_eq_false (by omega)
    try have eN4 : decide (n < 1) = true := decide_eq_true (by omega)
    try have eN4 : decide (n < 1) = false := decide_eq_false (by omega)
    have HN := Lib.hid cN
    clear cN
    go_enter Tryd.func26, Tryd.ntmps26
    go_wp2_with (first | (go_at_call 43; refine (l1In_dec _ _ _ _).mono ?_; rintro e w1 ⟨rfl, rfl⟩) | (go_at_call 46; refine (sNumber_dec _ _).mono ?_; rintro e w1 ⟨rfl, rfl⟩) | (go_at_call 47; refine (sFlagsOk_dec _ _).mono ?_; rintro e w1 ⟨rfl, rfl⟩) | (go_at_call 44; refine (l14Named_dec _ _).mono ?_; rintro e w1 ⟨rfl, rfl⟩) | (go_at_call 45; refine (l14Tagged_dec _ _).mono ?_; rintro e w1 ⟨rfl, rfl⟩))
    go_ret
    exact ⟨ret_no Hr.out (fun hn => by have hh := hn.1; have cc := HN.out; omega), bxt⟩

set_option maxHeartbeats 4000000 in
theorem specReplyF1 (n u f : Int) (nm tx : ByteArray) (w : World) (hE : ¬ (⟨1, n, u, f, nm, tx⟩ : DReply) = (⟨1, n, 0, 0, ⟨#[]⟩, ⟨#[]⟩⟩ : DReply)) :
    Calls Tryd.prog 26 #[.agg #[.int .i64 1, .int .i64 n, .int .i64 u, .int .i64 f, .string nm, .string tx]] w fun e w' => e = .returned (.bool false) ∧ Ext w w' := by
  have hG := eqReplyG
  have hq := fun w => eqReplyB (⟨1, n, u, f, nm, tx⟩ : DReply) (⟨1, n, 0, 0, ⟨#[]⟩, ⟨#[]⟩⟩ : DReply) false (decide_eq_false hE) w
  dsimp only at hq
  clear hE
  go_enter Tryd.func26, Tryd.ntmps26
  go_wp2_with (first | (go_at_call 43; refine (l1In_dec _ _ _ _).mono ?_; rintro e w1 ⟨rfl, rfl⟩) | (go_at_call 46; refine (sNumber_dec _ _).mono ?_; rintro e w1 ⟨rfl, rfl⟩) | (go_at_call 47; refine (sFlagsOk_dec _ _).mono ?_; rintro e w1 ⟨rfl, rfl⟩) | (go_at_call 44; refine (l14Named_dec _ _).mono ?_; rintro e w1 ⟨rfl, rfl⟩) | (go_at_call 45; refine (l14Tagged_dec _ _).mono ?_; rintro e w1 ⟨rfl, rfl⟩))
  go_ret
  exact ⟨rfl, bxt⟩
theorem specReply1 (n u f : Int) (nm tx : ByteArray) (w : World) (g1 : nm.size ≤ 9223372036854775807) (g2 : tx.size ≤ 9223372036854775807) (r : Bool) (Hr : Hid (Tells r (ReplyK 1 n u f nm tx))) :
    Calls Tryd.prog 26 #[.agg #[.int .i64 1, .int .i64 n, .int .i64 u, .int .i64 f, .string nm, .string tx]] w fun e w' => e = .returned (.bool r) ∧ Ext w w' := by
  by_cases hE : (⟨1, n, u, f, nm, tx⟩ : DReply) = (⟨1, n, 0, 0, ⟨#[]⟩, ⟨#[]⟩⟩ : DReply)
  · simp at hE
    obtain ⟨rfl, rfl, rfl, rfl⟩ := hE
    exact specReplyT1 n w r (Lib.hid (Iff.trans Hr.out (by simp [ReplyK])))
  · have h0 : r = false := Hr.out.eq_false (fun h => hE (by simp [ReplyK] at h; simp; simp_all))
    subst h0
    exact specReplyF1 n u f nm tx w hE

set_option maxRecDepth 20000 in
set_option maxHeartbeats 4000000 in
theorem specReplyT2 (n : Int) (w : World) (r : Bool) (Hr : Hid (Tells r ((1 ≤ n ∧ n ≤ 999999999) ∧ True))) :
    Calls Tryd.prog 26 #[.agg #[.int .i64 2, .int .i64 n, .int .i64 0, .int .i64 0, .string ⟨#[]⟩, .string ⟨#[]⟩]] w fun e w' => e = .returned (.bool r) ∧ Ext w w' := by
  have hG := eqReplyG
  have hq := fun w => eqReplyB (⟨2, n, 0, 0, ⟨#[]⟩, ⟨#[]⟩⟩ : DReply) (⟨2, n, 0, 0, ⟨#[]⟩, ⟨#[]⟩⟩ : DReply) true (by simp) w
  dsimp only at hq
  rcases (by omega : (n < 0) ∨ (n = 0) ∨ (1 ≤ n ∧ n ≤ 999999999) ∨ (999999999 < n)) with cI | cI | cI | cI
  · skip
    try have eI0 : decide (0 ≤ n) = true := decide_eq_true (by omega)
    try have eI0 : decide (0 ≤ n) = false := decide_eq_false (by omega)
    try have eI1 : decide (n ≤ 999999999) = true := decide_eq_true (by omega)
    try have eI1 : decide (n ≤ 999999999) = false := decide_eq_false (by omega)
    try have eI2 : decide (n < 1) = true := decide_eq_true (by omega)
    try have eI2 : decide (n < 1) = false := decide_eq_false (by omega)
    try have eI3 : decide (1 ≤ n) = true := decide_eq_true (by omega)
    try have eI3 : decide (1 ≤ n) = false := decide_eq_false (by omega)
    try have eI4 : decide (n < 0) = true := decide_eq_true (by omega)
    try have eI4 : decide (n < 0) = false := decide_eq_false (by omega)
    have HI := Lib.hid cI
    clear cI
    go_enter Tryd.func26, Tryd.ntmps26
    go_wp2_with (first | (go_at_call 43; refine (l1In_dec _ _ _ _).mono ?_; rintro e w1 ⟨rfl, rfl⟩) | (go_at_call 46; refine (sNumber_dec _ _).mono ?_; rintro e w1 ⟨rfl, rfl⟩) | (go_at_call 47; refine (sFlagsOk_dec _ _).mono ?_; rintro e w1 ⟨rfl, rfl⟩) | (go_at_call 44; refine (l14Named_dec _ _).mono ?_; rintro e w1 ⟨rfl, rfl⟩) | (go_at_call 45; refine (l14Tagged_dec _ _).mono ?_; rintro e w1 ⟨rfl, rfl⟩))
    go_ret
    exact ⟨ret_no Hr.out (fun hn => by have hh := hn.1; have cc := HI.out; omega), bxt⟩
  · skip
    try have eI0 : decide (0 ≤ n) = true := decide_eq_true (by omega)
    try have eI0 : decide (0 ≤ n) = false := decide_eq_false (by omega)
    try have eI1 : decide (n ≤ 999999999) = true := decide_eq_true (by omega)
    try have eI1 : decide (n ≤ 999999999) = false := decide_eq_false (by omega)
    try have eI2 : decide (n < 1) = true := decide_eq_true (by omega)
    try have eI2 : decide (n < 1) = false := decide_eq_false (by omega)
    try have eI3 : decide (1 ≤ n) = true := decide_eq_true (by omega)
    try have eI3 : decide (1 ≤ n) = false := decide_eq_false (by omega)
    try have eI4 : decide (n < 0) = true := decide_eq_true (by omega)
    try have eI4 : decide (n < 0) = false := decide_eq_false (by omega)
    have HI := Lib.hid cI
    clear cI
    go_enter Tryd.func26, Tryd.ntmps26
    go_wp2_with (first | (go_at_call 43; refine (l1In_dec _ _ _ _).mono ?_; rintro e w1 ⟨rfl, rfl⟩) | (go_at_call 46; refine (sNumber_dec _ _).mono ?_; rintro e w1 ⟨rfl, rfl⟩) | (go_at_call 47; refine (sFlagsOk_dec _ _).mono ?_; rintro e w1 ⟨rfl, rfl⟩) | (go_at_call 44; refine (l14Named_dec _ _).mono ?_; rintro e w1 ⟨rfl, rfl⟩) | (go_at_call 45; refine (l14Tagged_dec _ _).mono ?_; rintro e w1 ⟨rfl, rfl⟩))
    go_ret
    exact ⟨ret_no Hr.out (fun hn => by have hh := hn.1; have cc := HI.out; omega), bxt⟩
  · skip
    try have eI0 : decide (0 ≤ n) = true := decide_eq_true (by omega)
    try have eI0 : decide (0 ≤ n) = false := decide_eq_false (by omega)
    try have eI1 : decide (n ≤ 999999999) = true := decide_eq_true (by omega)
    try have eI1 : decide (n ≤ 999999999) = false := decide_eq_false (by omega)
    try have eI2 : decide (n < 1) = true := decide_eq_true (by omega)
    try have eI2 : decide (n < 1) = false := decide_eq_false (by omega)
    try have eI3 : decide (1 ≤ n) = true := decide_eq_true (by omega)
    try have eI3 : decide (1 ≤ n) = false := decide_eq_false (by omega)
    try have eI4 : decide (n < 0) = true := decide_eq_true (by omega)
    try have eI4 : decide (n < 0) = false := decide_eq_false (by omega)
    have HI := Lib.hid cI
    clear cI
    go_enter Tryd.func26, Tryd.ntmps26
    go_wp2_with (first | (go_at_call 43; refine (l1In_dec _ _ _ _).mono ?_; rintro e w1 ⟨rfl, rfl⟩) | (go_at_call 46; refine (sNumber_dec _ _).mono ?_; rintro e w1 ⟨rfl, rfl⟩) | (go_at_call 47; refine (sFlagsOk_dec _ _).mono ?_; rintro e w1 ⟨rfl, rfl⟩) | (go_at_call 44; refine (l14Named_dec _ _).mono ?_; rintro e w1 ⟨rfl, rfl⟩) | (go_at_call 45; refine (l14Tagged_dec _ _).mono ?_; rintro e w1 ⟨rfl, rfl⟩))
    go_ret
    exact ⟨ret_yes Hr.out ⟨HI.out, trivial⟩, bxt⟩
  · skip
    try have eI0 : decide (0 ≤ n) = true := decide_eq_true (by omega)
    try have eI0 : decide (0 ≤ n) = false := decide_eq_false (by omega)
    try have eI1 : decide (n ≤ 999999999) = true := decide_eq_true (by omega)
    try have eI1 : decide (n ≤ 999999999) = false := decide_eq_false (by omega)
    try have eI2 : decide (n < 1) = true := decide_eq_true (by omega)
    try have eI2 : decide (n < 1) = false := decide_eq_false (by omega)
    try have eI3 : decide (1 ≤ n) = true := decide_eq_true (by omega)
    try have eI3 : decide (1 ≤ n) = false := decide_eq_false (by omega)
    try have eI4 : decide (n < 0) = true := decide_eq_true (by omega)
    try have eI4 : decide (n < 0) = false := decide_eq_false (by omega)
    have HI := Lib.hid cI
    clear cI
    go_enter Tryd.func26, Tryd.ntmps26
    go_wp2_with (first | (go_at_call 43; refine (l1In_dec _ _ _ _).mono ?_; rintro e w1 ⟨rfl, rfl⟩) | (go_at_call 46; refine (sNumber_dec _ _).mono ?_; rintro e w1 ⟨rfl, rfl⟩) | (go_at_call 47; refine (sFlagsOk_dec _ _).mono ?_; rintro e w1 ⟨rfl, rfl⟩) | (go_at_call 44; refine (l14Named_dec _ _).mono ?_; rintro e w1 ⟨rfl, rfl⟩) | (go_at_call 45; refine (l14Tagged_dec _ _).mono ?_; rintro e w1 ⟨rfl, rfl⟩))
    go_ret
    exact ⟨ret_no Hr.out (fun hn => by have hh := hn.1; have cc := HI.out; omega), bxt⟩

set_option maxHeartbeats 4000000 in
theorem specReplyF2 (n u f : Int) (nm tx : ByteArray) (w : World) (hE : ¬ (⟨2, n, u, f, nm, tx⟩ : DReply) = (⟨2, n, 0, 0, ⟨#[]⟩, ⟨#[]⟩⟩ : DReply)) :
    Calls Tryd.prog 26 #[.agg #[.int .i64 2, .int .i64 n, .int .i64 u, .int .i64 f, .string nm, .string tx]] w fun e w' => e = .returned (.bool false) ∧ Ext w w' := by
  have hG := eqReplyG
  have hq := fun w => eqReplyB (⟨2, n, u, f, nm, tx⟩ : DReply) (⟨2, n, 0, 0, ⟨#[]⟩, ⟨#[]⟩⟩ : DReply) false (decide_eq_false hE) w
  dsimp only at hq
  clear hE
  go_enter Tryd.func26, Tryd.ntmps26
  go_wp2_with (first | (go_at_call 43; refine (l1In_dec _ _ _ _).mono ?_; rintro e w1 ⟨rfl, rfl⟩) | (go_at_call 46; refine (sNumber_dec _ _).mono ?_; rintro e w1 ⟨rfl, rfl⟩) | (go_at_call 47; refine (sFlagsOk_dec _ _).mono ?_; rintro e w1 ⟨rfl, rfl⟩) | (go_at_call 44; refine (l14Named_dec _ _).mono ?_; rintro e w1 ⟨rfl, rfl⟩) | (go_at_call 45; refine (l14Tagged_dec _ _).mono ?_; rintro e w1 ⟨rfl, rfl⟩))
  go_ret
  exact ⟨rfl, bxt⟩
theorem specReply2 (n u f : Int) (nm tx : ByteArray) (w : World) (g1 : nm.size ≤ 9223372036854775807) (g2 : tx.size ≤ 9223372036854775807) (r : Bool) (Hr : Hid (Tells r (ReplyK 2 n u f nm tx))) :
    Calls Tryd.prog 26 #[.agg #[.int .i64 2, .int .i64 n, .int .i64 u, .int .i64 f, .string nm, .string tx]] w fun e w' => e = .returned (.bool r) ∧ Ext w w' := by
  by_cases hE : (⟨2, n, u, f, nm, tx⟩ : DReply) = (⟨2, n, 0, 0, ⟨#[]⟩, ⟨#[]⟩⟩ : DReply)
  · simp at hE
    obtain ⟨rfl, rfl, rfl, rfl⟩ := hE
    exact specReplyT2 n w r (Lib.hid (Iff.trans Hr.out (by simp [ReplyK])))
  · have h0 : r = false := Hr.out.eq_false (fun h => hE (by simp [ReplyK] at h; simp; simp_all))
    subst h0
    exact specReplyF2 n u f nm tx w hE

set_option maxRecDepth 20000 in
set_option maxHeartbeats 4000000 in
theorem specReplyT3 (n : Int) (u : Int) (f : Int) (w : World) (r : Bool) (Hr : Hid (Tells r ((1 ≤ n ∧ n ≤ 999999999) ∧ (1 ≤ u ∧ u ≤ 999999999) ∧ (0 ≤ f ∧ f ≤ 31) ∧ True))) :
    Calls Tryd.prog 26 #[.agg #[.int .i64 3, .int .i64 n, .int .i64 u, .int .i64 f, .string ⟨#[]⟩, .string ⟨#[]⟩]] w fun e w' => e = .returned (.bool r) ∧ Ext w w' := by
  have hG := eqReplyG
  have hq := fun w => eqReplyB (⟨3, n, u, f, ⟨#[]⟩, ⟨#[]⟩⟩ : DReply) (⟨3, n, u, f, ⟨#[]⟩, ⟨#[]⟩⟩ : DReply) true (by simp) w
  dsimp only at hq
  rcases (by omega : (n < 0) ∨ (n = 0) ∨ (1 ≤ n ∧ n ≤ 999999999) ∨ (999999999 < n)) with cI | cI | cI | cI
  · skip
    try have eI0 : decide (0 ≤ n) = true := decide_eq_true (by omega)
    try have eI0 : decide (0 ≤ n) = false := decide_eq_false (by omega)
    try have eI1 : decide (n ≤ 999999999) = true := decide_eq_true (by omega)
    try have eI1 : decide (n ≤ 999999999) = false := decide_eq_false (by omega)
    try have eI2 : decide (n < 1) = true := decide_eq_true (by omega)
    try have eI2 : decide (n < 1) = false := decide_eq_false (by omega)
    try have eI3 : decide (1 ≤ n) = true := decide_eq_true (by omega)
    try have eI3 : decide (1 ≤ n) = false := decide_eq_false (by omega)
    try have eI4 : decide (n < 0) = true := decide_eq_true (by omega)
    try have eI4 : decide (n < 0) = false := decide_eq_false (by omega)
    have HI := Lib.hid cI
    clear cI
    go_enter Tryd.func26, Tryd.ntmps26
    go_wp2_with (first | (go_at_call 43; refine (l1In_dec _ _ _ _).mono ?_; rintro e w1 ⟨rfl, rfl⟩) | (go_at_call 46; refine (sNumber_dec _ _).mono ?_; rintro e w1 ⟨rfl, rfl⟩) | (go_at_call 47; refine (sFlagsOk_dec _ _).mono ?_; rintro e w1 ⟨rfl, rfl⟩) | (go_at_call 44; refine (l14Named_dec _ _).mono ?_; rintro e w1 ⟨rfl, rfl⟩) | (go_at_call 45; refine (l14Tagged_dec _ _).mono ?_; rintro e w1 ⟨rfl, rfl⟩))
    go_ret
    exact ⟨ret_no Hr.out (fun hn => by have hh := hn.1; have cc := HI.out; omega), bxt⟩
  · skip
    try have eI0 : decide (0 ≤ n) = true := decide_eq_true (by omega)
    try have eI0 : decide (0 ≤ n) = false := decide_eq_false (by omega)
    try have eI1 : decide (n ≤ 999999999) = true := decide_eq_true (by omega)
    try have eI1 : decide (n ≤ 999999999) = false := decide_eq_false (by omega)
    try have eI2 : decide (n < 1) = true := decide_eq_true (by omega)
    try have eI2 : decide (n < 1) = false := decide_eq_false (by omega)
    try have eI3 : decide (1 ≤ n) = true := decide_eq_true (by omega)
    try have eI3 : decide (1 ≤ n) = false := decide_eq_false (by omega)
    try have eI4 : decide (n < 0) = true := decide_eq_true (by omega)
    try have eI4 : decide (n < 0) = false := decide_eq_false (by omega)
    have HI := Lib.hid cI
    clear cI
    go_enter Tryd.func26, Tryd.ntmps26
    go_wp2_with (first | (go_at_call 43; refine (l1In_dec _ _ _ _).mono ?_; rintro e w1 ⟨rfl, rfl⟩) | (go_at_call 46; refine (sNumber_dec _ _).mono ?_; rintro e w1 ⟨rfl, rfl⟩) | (go_at_call 47; refine (sFlagsOk_dec _ _).mono ?_; rintro e w1 ⟨rfl, rfl⟩) | (go_at_call 44; refine (l14Named_dec _ _).mono ?_; rintro e w1 ⟨rfl, rfl⟩) | (go_at_call 45; refine (l14Tagged_dec _ _).mono ?_; rintro e w1 ⟨rfl, rfl⟩))
    go_ret
    exact ⟨ret_no Hr.out (fun hn => by have hh := hn.1; have cc := HI.out; omega), bxt⟩
  · skip
    try have eI0 : decide (0 ≤ n) = true := decide_eq_true (by omega)
    try have eI0 : decide (0 ≤ n) = false := decide_eq_false (by omega)
    try have eI1 : decide (n ≤ 999999999) = true := decide_eq_true (by omega)
    try have eI1 : decide (n ≤ 999999999) = false := decide_eq_false (by omega)
    try have eI2 : decide (n < 1) = true := decide_eq_true (by omega)
    try have eI2 : decide (n < 1) = false := decide_eq_false (by omega)
    try have eI3 : decide (1 ≤ n) = true := decide_eq_true (by omega)
    try have eI3 : decide (1 ≤ n) = false := decide_eq_false (by omega)
    try have eI4 : decide (n < 0) = true := decide_eq_true (by omega)
    try have eI4 : decide (n < 0) = false := decide_eq_false (by omega)
    have HI := Lib.hid cI
    clear cI
    rcases (by omega : (u < 1) ∨ (1 ≤ u ∧ u ≤ 999999999) ∨ (999999999 < u)) with cU | cU | cU
    · skip
      try have eU0 : decide (1 ≤ u) = true := decide_eq_true (by omega)
      try have eU0 : decide (1 ≤ u) = false := decide_eq_false (by omega)
      try have eU1 : decide (u ≤ 999999999) = true := decide_eq_true (by omega)
      try have eU1 : decide (u ≤ 999999999) = false := decide_eq_false (by omega)
      have HU := Lib.hid cU
      clear cU
      go_enter Tryd.func26, Tryd.ntmps26
      go_wp2_with (first | (go_at_call 43; refine (l1In_dec _ _ _ _).mono ?_; rintro e w1 ⟨rfl, rfl⟩) | (go_at_call 46; refine (sNumber_dec _ _).mono ?_; rintro e w1 ⟨rfl, rfl⟩) | (go_at_call 47; refine (sFlagsOk_dec _ _).mono ?_; rintro e w1 ⟨rfl, rfl⟩) | (go_at_call 44; refine (l14Named_dec _ _).mono ?_; rintro e w1 ⟨rfl, rfl⟩) | (go_at_call 45; refine (l14Tagged_dec _ _).mono ?_; rintro e w1 ⟨rfl, rfl⟩))
      go_ret
      exact ⟨ret_no Hr.out (fun hn => by have hh := hn.2.1; have cc := HU.out; omega), bxt⟩
    · skip
      try have eU0 : decide (1 ≤ u) = true := decide_eq_true (by omega)
      try have eU0 : decide (1 ≤ u) = false := decide_eq_false (by omega)
      try have eU1 : decide (u ≤ 999999999) = true := decide_eq_true (by omega)
      try have eU1 : decide (u ≤ 999999999) = false := decide_eq_false (by omega)
      have HU := Lib.hid cU
      clear cU
      rcases (by omega : (f < 0) ∨ (0 ≤ f ∧ f ≤ 31) ∨ (31 < f)) with cF | cF | cF
      · skip
        try have eF0 : decide (0 ≤ f) = true := decide_eq_true (by omega)
        try have eF0 : decide (0 ≤ f) = false := decide_eq_false (by omega)
        try have eF1 : decide (f ≤ 31) = true := decide_eq_true (by omega)
        try have eF1 : decide (f ≤ 31) = false := decide_eq_false (by omega)
        have HF := Lib.hid cF
        clear cF
        go_enter Tryd.func26, Tryd.ntmps26
        go_wp2_with (first | (go_at_call 43; refine (l1In_dec _ _ _ _).mono ?_; rintro e w1 ⟨rfl, rfl⟩) | (go_at_call 46; refine (sNumber_dec _ _).mono ?_; rintro e w1 ⟨rfl, rfl⟩) | (go_at_call 47; refine (sFlagsOk_dec _ _).mono ?_; rintro e w1 ⟨rfl, rfl⟩) | (go_at_call 44; refine (l14Named_dec _ _).mono ?_; rintro e w1 ⟨rfl, rfl⟩) | (go_at_call 45; refine (l14Tagged_dec _ _).mono ?_; rintro e w1 ⟨rfl, rfl⟩))
        go_ret
        exact ⟨ret_no Hr.out (fun hn => by have hh := hn.2.2.1; have cc := HF.out; omega), bxt⟩
      · skip
        try have eF0 : decide (0 ≤ f) = true := decide_eq_true (by omega)
        try have eF0 : decide (0 ≤ f) = false := decide_eq_false (by omega)
        try have eF1 : decide (f ≤ 31) = true := decide_eq_true (by omega)
        try have eF1 : decide (f ≤ 31) = false := decide_eq_false (by omega)
        have HF := Lib.hid cF
        clear cF
        go_enter Tryd.func26, Tryd.ntmps26
        go_wp2_with (first | (go_at_call 43; refine (l1In_dec _ _ _ _).mono ?_; rintro e w1 ⟨rfl, rfl⟩) | (go_at_call 46; refine (sNumber_dec _ _).mono ?_; rintro e w1 ⟨rfl, rfl⟩) | (go_at_call 47; refine (sFlagsOk_dec _ _).mono ?_; rintro e w1 ⟨rfl, rfl⟩) | (go_at_call 44; refine (l14Named_dec _ _).mono ?_; rintro e w1 ⟨rfl, rfl⟩) | (go_at_call 45; refine (l14Tagged_dec _ _).mono ?_; rintro e w1 ⟨rfl, rfl⟩))
        go_ret
        exact ⟨ret_yes Hr.out ⟨HI.out, HU.out, HF.out, trivial⟩, bxt⟩
      · skip
        try have eF0 : decide (0 ≤ f) = true := decide_eq_true (by omega)
        try have eF0 : decide (0 ≤ f) = false := decide_eq_false (by omega)
        try have eF1 : decide (f ≤ 31) = true := decide_eq_true (by omega)
        try have eF1 : decide (f ≤ 31) = false := decide_eq_false (by omega)
        have HF := Lib.hid cF
        clear cF
        go_enter Tryd.func26, Tryd.ntmps26
        go_wp2_with (first | (go_at_call 43; refine (l1In_dec _ _ _ _).mono ?_; rintro e w1 ⟨rfl, rfl⟩) | (go_at_call 46; refine (sNumber_dec _ _).mono ?_; rintro e w1 ⟨rfl, rfl⟩) | (go_at_call 47; refine (sFlagsOk_dec _ _).mono ?_; rintro e w1 ⟨rfl, rfl⟩) | (go_at_call 44; refine (l14Named_dec _ _).mono ?_; rintro e w1 ⟨rfl, rfl⟩) | (go_at_call 45; refine (l14Tagged_dec _ _).mono ?_; rintro e w1 ⟨rfl, rfl⟩))
        go_ret
        exact ⟨ret_no Hr.out (fun hn => by have hh := hn.2.2.1; have cc := HF.out; omega), bxt⟩
    · skip
      try have eU0 : decide (1 ≤ u) = true := decide_eq_true (by omega)
      try have eU0 : decide (1 ≤ u) = false := decide_eq_false (by omega)
      try have eU1 : decide (u ≤ 999999999) = true := decide_eq_true (by omega)
      try have eU1 : decide (u ≤ 999999999) = false := decide_eq_false (by omega)
      have HU := Lib.hid cU
      clear cU
      go_enter Tryd.func26, Tryd.ntmps26
      go_wp2_with (first | (go_at_call 43; refine (l1In_dec _ _ _ _).mono ?_; rintro e w1 ⟨rfl, rfl⟩) | (go_at_call 46; refine (sNumber_dec _ _).mono ?_; rintro e w1 ⟨rfl, rfl⟩) | (go_at_call 47; refine (sFlagsOk_dec _ _).mono ?_; rintro e w1 ⟨rfl, rfl⟩) | (go_at_call 44; refine (l14Named_dec _ _).mono ?_; rintro e w1 ⟨rfl, rfl⟩) | (go_at_call 45; refine (l14Tagged_dec _ _).mono ?_; rintro e w1 ⟨rfl, rfl⟩))
      go_ret
      exact ⟨ret_no Hr.out (fun hn => by have hh := hn.2.1; have cc := HU.out; omega), bxt⟩
  · skip
    try have eI0 : decide (0 ≤ n) = true := decide_eq_true (by omega)
    try have eI0 : decide (0 ≤ n) = false := decide_eq_false (by omega)
    try have eI1 : decide (n ≤ 999999999) = true := decide_eq_true (by omega)
    try have eI1 : decide (n ≤ 999999999) = false := decide_eq_false (by omega)
    try have eI2 : decide (n < 1) = true := decide_eq_true (by omega)
    try have eI2 : decide (n < 1) = false := decide_eq_false (by omega)
    try have eI3 : decide (1 ≤ n) = true := decide_eq_true (by omega)
    try have eI3 : decide (1 ≤ n) = false := decide_eq_false (by omega)
    try have eI4 : decide (n < 0) = true := decide_eq_true (by omega)
    try have eI4 : decide (n < 0) = false := decide_eq_false (by omega)
    have HI := Lib.hid cI
    clear cI
    go_enter Tryd.func26, Tryd.ntmps26
    go_wp2_with (first | (go_at_call 43; refine (l1In_dec _ _ _ _).mono ?_; rintro e w1 ⟨rfl, rfl⟩) | (go_at_call 46; refine (sNumber_dec _ _).mono ?_; rintro e w1 ⟨rfl, rfl⟩) | (go_at_call 47; refine (sFlagsOk_dec _ _).mono ?_; rintro e w1 ⟨rfl, rfl⟩) | (go_at_call 44; refine (l14Named_dec _ _).mono ?_; rintro e w1 ⟨rfl, rfl⟩) | (go_at_call 45; refine (l14Tagged_dec _ _).mono ?_; rintro e w1 ⟨rfl, rfl⟩))
    go_ret
    exact ⟨ret_no Hr.out (fun hn => by have hh := hn.1; have cc := HI.out; omega), bxt⟩

set_option maxHeartbeats 4000000 in
theorem specReplyF3 (n u f : Int) (nm tx : ByteArray) (w : World) (hE : ¬ (⟨3, n, u, f, nm, tx⟩ : DReply) = (⟨3, n, u, f, ⟨#[]⟩, ⟨#[]⟩⟩ : DReply)) :
    Calls Tryd.prog 26 #[.agg #[.int .i64 3, .int .i64 n, .int .i64 u, .int .i64 f, .string nm, .string tx]] w fun e w' => e = .returned (.bool false) ∧ Ext w w' := by
  have hG := eqReplyG
  have hq := fun w => eqReplyB (⟨3, n, u, f, nm, tx⟩ : DReply) (⟨3, n, u, f, ⟨#[]⟩, ⟨#[]⟩⟩ : DReply) false (decide_eq_false hE) w
  dsimp only at hq
  clear hE
  go_enter Tryd.func26, Tryd.ntmps26
  go_wp2_with (first | (go_at_call 43; refine (l1In_dec _ _ _ _).mono ?_; rintro e w1 ⟨rfl, rfl⟩) | (go_at_call 46; refine (sNumber_dec _ _).mono ?_; rintro e w1 ⟨rfl, rfl⟩) | (go_at_call 47; refine (sFlagsOk_dec _ _).mono ?_; rintro e w1 ⟨rfl, rfl⟩) | (go_at_call 44; refine (l14Named_dec _ _).mono ?_; rintro e w1 ⟨rfl, rfl⟩) | (go_at_call 45; refine (l14Tagged_dec _ _).mono ?_; rintro e w1 ⟨rfl, rfl⟩))
  go_ret
  exact ⟨rfl, bxt⟩
theorem specReply3 (n u f : Int) (nm tx : ByteArray) (w : World) (g1 : nm.size ≤ 9223372036854775807) (g2 : tx.size ≤ 9223372036854775807) (r : Bool) (Hr : Hid (Tells r (ReplyK 3 n u f nm tx))) :
    Calls Tryd.prog 26 #[.agg #[.int .i64 3, .int .i64 n, .int .i64 u, .int .i64 f, .string nm, .string tx]] w fun e w' => e = .returned (.bool r) ∧ Ext w w' := by
  by_cases hE : (⟨3, n, u, f, nm, tx⟩ : DReply) = (⟨3, n, u, f, ⟨#[]⟩, ⟨#[]⟩⟩ : DReply)
  · simp at hE
    obtain ⟨rfl, rfl⟩ := hE
    exact specReplyT3 n u f w r (Lib.hid (Iff.trans Hr.out (by simp [ReplyK])))
  · have h0 : r = false := Hr.out.eq_false (fun h => hE (by simp [ReplyK] at h; simp; simp_all))
    subst h0
    exact specReplyF3 n u f nm tx w hE

set_option maxRecDepth 20000 in
set_option maxHeartbeats 4000000 in
theorem specReplyT4 (n : Int) (tx : ByteArray) (w : World) (g2 : tx.size ≤ 9223372036854775807) (r : Bool) (Hr : Hid (Tells r ((1 ≤ n ∧ n ≤ 999999999) ∧ (tx.size ≤ 40) ∧ True))) :
    Calls Tryd.prog 26 #[.agg #[.int .i64 4, .int .i64 n, .int .i64 0, .int .i64 0, .string ⟨#[]⟩, .string tx]] w fun e w' => e = .returned (.bool r) ∧ Ext w w' := by
  have hG := eqReplyG
  have hq := fun w => eqReplyB (⟨4, n, 0, 0, ⟨#[]⟩, tx⟩ : DReply) (⟨4, n, 0, 0, ⟨#[]⟩, tx⟩ : DReply) true (by simp) w
  dsimp only at hq
  rcases (by omega : (n < 0) ∨ (n = 0) ∨ (1 ≤ n ∧ n ≤ 999999999) ∨ (999999999 < n)) with cI | cI | cI | cI
  · skip
    try have eI0 : decide (0 ≤ n) = true := decide_eq_true (by omega)
    try have eI0 : decide (0 ≤ n) = false := decide_eq_false (by omega)
    try have eI1 : decide (n ≤ 999999999) = true := decide_eq_true (by omega)
    try have eI1 : decide (n ≤ 999999999) = false := decide_eq_false (by omega)
    try have eI2 : decide (n < 1) = true := decide_eq_true (by omega)
    try have eI2 : decide (n < 1) = false := decide_eq_false (by omega)
    try have eI3 : decide (1 ≤ n) = true := decide_eq_true (by omega)
    try have eI3 : decide (1 ≤ n) = false := decide_eq_false (by omega)
    try have eI4 : decide (n < 0) = true := decide_eq_true (by omega)
    try have eI4 : decide (n < 0) = false := decide_eq_false (by omega)
    have HI := Lib.hid cI
    clear cI
    go_enter Tryd.func26, Tryd.ntmps26
    go_wp2_with (first | (go_at_call 43; refine (l1In_dec _ _ _ _).mono ?_; rintro e w1 ⟨rfl, rfl⟩) | (go_at_call 46; refine (sNumber_dec _ _).mono ?_; rintro e w1 ⟨rfl, rfl⟩) | (go_at_call 47; refine (sFlagsOk_dec _ _).mono ?_; rintro e w1 ⟨rfl, rfl⟩) | (go_at_call 44; refine (l14Named_dec _ _).mono ?_; rintro e w1 ⟨rfl, rfl⟩) | (go_at_call 45; refine (l14Tagged_dec _ _).mono ?_; rintro e w1 ⟨rfl, rfl⟩))
    go_ret
    exact ⟨ret_no Hr.out (fun hn => by have hh := hn.1; have cc := HI.out; omega), bxt⟩
  · skip
    try have eI0 : decide (0 ≤ n) = true := decide_eq_true (by omega)
    try have eI0 : decide (0 ≤ n) = false := decide_eq_false (by omega)
    try have eI1 : decide (n ≤ 999999999) = true := decide_eq_true (by omega)
    try have eI1 : decide (n ≤ 999999999) = false := decide_eq_false (by omega)
    try have eI2 : decide (n < 1) = true := decide_eq_true (by omega)
    try have eI2 : decide (n < 1) = false := decide_eq_false (by omega)
    try have eI3 : decide (1 ≤ n) = true := decide_eq_true (by omega)
    try have eI3 : decide (1 ≤ n) = false := decide_eq_false (by omega)
    try have eI4 : decide (n < 0) = true := decide_eq_true (by omega)
    try have eI4 : decide (n < 0) = false := decide_eq_false (by omega)
    have HI := Lib.hid cI
    clear cI
    go_enter Tryd.func26, Tryd.ntmps26
    go_wp2_with (first | (go_at_call 43; refine (l1In_dec _ _ _ _).mono ?_; rintro e w1 ⟨rfl, rfl⟩) | (go_at_call 46; refine (sNumber_dec _ _).mono ?_; rintro e w1 ⟨rfl, rfl⟩) | (go_at_call 47; refine (sFlagsOk_dec _ _).mono ?_; rintro e w1 ⟨rfl, rfl⟩) | (go_at_call 44; refine (l14Named_dec _ _).mono ?_; rintro e w1 ⟨rfl, rfl⟩) | (go_at_call 45; refine (l14Tagged_dec _ _).mono ?_; rintro e w1 ⟨rfl, rfl⟩))
    go_ret
    exact ⟨ret_no Hr.out (fun hn => by have hh := hn.1; have cc := HI.out; omega), bxt⟩
  · skip
    try have eI0 : decide (0 ≤ n) = true := decide_eq_true (by omega)
    try have eI0 : decide (0 ≤ n) = false := decide_eq_false (by omega)
    try have eI1 : decide (n ≤ 999999999) = true := decide_eq_true (by omega)
    try have eI1 : decide (n ≤ 999999999) = false := decide_eq_false (by omega)
    try have eI2 : decide (n < 1) = true := decide_eq_true (by omega)
    try have eI2 : decide (n < 1) = false := decide_eq_false (by omega)
    try have eI3 : decide (1 ≤ n) = true := decide_eq_true (by omega)
    try have eI3 : decide (1 ≤ n) = false := decide_eq_false (by omega)
    try have eI4 : decide (n < 0) = true := decide_eq_true (by omega)
    try have eI4 : decide (n < 0) = false := decide_eq_false (by omega)
    have HI := Lib.hid cI
    clear cI
    rcases (by omega : (tx.size ≤ 40) ∨ (40 < tx.size)) with cT | cT
    · skip
      try have eT0 : decide ((tx.size : Int) ≤ 40) = true := decide_eq_true (by omega)
      try have eT0 : decide ((tx.size : Int) ≤ 40) = false := decide_eq_false (by omega)
      try have eT1 : decide ((40 : Int) < (tx.size : Int)) = true := decide_eq_true (by omega)
      try have eT1 : decide ((40 : Int) < (tx.size : Int)) = false := decide_eq_false (by omega)
      have HT := Lib.hid cT
      clear cT
      go_enter Tryd.func26, Tryd.ntmps26
      go_wp2_with (first | (go_at_call 43; refine (l1In_dec _ _ _ _).mono ?_; rintro e w1 ⟨rfl, rfl⟩) | (go_at_call 46; refine (sNumber_dec _ _).mono ?_; rintro e w1 ⟨rfl, rfl⟩) | (go_at_call 47; refine (sFlagsOk_dec _ _).mono ?_; rintro e w1 ⟨rfl, rfl⟩) | (go_at_call 44; refine (l14Named_dec _ _).mono ?_; rintro e w1 ⟨rfl, rfl⟩) | (go_at_call 45; refine (l14Tagged_dec _ _).mono ?_; rintro e w1 ⟨rfl, rfl⟩))
      go_ret
      exact ⟨ret_yes Hr.out ⟨HI.out, HT.out, trivial⟩, bxt⟩
    · skip
      try have eT0 : decide ((tx.size : Int) ≤ 40) = true := decide_eq_true (by omega)
      try have eT0 : decide ((tx.size : Int) ≤ 40) = false := decide_eq_false (by omega)
      try have eT1 : decide ((40 : Int) < (tx.size : Int)) = true := decide_eq_true (by omega)
      try have eT1 : decide ((40 : Int) < (tx.size : Int)) = false := decide_eq_false (by omega)
      have HT := Lib.hid cT
      clear cT
      go_enter Tryd.func26, Tryd.ntmps26
      go_wp2_with (first | (go_at_call 43; refine (l1In_dec _ _ _ _).mono ?_; rintro e w1 ⟨rfl, rfl⟩) | (go_at_call 46; refine (sNumber_dec _ _).mono ?_; rintro e w1 ⟨rfl, rfl⟩) | (go_at_call 47; refine (sFlagsOk_dec _ _).mono ?_; rintro e w1 ⟨rfl, rfl⟩) | (go_at_call 44; refine (l14Named_dec _ _).mono ?_; rintro e w1 ⟨rfl, rfl⟩) | (go_at_call 45; refine (l14Tagged_dec _ _).mono ?_; rintro e w1 ⟨rfl, rfl⟩))
      go_ret
      exact ⟨ret_no Hr.out (fun hn => by have hh := hn.2.1; have cc := HT.out; omega), bxt⟩
  · skip
    try have eI0 : decide (0 ≤ n) = true := decide_eq_true (by omega)
    try have eI0 : decide (0 ≤ n) = false := decide_eq_false (by omega)
    try have eI1 : decide (n ≤ 999999999) = true := decide_eq_true (by omega)
    try have eI1 : decide (n ≤ 999999999) = false := decide_eq_false (by omega)
    try have eI2 : decide (n < 1) = true := decide_eq_true (by omega)
    try have eI2 : decide (n < 1) = false := decide_eq_false (by omega)
    try have eI3 : decide (1 ≤ n) = true := decide_eq_true (by omega)
    try have eI3 : decide (1 ≤ n) = false := decide_eq_false (by omega)
    try have eI4 : decide (n < 0) = true := decide_eq_true (by omega)
    try have eI4 : decide (n < 0) = false := decide_eq_false (by omega)
    have HI := Lib.hid cI
    clear cI
    go_enter Tryd.func26, Tryd.ntmps26
    go_wp2_with (first | (go_at_call 43; refine (l1In_dec _ _ _ _).mono ?_; rintro e w1 ⟨rfl, rfl⟩) | (go_at_call 46; refine (sNumber_dec _ _).mono ?_; rintro e w1 ⟨rfl, rfl⟩) | (go_at_call 47; refine (sFlagsOk_dec _ _).mono ?_; rintro e w1 ⟨rfl, rfl⟩) | (go_at_call 44; refine (l14Named_dec _ _).mono ?_; rintro e w1 ⟨rfl, rfl⟩) | (go_at_call 45; refine (l14Tagged_dec _ _).mono ?_; rintro e w1 ⟨rfl, rfl⟩))
    go_ret
    exact ⟨ret_no Hr.out (fun hn => by have hh := hn.1; have cc := HI.out; omega), bxt⟩

set_option maxHeartbeats 4000000 in
theorem specReplyF4 (n u f : Int) (nm tx : ByteArray) (w : World) (hE : ¬ (⟨4, n, u, f, nm, tx⟩ : DReply) = (⟨4, n, 0, 0, ⟨#[]⟩, tx⟩ : DReply)) :
    Calls Tryd.prog 26 #[.agg #[.int .i64 4, .int .i64 n, .int .i64 u, .int .i64 f, .string nm, .string tx]] w fun e w' => e = .returned (.bool false) ∧ Ext w w' := by
  have hG := eqReplyG
  have hq := fun w => eqReplyB (⟨4, n, u, f, nm, tx⟩ : DReply) (⟨4, n, 0, 0, ⟨#[]⟩, tx⟩ : DReply) false (decide_eq_false hE) w
  dsimp only at hq
  clear hE
  go_enter Tryd.func26, Tryd.ntmps26
  go_wp2_with (first | (go_at_call 43; refine (l1In_dec _ _ _ _).mono ?_; rintro e w1 ⟨rfl, rfl⟩) | (go_at_call 46; refine (sNumber_dec _ _).mono ?_; rintro e w1 ⟨rfl, rfl⟩) | (go_at_call 47; refine (sFlagsOk_dec _ _).mono ?_; rintro e w1 ⟨rfl, rfl⟩) | (go_at_call 44; refine (l14Named_dec _ _).mono ?_; rintro e w1 ⟨rfl, rfl⟩) | (go_at_call 45; refine (l14Tagged_dec _ _).mono ?_; rintro e w1 ⟨rfl, rfl⟩))
  go_ret
  exact ⟨rfl, bxt⟩
theorem specReply4 (n u f : Int) (nm tx : ByteArray) (w : World) (g1 : nm.size ≤ 9223372036854775807) (g2 : tx.size ≤ 9223372036854775807) (r : Bool) (Hr : Hid (Tells r (ReplyK 4 n u f nm tx))) :
    Calls Tryd.prog 26 #[.agg #[.int .i64 4, .int .i64 n, .int .i64 u, .int .i64 f, .string nm, .string tx]] w fun e w' => e = .returned (.bool r) ∧ Ext w w' := by
  by_cases hE : (⟨4, n, u, f, nm, tx⟩ : DReply) = (⟨4, n, 0, 0, ⟨#[]⟩, tx⟩ : DReply)
  · simp at hE
    obtain ⟨rfl, rfl, rfl⟩ := hE
    exact specReplyT4 n tx w g2 r (Lib.hid (Iff.trans Hr.out (by simp [ReplyK])))
  · have h0 : r = false := Hr.out.eq_false (fun h => hE (by simp [ReplyK] at h; simp; simp_all))
    subst h0
    exact specReplyF4 n u f nm tx w hE

set_option maxRecDepth 20000 in
set_option maxHeartbeats 4000000 in
theorem specReplyT5 (n : Int) (u : Int) (nm : ByteArray) (w : World) (g1 : nm.size ≤ 9223372036854775807) (r : Bool) (Hr : Hid (Tells r ((0 ≤ n ∧ n ≤ 999999999) ∧ (1 ≤ u ∧ u ≤ 999999999) ∧ (NameP nm) ∧ True))) :
    Calls Tryd.prog 26 #[.agg #[.int .i64 5, .int .i64 n, .int .i64 u, .int .i64 0, .string nm, .string ⟨#[]⟩]] w fun e w' => e = .returned (.bool r) ∧ Ext w w' := by
  have hG := eqReplyG
  have hq := fun w => eqReplyB (⟨5, n, u, 0, nm, ⟨#[]⟩⟩ : DReply) (⟨5, n, u, 0, nm, ⟨#[]⟩⟩ : DReply) true (by simp) w
  dsimp only at hq
  rcases (by omega : (n < 0) ∨ (0 ≤ n ∧ n ≤ 999999999) ∨ (999999999 < n)) with cN | cN | cN
  · skip
    try have eN0 : decide (0 ≤ n) = true := decide_eq_true (by omega)
    try have eN0 : decide (0 ≤ n) = false := decide_eq_false (by omega)
    try have eN1 : decide (n ≤ 999999999) = true := decide_eq_true (by omega)
    try have eN1 : decide (n ≤ 999999999) = false := decide_eq_false (by omega)
    try have eN2 : decide (n < 0) = true := decide_eq_true (by omega)
    try have eN2 : decide (n < 0) = false := decide_eq_false (by omega)
    try have eN3 : decide (1 ≤ n) = true := decide_eq_true (by omega)
    try have eN3 : decide (1 ≤ n) = false := decide_eq_false (by omega)
    try have eN4 : decide (n < 1) = true := decide_eq_true (by omega)
    try have eN4 : decide (n < 1) = false := decide_eq_false (by omega)
    have HN := Lib.hid cN
    clear cN
    go_enter Tryd.func26, Tryd.ntmps26
    go_wp2_with (first | (go_at_call 43; refine (l1In_dec _ _ _ _).mono ?_; rintro e w1 ⟨rfl, rfl⟩) | (go_at_call 46; refine (sNumber_dec _ _).mono ?_; rintro e w1 ⟨rfl, rfl⟩) | (go_at_call 47; refine (sFlagsOk_dec _ _).mono ?_; rintro e w1 ⟨rfl, rfl⟩) | (go_at_call 44; refine (l14Named_dec _ _).mono ?_; rintro e w1 ⟨rfl, rfl⟩) | (go_at_call 45; refine (l14Tagged_dec _ _).mono ?_; rintro e w1 ⟨rfl, rfl⟩) | (go_at_call 48; refine (specNameOk_any nm _ g1 _ HNm).mono ?_; rintro e w1 ⟨rfl, rfl⟩))
    go_ret
    exact ⟨ret_no Hr.out (fun hn => by have hh := hn.1; have cc := HN.out; omega), bxt⟩
  · skip
    try have eN0 : decide (0 ≤ n) = true := decide_eq_true (by omega)
    try have eN0 : decide (0 ≤ n) = false := decide_eq_false (by omega)
    try have eN1 : decide (n ≤ 999999999) = true := decide_eq_true (by omega)
    try have eN1 : decide (n ≤ 999999999) = false := decide_eq_false (by omega)
    try have eN2 : decide (n < 0) = true := decide_eq_true (by omega)
    try have eN2 : decide (n < 0) = false := decide_eq_false (by omega)
    try have eN3 : decide (1 ≤ n) = true := decide_eq_true (by omega)
    try have eN3 : decide (1 ≤ n) = false := decide_eq_false (by omega)
    try have eN4 : decide (n < 1) = true := decide_eq_true (by omega)
    try have eN4 : decide (n < 1) = false := decide_eq_false (by omega)
    have HN := Lib.hid cN
    clear cN
    rcases (by omega : (u < 1) ∨ (1 ≤ u ∧ u ≤ 999999999) ∨ (999999999 < u)) with cU | cU | cU
    · skip
      try have eU0 : decide (1 ≤ u) = true := decide_eq_true (by omega)
      try have eU0 : decide (1 ≤ u) = false := decide_eq_false (by omega)
      try have eU1 : decide (u ≤ 999999999) = true := decide_eq_true (by omega)
      try have eU1 : decide (u ≤ 999999999) = false := decide_eq_false (by omega)
      have HU := Lib.hid cU
      clear cU
      go_enter Tryd.func26, Tryd.ntmps26
      go_wp2_with (first | (go_at_call 43; refine (l1In_dec _ _ _ _).mono ?_; rintro e w1 ⟨rfl, rfl⟩) | (go_at_call 46; refine (sNumber_dec _ _).mono ?_; rintro e w1 ⟨rfl, rfl⟩) | (go_at_call 47; refine (sFlagsOk_dec _ _).mono ?_; rintro e w1 ⟨rfl, rfl⟩) | (go_at_call 44; refine (l14Named_dec _ _).mono ?_; rintro e w1 ⟨rfl, rfl⟩) | (go_at_call 45; refine (l14Tagged_dec _ _).mono ?_; rintro e w1 ⟨rfl, rfl⟩) | (go_at_call 48; refine (specNameOk_any nm _ g1 _ HNm).mono ?_; rintro e w1 ⟨rfl, rfl⟩))
      go_ret
      exact ⟨ret_no Hr.out (fun hn => by have hh := hn.2.1; have cc := HU.out; omega), bxt⟩
    · skip
      try have eU0 : decide (1 ≤ u) = true := decide_eq_true (by omega)
      try have eU0 : decide (1 ≤ u) = false := decide_eq_false (by omega)
      try have eU1 : decide (u ≤ 999999999) = true := decide_eq_true (by omega)
      try have eU1 : decide (u ≤ 999999999) = false := decide_eq_false (by omega)
      have HU := Lib.hid cU
      clear cU
      obtain ⟨d, hd⟩ := boolOf (NameP nm)
      have HNm := Lib.hid hd
      clear hd
      cases d
      · go_enter Tryd.func26, Tryd.ntmps26
        go_wp2_with (first | (go_at_call 43; refine (l1In_dec _ _ _ _).mono ?_; rintro e w1 ⟨rfl, rfl⟩) | (go_at_call 46; refine (sNumber_dec _ _).mono ?_; rintro e w1 ⟨rfl, rfl⟩) | (go_at_call 47; refine (sFlagsOk_dec _ _).mono ?_; rintro e w1 ⟨rfl, rfl⟩) | (go_at_call 44; refine (l14Named_dec _ _).mono ?_; rintro e w1 ⟨rfl, rfl⟩) | (go_at_call 45; refine (l14Tagged_dec _ _).mono ?_; rintro e w1 ⟨rfl, rfl⟩) | (go_at_call 48; refine (specNameOk_any nm _ g1 _ HNm).mono ?_; rintro e w1 ⟨rfl, rfl⟩))
        go_ret
        exact ⟨ret_no Hr.out (fun hn => no_of HNm.out hn.2.2.1), bxt⟩
      · skip
        go_enter Tryd.func26, Tryd.ntmps26
        go_wp2_with (first | (go_at_call 43; refine (l1In_dec _ _ _ _).mono ?_; rintro e w1 ⟨rfl, rfl⟩) | (go_at_call 46; refine (sNumber_dec _ _).mono ?_; rintro e w1 ⟨rfl, rfl⟩) | (go_at_call 47; refine (sFlagsOk_dec _ _).mono ?_; rintro e w1 ⟨rfl, rfl⟩) | (go_at_call 44; refine (l14Named_dec _ _).mono ?_; rintro e w1 ⟨rfl, rfl⟩) | (go_at_call 45; refine (l14Tagged_dec _ _).mono ?_; rintro e w1 ⟨rfl, rfl⟩) | (go_at_call 48; refine (specNameOk_any nm _ g1 _ HNm).mono ?_; rintro e w1 ⟨rfl, rfl⟩))
        go_ret
        exact ⟨ret_yes Hr.out ⟨HN.out, HU.out, yes_of HNm.out, trivial⟩, bxt⟩
    · skip
      try have eU0 : decide (1 ≤ u) = true := decide_eq_true (by omega)
      try have eU0 : decide (1 ≤ u) = false := decide_eq_false (by omega)
      try have eU1 : decide (u ≤ 999999999) = true := decide_eq_true (by omega)
      try have eU1 : decide (u ≤ 999999999) = false := decide_eq_false (by omega)
      have HU := Lib.hid cU
      clear cU
      go_enter Tryd.func26, Tryd.ntmps26
      go_wp2_with (first | (go_at_call 43; refine (l1In_dec _ _ _ _).mono ?_; rintro e w1 ⟨rfl, rfl⟩) | (go_at_call 46; refine (sNumber_dec _ _).mono ?_; rintro e w1 ⟨rfl, rfl⟩) | (go_at_call 47; refine (sFlagsOk_dec _ _).mono ?_; rintro e w1 ⟨rfl, rfl⟩) | (go_at_call 44; refine (l14Named_dec _ _).mono ?_; rintro e w1 ⟨rfl, rfl⟩) | (go_at_call 45; refine (l14Tagged_dec _ _).mono ?_; rintro e w1 ⟨rfl, rfl⟩) | (go_at_call 48; refine (specNameOk_any nm _ g1 _ HNm).mono ?_; rintro e w1 ⟨rfl, rfl⟩))
      go_ret
      exact ⟨ret_no Hr.out (fun hn => by have hh := hn.2.1; have cc := HU.out; omega), bxt⟩
  · skip
    try have eN0 : decide (0 ≤ n) = true := decide_eq_true (by omega)
    try have eN0 : decide (0 ≤ n) = false := decide_eq_false (by omega)
    try have eN1 : decide (n ≤ 999999999) = true := decide_eq_true (by omega)
    try have eN1 : decide (n ≤ 999999999) = false := decide_eq_false (by omega)
    try have eN2 : decide (n < 0) = true := decide_eq_true (by omega)
    try have eN2 : decide (n < 0) = false := decide_eq_false (by omega)
    try have eN3 : decide (1 ≤ n) = true := decide_eq_true (by omega)
    try have eN3 : decide (1 ≤ n) = false := decide_eq_false (by omega)
    try have eN4 : decide (n < 1) = true := decide_eq_true (by omega)
    try have eN4 : decide (n < 1) = false := decide_eq_false (by omega)
    have HN := Lib.hid cN
    clear cN
    go_enter Tryd.func26, Tryd.ntmps26
    go_wp2_with (first | (go_at_call 43; refine (l1In_dec _ _ _ _).mono ?_; rintro e w1 ⟨rfl, rfl⟩) | (go_at_call 46; refine (sNumber_dec _ _).mono ?_; rintro e w1 ⟨rfl, rfl⟩) | (go_at_call 47; refine (sFlagsOk_dec _ _).mono ?_; rintro e w1 ⟨rfl, rfl⟩) | (go_at_call 44; refine (l14Named_dec _ _).mono ?_; rintro e w1 ⟨rfl, rfl⟩) | (go_at_call 45; refine (l14Tagged_dec _ _).mono ?_; rintro e w1 ⟨rfl, rfl⟩) | (go_at_call 48; refine (specNameOk_any nm _ g1 _ HNm).mono ?_; rintro e w1 ⟨rfl, rfl⟩))
    go_ret
    exact ⟨ret_no Hr.out (fun hn => by have hh := hn.1; have cc := HN.out; omega), bxt⟩

set_option maxHeartbeats 4000000 in
theorem specReplyF5 (n u f : Int) (nm tx : ByteArray) (w : World) (hE : ¬ (⟨5, n, u, f, nm, tx⟩ : DReply) = (⟨5, n, u, 0, nm, ⟨#[]⟩⟩ : DReply)) :
    Calls Tryd.prog 26 #[.agg #[.int .i64 5, .int .i64 n, .int .i64 u, .int .i64 f, .string nm, .string tx]] w fun e w' => e = .returned (.bool false) ∧ Ext w w' := by
  have hG := eqReplyG
  have hq := fun w => eqReplyB (⟨5, n, u, f, nm, tx⟩ : DReply) (⟨5, n, u, 0, nm, ⟨#[]⟩⟩ : DReply) false (decide_eq_false hE) w
  dsimp only at hq
  clear hE
  go_enter Tryd.func26, Tryd.ntmps26
  go_wp2_with (first | (go_at_call 43; refine (l1In_dec _ _ _ _).mono ?_; rintro e w1 ⟨rfl, rfl⟩) | (go_at_call 46; refine (sNumber_dec _ _).mono ?_; rintro e w1 ⟨rfl, rfl⟩) | (go_at_call 47; refine (sFlagsOk_dec _ _).mono ?_; rintro e w1 ⟨rfl, rfl⟩) | (go_at_call 44; refine (l14Named_dec _ _).mono ?_; rintro e w1 ⟨rfl, rfl⟩) | (go_at_call 45; refine (l14Tagged_dec _ _).mono ?_; rintro e w1 ⟨rfl, rfl⟩))
  go_ret
  exact ⟨rfl, bxt⟩
theorem specReply5 (n u f : Int) (nm tx : ByteArray) (w : World) (g1 : nm.size ≤ 9223372036854775807) (g2 : tx.size ≤ 9223372036854775807) (r : Bool) (Hr : Hid (Tells r (ReplyK 5 n u f nm tx))) :
    Calls Tryd.prog 26 #[.agg #[.int .i64 5, .int .i64 n, .int .i64 u, .int .i64 f, .string nm, .string tx]] w fun e w' => e = .returned (.bool r) ∧ Ext w w' := by
  by_cases hE : (⟨5, n, u, f, nm, tx⟩ : DReply) = (⟨5, n, u, 0, nm, ⟨#[]⟩⟩ : DReply)
  · simp at hE
    obtain ⟨rfl, rfl⟩ := hE
    exact specReplyT5 n u nm w g1 r (Lib.hid (Iff.trans Hr.out (by simp [ReplyK])))
  · have h0 : r = false := Hr.out.eq_false (fun h => hE (by simp [ReplyK] at h; simp; simp_all))
    subst h0
    exact specReplyF5 n u f nm tx w hE

set_option maxRecDepth 20000 in
set_option maxHeartbeats 4000000 in
theorem specReplyT6 (nm : ByteArray) (w : World) (g1 : nm.size ≤ 9223372036854775807) (r : Bool) (Hr : Hid (Tells r ((NameP nm) ∧ True))) :
    Calls Tryd.prog 26 #[.agg #[.int .i64 6, .int .i64 0, .int .i64 0, .int .i64 0, .string nm, .string ⟨#[]⟩]] w fun e w' => e = .returned (.bool r) ∧ Ext w w' := by
  have hG := eqReplyG
  have hq := fun w => eqReplyB (⟨6, 0, 0, 0, nm, ⟨#[]⟩⟩ : DReply) (⟨6, 0, 0, 0, nm, ⟨#[]⟩⟩ : DReply) true (by simp) w
  dsimp only at hq
  obtain ⟨d, hd⟩ := boolOf (NameP nm)
  have HNm := Lib.hid hd
  clear hd
  cases d
  · go_enter Tryd.func26, Tryd.ntmps26
    go_wp2_with (first | (go_at_call 43; refine (l1In_dec _ _ _ _).mono ?_; rintro e w1 ⟨rfl, rfl⟩) | (go_at_call 46; refine (sNumber_dec _ _).mono ?_; rintro e w1 ⟨rfl, rfl⟩) | (go_at_call 47; refine (sFlagsOk_dec _ _).mono ?_; rintro e w1 ⟨rfl, rfl⟩) | (go_at_call 44; refine (l14Named_dec _ _).mono ?_; rintro e w1 ⟨rfl, rfl⟩) | (go_at_call 45; refine (l14Tagged_dec _ _).mono ?_; rintro e w1 ⟨rfl, rfl⟩) | (go_at_call 48; refine (specNameOk_any nm _ g1 _ HNm).mono ?_; rintro e w1 ⟨rfl, rfl⟩))
    go_ret
    exact ⟨ret_no Hr.out (fun hn => no_of HNm.out hn.1), bxt⟩
  · skip
    go_enter Tryd.func26, Tryd.ntmps26
    go_wp2_with (first | (go_at_call 43; refine (l1In_dec _ _ _ _).mono ?_; rintro e w1 ⟨rfl, rfl⟩) | (go_at_call 46; refine (sNumber_dec _ _).mono ?_; rintro e w1 ⟨rfl, rfl⟩) | (go_at_call 47; refine (sFlagsOk_dec _ _).mono ?_; rintro e w1 ⟨rfl, rfl⟩) | (go_at_call 44; refine (l14Named_dec _ _).mono ?_; rintro e w1 ⟨rfl, rfl⟩) | (go_at_call 45; refine (l14Tagged_dec _ _).mono ?_; rintro e w1 ⟨rfl, rfl⟩) | (go_at_call 48; refine (specNameOk_any nm _ g1 _ HNm).mono ?_; rintro e w1 ⟨rfl, rfl⟩))
    go_ret
    exact ⟨ret_yes Hr.out ⟨yes_of HNm.out, trivial⟩, bxt⟩

set_option maxHeartbeats 4000000 in
theorem specReplyF6 (n u f : Int) (nm tx : ByteArray) (w : World) (hE : ¬ (⟨6, n, u, f, nm, tx⟩ : DReply) = (⟨6, 0, 0, 0, nm, ⟨#[]⟩⟩ : DReply)) :
    Calls Tryd.prog 26 #[.agg #[.int .i64 6, .int .i64 n, .int .i64 u, .int .i64 f, .string nm, .string tx]] w fun e w' => e = .returned (.bool false) ∧ Ext w w' := by
  have hG := eqReplyG
  have hq := fun w => eqReplyB (⟨6, n, u, f, nm, tx⟩ : DReply) (⟨6, 0, 0, 0, nm, ⟨#[]⟩⟩ : DReply) false (decide_eq_false hE) w
  dsimp only at hq
  clear hE
  go_enter Tryd.func26, Tryd.ntmps26
  go_wp2_with (first | (go_at_call 43; refine (l1In_dec _ _ _ _).mono ?_; rintro e w1 ⟨rfl, rfl⟩) | (go_at_call 46; refine (sNumber_dec _ _).mono ?_; rintro e w1 ⟨rfl, rfl⟩) | (go_at_call 47; refine (sFlagsOk_dec _ _).mono ?_; rintro e w1 ⟨rfl, rfl⟩) | (go_at_call 44; refine (l14Named_dec _ _).mono ?_; rintro e w1 ⟨rfl, rfl⟩) | (go_at_call 45; refine (l14Tagged_dec _ _).mono ?_; rintro e w1 ⟨rfl, rfl⟩))
  go_ret
  exact ⟨rfl, bxt⟩
theorem specReply6 (n u f : Int) (nm tx : ByteArray) (w : World) (g1 : nm.size ≤ 9223372036854775807) (g2 : tx.size ≤ 9223372036854775807) (r : Bool) (Hr : Hid (Tells r (ReplyK 6 n u f nm tx))) :
    Calls Tryd.prog 26 #[.agg #[.int .i64 6, .int .i64 n, .int .i64 u, .int .i64 f, .string nm, .string tx]] w fun e w' => e = .returned (.bool r) ∧ Ext w w' := by
  by_cases hE : (⟨6, n, u, f, nm, tx⟩ : DReply) = (⟨6, 0, 0, 0, nm, ⟨#[]⟩⟩ : DReply)
  · simp at hE
    obtain ⟨rfl, rfl, rfl, rfl⟩ := hE
    exact specReplyT6 nm w g1 r (Lib.hid (Iff.trans Hr.out (by simp [ReplyK])))
  · have h0 : r = false := Hr.out.eq_false (fun h => hE (by simp [ReplyK] at h; simp; simp_all))
    subst h0
    exact specReplyF6 n u f nm tx w hE

set_option maxRecDepth 20000 in
set_option maxHeartbeats 4000000 in
theorem specReplyT7 (nm : ByteArray) (w : World) (g1 : nm.size ≤ 9223372036854775807) (r : Bool) (Hr : Hid (Tells r ((NameP nm) ∧ True))) :
    Calls Tryd.prog 26 #[.agg #[.int .i64 7, .int .i64 0, .int .i64 0, .int .i64 0, .string nm, .string ⟨#[]⟩]] w fun e w' => e = .returned (.bool r) ∧ Ext w w' := by
  have hG := eqReplyG
  have hq := fun w => eqReplyB (⟨7, 0, 0, 0, nm, ⟨#[]⟩⟩ : DReply) (⟨7, 0, 0, 0, nm, ⟨#[]⟩⟩ : DReply) true (by simp) w
  dsimp only at hq
  obtain ⟨d, hd⟩ := boolOf (NameP nm)
  have HNm := Lib.hid hd
  clear hd
  cases d
  · go_enter Tryd.func26, Tryd.ntmps26
    go_wp2_with (first | (go_at_call 43; refine (l1In_dec _ _ _ _).mono ?_; rintro e w1 ⟨rfl, rfl⟩) | (go_at_call 46; refine (sNumber_dec _ _).mono ?_; rintro e w1 ⟨rfl, rfl⟩) | (go_at_call 47; refine (sFlagsOk_dec _ _).mono ?_; rintro e w1 ⟨rfl, rfl⟩) | (go_at_call 44; refine (l14Named_dec _ _).mono ?_; rintro e w1 ⟨rfl, rfl⟩) | (go_at_call 45; refine (l14Tagged_dec _ _).mono ?_; rintro e w1 ⟨rfl, rfl⟩) | (go_at_call 48; refine (specNameOk_any nm _ g1 _ HNm).mono ?_; rintro e w1 ⟨rfl, rfl⟩))
    go_ret
    exact ⟨ret_no Hr.out (fun hn => no_of HNm.out hn.1), bxt⟩
  · skip
    go_enter Tryd.func26, Tryd.ntmps26
    go_wp2_with (first | (go_at_call 43; refine (l1In_dec _ _ _ _).mono ?_; rintro e w1 ⟨rfl, rfl⟩) | (go_at_call 46; refine (sNumber_dec _ _).mono ?_; rintro e w1 ⟨rfl, rfl⟩) | (go_at_call 47; refine (sFlagsOk_dec _ _).mono ?_; rintro e w1 ⟨rfl, rfl⟩) | (go_at_call 44; refine (l14Named_dec _ _).mono ?_; rintro e w1 ⟨rfl, rfl⟩) | (go_at_call 45; refine (l14Tagged_dec _ _).mono ?_; rintro e w1 ⟨rfl, rfl⟩) | (go_at_call 48; refine (specNameOk_any nm _ g1 _ HNm).mono ?_; rintro e w1 ⟨rfl, rfl⟩))
    go_ret
    exact ⟨ret_yes Hr.out ⟨yes_of HNm.out, trivial⟩, bxt⟩

set_option maxHeartbeats 4000000 in
theorem specReplyF7 (n u f : Int) (nm tx : ByteArray) (w : World) (hE : ¬ (⟨7, n, u, f, nm, tx⟩ : DReply) = (⟨7, 0, 0, 0, nm, ⟨#[]⟩⟩ : DReply)) :
    Calls Tryd.prog 26 #[.agg #[.int .i64 7, .int .i64 n, .int .i64 u, .int .i64 f, .string nm, .string tx]] w fun e w' => e = .returned (.bool false) ∧ Ext w w' := by
  have hG := eqReplyG
  have hq := fun w => eqReplyB (⟨7, n, u, f, nm, tx⟩ : DReply) (⟨7, 0, 0, 0, nm, ⟨#[]⟩⟩ : DReply) false (decide_eq_false hE) w
  dsimp only at hq
  clear hE
  go_enter Tryd.func26, Tryd.ntmps26
  go_wp2_with (first | (go_at_call 43; refine (l1In_dec _ _ _ _).mono ?_; rintro e w1 ⟨rfl, rfl⟩) | (go_at_call 46; refine (sNumber_dec _ _).mono ?_; rintro e w1 ⟨rfl, rfl⟩) | (go_at_call 47; refine (sFlagsOk_dec _ _).mono ?_; rintro e w1 ⟨rfl, rfl⟩) | (go_at_call 44; refine (l14Named_dec _ _).mono ?_; rintro e w1 ⟨rfl, rfl⟩) | (go_at_call 45; refine (l14Tagged_dec _ _).mono ?_; rintro e w1 ⟨rfl, rfl⟩))
  go_ret
  exact ⟨rfl, bxt⟩
theorem specReply7 (n u f : Int) (nm tx : ByteArray) (w : World) (g1 : nm.size ≤ 9223372036854775807) (g2 : tx.size ≤ 9223372036854775807) (r : Bool) (Hr : Hid (Tells r (ReplyK 7 n u f nm tx))) :
    Calls Tryd.prog 26 #[.agg #[.int .i64 7, .int .i64 n, .int .i64 u, .int .i64 f, .string nm, .string tx]] w fun e w' => e = .returned (.bool r) ∧ Ext w w' := by
  by_cases hE : (⟨7, n, u, f, nm, tx⟩ : DReply) = (⟨7, 0, 0, 0, nm, ⟨#[]⟩⟩ : DReply)
  · simp at hE
    obtain ⟨rfl, rfl, rfl, rfl⟩ := hE
    exact specReplyT7 nm w g1 r (Lib.hid (Iff.trans Hr.out (by simp [ReplyK])))
  · have h0 : r = false := Hr.out.eq_false (fun h => hE (by simp [ReplyK] at h; simp; simp_all))
    subst h0
    exact specReplyF7 n u f nm tx w hE

set_option maxRecDepth 20000 in
set_option maxHeartbeats 4000000 in
theorem specReplyT8 (n : Int) (nm : ByteArray) (w : World) (g1 : nm.size ≤ 9223372036854775807) (r : Bool) (Hr : Hid (Tells r ((0 ≤ n ∧ n ≤ 999999999) ∧ (NameP nm) ∧ True))) :
    Calls Tryd.prog 26 #[.agg #[.int .i64 8, .int .i64 n, .int .i64 0, .int .i64 0, .string nm, .string ⟨#[]⟩]] w fun e w' => e = .returned (.bool r) ∧ Ext w w' := by
  have hG := eqReplyG
  have hq := fun w => eqReplyB (⟨8, n, 0, 0, nm, ⟨#[]⟩⟩ : DReply) (⟨8, n, 0, 0, nm, ⟨#[]⟩⟩ : DReply) true (by simp) w
  dsimp only at hq
  rcases (by omega : (n < 0) ∨ (0 ≤ n ∧ n ≤ 999999999) ∨ (999999999 < n)) with cN | cN | cN
  · skip
    try have eN0 : decide (0 ≤ n) = true := decide_eq_true (by omega)
    try have eN0 : decide (0 ≤ n) = false := decide_eq_false (by omega)
    try have eN1 : decide (n ≤ 999999999) = true := decide_eq_true (by omega)
    try have eN1 : decide (n ≤ 999999999) = false := decide_eq_false (by omega)
    try have eN2 : decide (n < 0) = true := decide_eq_true (by omega)
    try have eN2 : decide (n < 0) = false := decide_eq_false (by omega)
    try have eN3 : decide (1 ≤ n) = true := decide_eq_true (by omega)
    try have eN3 : decide (1 ≤ n) = false := decide_eq_false (by omega)
    try have eN4 : decide (n < 1) = true := decide_eq_true (by omega)
    try have eN4 : decide (n < 1) = false := decide_eq_false (by omega)
    have HN := Lib.hid cN
    clear cN
    go_enter Tryd.func26, Tryd.ntmps26
    go_wp2_with (first | (go_at_call 43; refine (l1In_dec _ _ _ _).mono ?_; rintro e w1 ⟨rfl, rfl⟩) | (go_at_call 46; refine (sNumber_dec _ _).mono ?_; rintro e w1 ⟨rfl, rfl⟩) | (go_at_call 47; refine (sFlagsOk_dec _ _).mono ?_; rintro e w1 ⟨rfl, rfl⟩) | (go_at_call 44; refine (l14Named_dec _ _).mono ?_; rintro e w1 ⟨rfl, rfl⟩) | (go_at_call 45; refine (l14Tagged_dec _ _).mono ?_; rintro e w1 ⟨rfl, rfl⟩) | (go_at_call 48; refine (specNameOk_any nm _ g1 _ HNm).mono ?_; rintro e w1 ⟨rfl, rfl⟩))
    go_ret
    exact ⟨ret_no Hr.out (fun hn => by have hh := hn.1; have cc := HN.out; omega), bxt⟩
  · skip
    try have eN0 : decide (0 ≤ n) = true := decide_eq_true (by omega)
    try have eN0 : decide (0 ≤ n) = false := decide_eq_false (by omega)
    try have eN1 : decide (n ≤ 999999999) = true := decide_eq_true (by omega)
    try have eN1 : decide (n ≤ 999999999) = false := decide_eq_false (by omega)
    try have eN2 : decide (n < 0) = true := decide_eq_true (by omega)
    try have eN2 : decide (n < 0) = false := decide_eq_false (by omega)
    try have eN3 : decide (1 ≤ n) = true := decide_eq_true (by omega)
    try have eN3 : decide (1 ≤ n) = false := decide_eq_false (by omega)
    try have eN4 : decide (n < 1) = true := decide_eq_true (by omega)
    try have eN4 : decide (n < 1) = false := decide_eq_false (by omega)
    have HN := Lib.hid cN
    clear cN
    obtain ⟨d, hd⟩ := boolOf (NameP nm)
    have HNm := Lib.hid hd
    clear hd
    cases d
    · go_enter Tryd.func26, Tryd.ntmps26
      go_wp2_with (first | (go_at_call 43; refine (l1In_dec _ _ _ _).mono ?_; rintro e w1 ⟨rfl, rfl⟩) | (go_at_call 46; refine (sNumber_dec _ _).mono ?_; rintro e w1 ⟨rfl, rfl⟩) | (go_at_call 47; refine (sFlagsOk_dec _ _).mono ?_; rintro e w1 ⟨rfl, rfl⟩) | (go_at_call 44; refine (l14Named_dec _ _).mono ?_; rintro e w1 ⟨rfl, rfl⟩) | (go_at_call 45; refine (l14Tagged_dec _ _).mono ?_; rintro e w1 ⟨rfl, rfl⟩) | (go_at_call 48; refine (specNameOk_any nm _ g1 _ HNm).mono ?_; rintro e w1 ⟨rfl, rfl⟩))
      go_ret
      exact ⟨ret_no Hr.out (fun hn => no_of HNm.out hn.2.1), bxt⟩
    · skip
      go_enter Tryd.func26, Tryd.ntmps26
      go_wp2_with (first | (go_at_call 43; refine (l1In_dec _ _ _ _).mono ?_; rintro e w1 ⟨rfl, rfl⟩) | (go_at_call 46; refine (sNumber_dec _ _).mono ?_; rintro e w1 ⟨rfl, rfl⟩) | (go_at_call 47; refine (sFlagsOk_dec _ _).mono ?_; rintro e w1 ⟨rfl, rfl⟩) | (go_at_call 44; refine (l14Named_dec _ _).mono ?_; rintro e w1 ⟨rfl, rfl⟩) | (go_at_call 45; refine (l14Tagged_dec _ _).mono ?_; rintro e w1 ⟨rfl, rfl⟩) | (go_at_call 48; refine (specNameOk_any nm _ g1 _ HNm).mono ?_; rintro e w1 ⟨rfl, rfl⟩))
      go_ret
      exact ⟨ret_yes Hr.out ⟨HN.out, yes_of HNm.out, trivial⟩, bxt⟩
  · skip
    try have eN0 : decide (0 ≤ n) = true := decide_eq_true (by omega)
    try have eN0 : decide (0 ≤ n) = false := decide_eq_false (by omega)
    try have eN1 : decide (n ≤ 999999999) = true := decide_eq_true (by omega)
    try have eN1 : decide (n ≤ 999999999) = false := decide_eq_false (by omega)
    try have eN2 : decide (n < 0) = true := decide_eq_true (by omega)
    try have eN2 : decide (n < 0) = false := decide_eq_false (by omega)
    try have eN3 : decide (1 ≤ n) = true := decide_eq_true (by omega)
    try have eN3 : decide (1 ≤ n) = false := decide_eq_false (by omega)
    try have eN4 : decide (n < 1) = true := decide_eq_true (by omega)
    try have eN4 : decide (n < 1) = false := decide_eq_false (by omega)
    have HN := Lib.hid cN
    clear cN
    go_enter Tryd.func26, Tryd.ntmps26
    go_wp2_with (first | (go_at_call 43; refine (l1In_dec _ _ _ _).mono ?_; rintro e w1 ⟨rfl, rfl⟩) | (go_at_call 46; refine (sNumber_dec _ _).mono ?_; rintro e w1 ⟨rfl, rfl⟩) | (go_at_call 47; refine (sFlagsOk_dec _ _).mono ?_; rintro e w1 ⟨rfl, rfl⟩) | (go_at_call 44; refine (l14Named_dec _ _).mono ?_; rintro e w1 ⟨rfl, rfl⟩) | (go_at_call 45; refine (l14Tagged_dec _ _).mono ?_; rintro e w1 ⟨rfl, rfl⟩) | (go_at_call 48; refine (specNameOk_any nm _ g1 _ HNm).mono ?_; rintro e w1 ⟨rfl, rfl⟩))
    go_ret
    exact ⟨ret_no Hr.out (fun hn => by have hh := hn.1; have cc := HN.out; omega), bxt⟩

set_option maxHeartbeats 4000000 in
theorem specReplyF8 (n u f : Int) (nm tx : ByteArray) (w : World) (hE : ¬ (⟨8, n, u, f, nm, tx⟩ : DReply) = (⟨8, n, 0, 0, nm, ⟨#[]⟩⟩ : DReply)) :
    Calls Tryd.prog 26 #[.agg #[.int .i64 8, .int .i64 n, .int .i64 u, .int .i64 f, .string nm, .string tx]] w fun e w' => e = .returned (.bool false) ∧ Ext w w' := by
  have hG := eqReplyG
  have hq := fun w => eqReplyB (⟨8, n, u, f, nm, tx⟩ : DReply) (⟨8, n, 0, 0, nm, ⟨#[]⟩⟩ : DReply) false (decide_eq_false hE) w
  dsimp only at hq
  clear hE
  go_enter Tryd.func26, Tryd.ntmps26
  go_wp2_with (first | (go_at_call 43; refine (l1In_dec _ _ _ _).mono ?_; rintro e w1 ⟨rfl, rfl⟩) | (go_at_call 46; refine (sNumber_dec _ _).mono ?_; rintro e w1 ⟨rfl, rfl⟩) | (go_at_call 47; refine (sFlagsOk_dec _ _).mono ?_; rintro e w1 ⟨rfl, rfl⟩) | (go_at_call 44; refine (l14Named_dec _ _).mono ?_; rintro e w1 ⟨rfl, rfl⟩) | (go_at_call 45; refine (l14Tagged_dec _ _).mono ?_; rintro e w1 ⟨rfl, rfl⟩))
  go_ret
  exact ⟨rfl, bxt⟩
theorem specReply8 (n u f : Int) (nm tx : ByteArray) (w : World) (g1 : nm.size ≤ 9223372036854775807) (g2 : tx.size ≤ 9223372036854775807) (r : Bool) (Hr : Hid (Tells r (ReplyK 8 n u f nm tx))) :
    Calls Tryd.prog 26 #[.agg #[.int .i64 8, .int .i64 n, .int .i64 u, .int .i64 f, .string nm, .string tx]] w fun e w' => e = .returned (.bool r) ∧ Ext w w' := by
  by_cases hE : (⟨8, n, u, f, nm, tx⟩ : DReply) = (⟨8, n, 0, 0, nm, ⟨#[]⟩⟩ : DReply)
  · simp at hE
    obtain ⟨rfl, rfl, rfl⟩ := hE
    exact specReplyT8 n nm w g1 r (Lib.hid (Iff.trans Hr.out (by simp [ReplyK])))
  · have h0 : r = false := Hr.out.eq_false (fun h => hE (by simp [ReplyK] at h; simp; simp_all))
    subst h0
    exact specReplyF8 n u f nm tx w hE

set_option maxRecDepth 20000 in
set_option maxHeartbeats 4000000 in
theorem specReplyT9  (w : World) (r : Bool) (Hr : Hid (Tells r (True))) :
    Calls Tryd.prog 26 #[.agg #[.int .i64 9, .int .i64 0, .int .i64 0, .int .i64 0, .string ⟨#[]⟩, .string ⟨#[]⟩]] w fun e w' => e = .returned (.bool r) ∧ Ext w w' := by
  have hG := eqReplyG
  have hq := fun w => eqReplyB (⟨9, 0, 0, 0, ⟨#[]⟩, ⟨#[]⟩⟩ : DReply) (⟨9, 0, 0, 0, ⟨#[]⟩, ⟨#[]⟩⟩ : DReply) true (by simp) w
  dsimp only at hq
  go_enter Tryd.func26, Tryd.ntmps26
  go_wp2_with (first | (go_at_call 43; refine (l1In_dec _ _ _ _).mono ?_; rintro e w1 ⟨rfl, rfl⟩) | (go_at_call 46; refine (sNumber_dec _ _).mono ?_; rintro e w1 ⟨rfl, rfl⟩) | (go_at_call 47; refine (sFlagsOk_dec _ _).mono ?_; rintro e w1 ⟨rfl, rfl⟩) | (go_at_call 44; refine (l14Named_dec _ _).mono ?_; rintro e w1 ⟨rfl, rfl⟩) | (go_at_call 45; refine (l14Tagged_dec _ _).mono ?_; rintro e w1 ⟨rfl, rfl⟩))
  go_ret
  exact ⟨ret_yes Hr.out trivial, bxt⟩

set_option maxHeartbeats 4000000 in
theorem specReplyF9 (n u f : Int) (nm tx : ByteArray) (w : World) (hE : ¬ (⟨9, n, u, f, nm, tx⟩ : DReply) = (⟨9, 0, 0, 0, ⟨#[]⟩, ⟨#[]⟩⟩ : DReply)) :
    Calls Tryd.prog 26 #[.agg #[.int .i64 9, .int .i64 n, .int .i64 u, .int .i64 f, .string nm, .string tx]] w fun e w' => e = .returned (.bool false) ∧ Ext w w' := by
  have hG := eqReplyG
  have hq := fun w => eqReplyB (⟨9, n, u, f, nm, tx⟩ : DReply) (⟨9, 0, 0, 0, ⟨#[]⟩, ⟨#[]⟩⟩ : DReply) false (decide_eq_false hE) w
  dsimp only at hq
  clear hE
  go_enter Tryd.func26, Tryd.ntmps26
  go_wp2_with (first | (go_at_call 43; refine (l1In_dec _ _ _ _).mono ?_; rintro e w1 ⟨rfl, rfl⟩) | (go_at_call 46; refine (sNumber_dec _ _).mono ?_; rintro e w1 ⟨rfl, rfl⟩) | (go_at_call 47; refine (sFlagsOk_dec _ _).mono ?_; rintro e w1 ⟨rfl, rfl⟩) | (go_at_call 44; refine (l14Named_dec _ _).mono ?_; rintro e w1 ⟨rfl, rfl⟩) | (go_at_call 45; refine (l14Tagged_dec _ _).mono ?_; rintro e w1 ⟨rfl, rfl⟩))
  go_ret
  exact ⟨rfl, bxt⟩
theorem specReply9 (n u f : Int) (nm tx : ByteArray) (w : World) (g1 : nm.size ≤ 9223372036854775807) (g2 : tx.size ≤ 9223372036854775807) (r : Bool) (Hr : Hid (Tells r (ReplyK 9 n u f nm tx))) :
    Calls Tryd.prog 26 #[.agg #[.int .i64 9, .int .i64 n, .int .i64 u, .int .i64 f, .string nm, .string tx]] w fun e w' => e = .returned (.bool r) ∧ Ext w w' := by
  by_cases hE : (⟨9, n, u, f, nm, tx⟩ : DReply) = (⟨9, 0, 0, 0, ⟨#[]⟩, ⟨#[]⟩⟩ : DReply)
  · simp at hE
    obtain ⟨rfl, rfl, rfl, rfl, rfl⟩ := hE
    exact specReplyT9  w r (Lib.hid (Iff.trans Hr.out (by simp [ReplyK])))
  · have h0 : r = false := Hr.out.eq_false (fun h => hE (by simp [ReplyK] at h; simp; simp_all))
    subst h0
    exact specReplyF9 n u f nm tx w hE

set_option maxRecDepth 20000 in
set_option maxHeartbeats 4000000 in
theorem specReplyT10  (w : World) (r : Bool) (Hr : Hid (Tells r (True))) :
    Calls Tryd.prog 26 #[.agg #[.int .i64 10, .int .i64 0, .int .i64 0, .int .i64 0, .string ⟨#[]⟩, .string ⟨#[]⟩]] w fun e w' => e = .returned (.bool r) ∧ Ext w w' := by
  have hG := eqReplyG
  have hq := fun w => eqReplyB (⟨10, 0, 0, 0, ⟨#[]⟩, ⟨#[]⟩⟩ : DReply) (⟨10, 0, 0, 0, ⟨#[]⟩, ⟨#[]⟩⟩ : DReply) true (by simp) w
  dsimp only at hq
  go_enter Tryd.func26, Tryd.ntmps26
  go_wp2_with (first | (go_at_call 43; refine (l1In_dec _ _ _ _).mono ?_; rintro e w1 ⟨rfl, rfl⟩) | (go_at_call 46; refine (sNumber_dec _ _).mono ?_; rintro e w1 ⟨rfl, rfl⟩) | (go_at_call 47; refine (sFlagsOk_dec _ _).mono ?_; rintro e w1 ⟨rfl, rfl⟩) | (go_at_call 44; refine (l14Named_dec _ _).mono ?_; rintro e w1 ⟨rfl, rfl⟩) | (go_at_call 45; refine (l14Tagged_dec _ _).mono ?_; rintro e w1 ⟨rfl, rfl⟩))
  go_ret
  exact ⟨ret_yes Hr.out trivial, bxt⟩

set_option maxHeartbeats 4000000 in
theorem specReplyF10 (n u f : Int) (nm tx : ByteArray) (w : World) (hE : ¬ (⟨10, n, u, f, nm, tx⟩ : DReply) = (⟨10, 0, 0, 0, ⟨#[]⟩, ⟨#[]⟩⟩ : DReply)) :
    Calls Tryd.prog 26 #[.agg #[.int .i64 10, .int .i64 n, .int .i64 u, .int .i64 f, .string nm, .string tx]] w fun e w' => e = .returned (.bool false) ∧ Ext w w' := by
  have hG := eqReplyG
  have hq := fun w => eqReplyB (⟨10, n, u, f, nm, tx⟩ : DReply) (⟨10, 0, 0, 0, ⟨#[]⟩, ⟨#[]⟩⟩ : DReply) false (decide_eq_false hE) w
  dsimp only at hq
  clear hE
  go_enter Tryd.func26, Tryd.ntmps26
  go_wp2_with (first | (go_at_call 43; refine (l1In_dec _ _ _ _).mono ?_; rintro e w1 ⟨rfl, rfl⟩) | (go_at_call 46; refine (sNumber_dec _ _).mono ?_; rintro e w1 ⟨rfl, rfl⟩) | (go_at_call 47; refine (sFlagsOk_dec _ _).mono ?_; rintro e w1 ⟨rfl, rfl⟩) | (go_at_call 44; refine (l14Named_dec _ _).mono ?_; rintro e w1 ⟨rfl, rfl⟩) | (go_at_call 45; refine (l14Tagged_dec _ _).mono ?_; rintro e w1 ⟨rfl, rfl⟩))
  go_ret
  exact ⟨rfl, bxt⟩
theorem specReply10 (n u f : Int) (nm tx : ByteArray) (w : World) (g1 : nm.size ≤ 9223372036854775807) (g2 : tx.size ≤ 9223372036854775807) (r : Bool) (Hr : Hid (Tells r (ReplyK 10 n u f nm tx))) :
    Calls Tryd.prog 26 #[.agg #[.int .i64 10, .int .i64 n, .int .i64 u, .int .i64 f, .string nm, .string tx]] w fun e w' => e = .returned (.bool r) ∧ Ext w w' := by
  by_cases hE : (⟨10, n, u, f, nm, tx⟩ : DReply) = (⟨10, 0, 0, 0, ⟨#[]⟩, ⟨#[]⟩⟩ : DReply)
  · simp at hE
    obtain ⟨rfl, rfl, rfl, rfl, rfl⟩ := hE
    exact specReplyT10  w r (Lib.hid (Iff.trans Hr.out (by simp [ReplyK])))
  · have h0 : r = false := Hr.out.eq_false (fun h => hE (by simp [ReplyK] at h; simp; simp_all))
    subst h0
    exact specReplyF10 n u f nm tx w hE

set_option maxRecDepth 20000 in
set_option maxHeartbeats 4000000 in
theorem specReplyT11  (w : World) (r : Bool) (Hr : Hid (Tells r (True))) :
    Calls Tryd.prog 26 #[.agg #[.int .i64 11, .int .i64 0, .int .i64 0, .int .i64 0, .string ⟨#[]⟩, .string ⟨#[]⟩]] w fun e w' => e = .returned (.bool r) ∧ Ext w w' := by
  have hG := eqReplyG
  have hq := fun w => eqReplyB (⟨11, 0, 0, 0, ⟨#[]⟩, ⟨#[]⟩⟩ : DReply) (⟨11, 0, 0, 0, ⟨#[]⟩, ⟨#[]⟩⟩ : DReply) true (by simp) w
  dsimp only at hq
  go_enter Tryd.func26, Tryd.ntmps26
  go_wp2_with (first | (go_at_call 43; refine (l1In_dec _ _ _ _).mono ?_; rintro e w1 ⟨rfl, rfl⟩) | (go_at_call 46; refine (sNumber_dec _ _).mono ?_; rintro e w1 ⟨rfl, rfl⟩) | (go_at_call 47; refine (sFlagsOk_dec _ _).mono ?_; rintro e w1 ⟨rfl, rfl⟩) | (go_at_call 44; refine (l14Named_dec _ _).mono ?_; rintro e w1 ⟨rfl, rfl⟩) | (go_at_call 45; refine (l14Tagged_dec _ _).mono ?_; rintro e w1 ⟨rfl, rfl⟩))
  go_ret
  exact ⟨ret_yes Hr.out trivial, bxt⟩

set_option maxHeartbeats 4000000 in
theorem specReplyF11 (n u f : Int) (nm tx : ByteArray) (w : World) (hE : ¬ (⟨11, n, u, f, nm, tx⟩ : DReply) = (⟨11, 0, 0, 0, ⟨#[]⟩, ⟨#[]⟩⟩ : DReply)) :
    Calls Tryd.prog 26 #[.agg #[.int .i64 11, .int .i64 n, .int .i64 u, .int .i64 f, .string nm, .string tx]] w fun e w' => e = .returned (.bool false) ∧ Ext w w' := by
  have hG := eqReplyG
  have hq := fun w => eqReplyB (⟨11, n, u, f, nm, tx⟩ : DReply) (⟨11, 0, 0, 0, ⟨#[]⟩, ⟨#[]⟩⟩ : DReply) false (decide_eq_false hE) w
  dsimp only at hq
  clear hE
  go_enter Tryd.func26, Tryd.ntmps26
  go_wp2_with (first | (go_at_call 43; refine (l1In_dec _ _ _ _).mono ?_; rintro e w1 ⟨rfl, rfl⟩) | (go_at_call 46; refine (sNumber_dec _ _).mono ?_; rintro e w1 ⟨rfl, rfl⟩) | (go_at_call 47; refine (sFlagsOk_dec _ _).mono ?_; rintro e w1 ⟨rfl, rfl⟩) | (go_at_call 44; refine (l14Named_dec _ _).mono ?_; rintro e w1 ⟨rfl, rfl⟩) | (go_at_call 45; refine (l14Tagged_dec _ _).mono ?_; rintro e w1 ⟨rfl, rfl⟩))
  go_ret
  exact ⟨rfl, bxt⟩
theorem specReply11 (n u f : Int) (nm tx : ByteArray) (w : World) (g1 : nm.size ≤ 9223372036854775807) (g2 : tx.size ≤ 9223372036854775807) (r : Bool) (Hr : Hid (Tells r (ReplyK 11 n u f nm tx))) :
    Calls Tryd.prog 26 #[.agg #[.int .i64 11, .int .i64 n, .int .i64 u, .int .i64 f, .string nm, .string tx]] w fun e w' => e = .returned (.bool r) ∧ Ext w w' := by
  by_cases hE : (⟨11, n, u, f, nm, tx⟩ : DReply) = (⟨11, 0, 0, 0, ⟨#[]⟩, ⟨#[]⟩⟩ : DReply)
  · simp at hE
    obtain ⟨rfl, rfl, rfl, rfl, rfl⟩ := hE
    exact specReplyT11  w r (Lib.hid (Iff.trans Hr.out (by simp [ReplyK])))
  · have h0 : r = false := Hr.out.eq_false (fun h => hE (by simp [ReplyK] at h; simp; simp_all))
    subst h0
    exact specReplyF11 n u f nm tx w hE

set_option maxRecDepth 20000 in
set_option maxHeartbeats 4000000 in
theorem specReplyT12 (nm : ByteArray) (w : World) (g1 : nm.size ≤ 9223372036854775807) (r : Bool) (Hr : Hid (Tells r ((TagP nm ∨ nm = ⟨#[42]⟩) ∧ True))) :
    Calls Tryd.prog 26 #[.agg #[.int .i64 12, .int .i64 0, .int .i64 0, .int .i64 0, .string nm, .string ⟨#[]⟩]] w fun e w' => e = .returned (.bool r) ∧ Ext w w' := by
  have hG := eqReplyG
  have hq := fun w => eqReplyB (⟨12, 0, 0, 0, nm, ⟨#[]⟩⟩ : DReply) (⟨12, 0, 0, 0, nm, ⟨#[]⟩⟩ : DReply) true (by simp) w
  dsimp only at hq
  obtain ⟨d, hd⟩ := boolOf (TagP nm)
  have HT := Lib.hid hd
  clear hd
  cases d
  · by_cases hst : nm = ⟨#[42]⟩
    · skip
      have hs2 : (nm.toList == [42]) = true := (str_is nm [42]).trans (by simp [hst])
      have HS := Lib.hid hst
      clear hst
      go_enter Tryd.func26, Tryd.ntmps26
      go_wp2_with (first | (go_at_call 43; refine (l1In_dec _ _ _ _).mono ?_; rintro e w1 ⟨rfl, rfl⟩) | (go_at_call 46; refine (sNumber_dec _ _).mono ?_; rintro e w1 ⟨rfl, rfl⟩) | (go_at_call 47; refine (sFlagsOk_dec _ _).mono ?_; rintro e w1 ⟨rfl, rfl⟩) | (go_at_call 44; refine (l14Named_dec _ _).mono ?_; rintro e w1 ⟨rfl, rfl⟩) | (go_at_call 45; refine (l14Tagged_dec _ _).mono ?_; rintro e w1 ⟨rfl, rfl⟩) | (go_at_call 49; refine (specTagOk_any _ _ g1 _ HT).mono ?_; rintro e w1 ⟨rfl, rfl⟩))
      go_ret
      exact ⟨ret_yes Hr.out ⟨by (first | exact Or.inr HS.out | exact Or.inl (yes_of HT.out)), trivial⟩, bxt⟩
    · skip
      have hs2 : (nm.toList == [42]) = false := (str_is nm [42]).trans (by simp [hst])
      have HS := Lib.hid hst
      clear hst
      go_enter Tryd.func26, Tryd.ntmps26
      go_wp2_with (first | (go_at_call 43; refine (l1In_dec _ _ _ _).mono ?_; rintro e w1 ⟨rfl, rfl⟩) | (go_at_call 46; refine (sNumber_dec _ _).mono ?_; rintro e w1 ⟨rfl, rfl⟩) | (go_at_call 47; refine (sFlagsOk_dec _ _).mono ?_; rintro e w1 ⟨rfl, rfl⟩) | (go_at_call 44; refine (l14Named_dec _ _).mono ?_; rintro e w1 ⟨rfl, rfl⟩) | (go_at_call 45; refine (l14Tagged_dec _ _).mono ?_; rintro e w1 ⟨rfl, rfl⟩) | (go_at_call 49; refine (specTagOk_any _ _ g1 _ HT).mono ?_; rintro e w1 ⟨rfl, rfl⟩))
      go_ret
      exact ⟨ret_no Hr.out (fun hn => hn.1.elim (no_of HT.out) HS.out), bxt⟩
  · skip
    go_enter Tryd.func26, Tryd.ntmps26
    go_wp2_with (first | (go_at_call 43; refine (l1In_dec _ _ _ _).mono ?_; rintro e w1 ⟨rfl, rfl⟩) | (go_at_call 46; refine (sNumber_dec _ _).mono ?_; rintro e w1 ⟨rfl, rfl⟩) | (go_at_call 47; refine (sFlagsOk_dec _ _).mono ?_; rintro e w1 ⟨rfl, rfl⟩) | (go_at_call 44; refine (l14Named_dec _ _).mono ?_; rintro e w1 ⟨rfl, rfl⟩) | (go_at_call 45; refine (l14Tagged_dec _ _).mono ?_; rintro e w1 ⟨rfl, rfl⟩) | (go_at_call 49; refine (specTagOk_any _ _ g1 _ HT).mono ?_; rintro e w1 ⟨rfl, rfl⟩))
    go_ret
    exact ⟨ret_yes Hr.out ⟨by (first | exact Or.inr HS.out | exact Or.inl (yes_of HT.out)), trivial⟩, bxt⟩

set_option maxHeartbeats 4000000 in
theorem specReplyF12 (n u f : Int) (nm tx : ByteArray) (w : World) (hE : ¬ (⟨12, n, u, f, nm, tx⟩ : DReply) = (⟨12, 0, 0, 0, nm, ⟨#[]⟩⟩ : DReply)) :
    Calls Tryd.prog 26 #[.agg #[.int .i64 12, .int .i64 n, .int .i64 u, .int .i64 f, .string nm, .string tx]] w fun e w' => e = .returned (.bool false) ∧ Ext w w' := by
  have hG := eqReplyG
  have hq := fun w => eqReplyB (⟨12, n, u, f, nm, tx⟩ : DReply) (⟨12, 0, 0, 0, nm, ⟨#[]⟩⟩ : DReply) false (decide_eq_false hE) w
  dsimp only at hq
  clear hE
  go_enter Tryd.func26, Tryd.ntmps26
  go_wp2_with (first | (go_at_call 43; refine (l1In_dec _ _ _ _).mono ?_; rintro e w1 ⟨rfl, rfl⟩) | (go_at_call 46; refine (sNumber_dec _ _).mono ?_; rintro e w1 ⟨rfl, rfl⟩) | (go_at_call 47; refine (sFlagsOk_dec _ _).mono ?_; rintro e w1 ⟨rfl, rfl⟩) | (go_at_call 44; refine (l14Named_dec _ _).mono ?_; rintro e w1 ⟨rfl, rfl⟩) | (go_at_call 45; refine (l14Tagged_dec _ _).mono ?_; rintro e w1 ⟨rfl, rfl⟩))
  go_ret
  exact ⟨rfl, bxt⟩
theorem specReply12 (n u f : Int) (nm tx : ByteArray) (w : World) (g1 : nm.size ≤ 9223372036854775807) (g2 : tx.size ≤ 9223372036854775807) (r : Bool) (Hr : Hid (Tells r (ReplyK 12 n u f nm tx))) :
    Calls Tryd.prog 26 #[.agg #[.int .i64 12, .int .i64 n, .int .i64 u, .int .i64 f, .string nm, .string tx]] w fun e w' => e = .returned (.bool r) ∧ Ext w w' := by
  by_cases hE : (⟨12, n, u, f, nm, tx⟩ : DReply) = (⟨12, 0, 0, 0, nm, ⟨#[]⟩⟩ : DReply)
  · simp at hE
    obtain ⟨rfl, rfl, rfl, rfl⟩ := hE
    exact specReplyT12 nm w g1 r (Lib.hid (Iff.trans Hr.out (by simp [ReplyK])))
  · have h0 : r = false := Hr.out.eq_false (fun h => hE (by simp [ReplyK] at h; simp; simp_all))
    subst h0
    exact specReplyF12 n u f nm tx w hE

set_option maxRecDepth 20000 in
set_option maxHeartbeats 4000000 in
theorem specReplyT13 (nm : ByteArray) (w : World) (g1 : nm.size ≤ 9223372036854775807) (r : Bool) (Hr : Hid (Tells r ((TagP nm ∨ nm = ⟨#[42]⟩) ∧ True))) :
    Calls Tryd.prog 26 #[.agg #[.int .i64 13, .int .i64 0, .int .i64 0, .int .i64 0, .string nm, .string ⟨#[]⟩]] w fun e w' => e = .returned (.bool r) ∧ Ext w w' := by
  have hG := eqReplyG
  have hq := fun w => eqReplyB (⟨13, 0, 0, 0, nm, ⟨#[]⟩⟩ : DReply) (⟨13, 0, 0, 0, nm, ⟨#[]⟩⟩ : DReply) true (by simp) w
  dsimp only at hq
  obtain ⟨d, hd⟩ := boolOf (TagP nm)
  have HT := Lib.hid hd
  clear hd
  cases d
  · by_cases hst : nm = ⟨#[42]⟩
    · skip
      have hs2 : (nm.toList == [42]) = true := (str_is nm [42]).trans (by simp [hst])
      have HS := Lib.hid hst
      clear hst
      go_enter Tryd.func26, Tryd.ntmps26
      go_wp2_with (first | (go_at_call 43; refine (l1In_dec _ _ _ _).mono ?_; rintro e w1 ⟨rfl, rfl⟩) | (go_at_call 46; refine (sNumber_dec _ _).mono ?_; rintro e w1 ⟨rfl, rfl⟩) | (go_at_call 47; refine (sFlagsOk_dec _ _).mono ?_; rintro e w1 ⟨rfl, rfl⟩) | (go_at_call 44; refine (l14Named_dec _ _).mono ?_; rintro e w1 ⟨rfl, rfl⟩) | (go_at_call 45; refine (l14Tagged_dec _ _).mono ?_; rintro e w1 ⟨rfl, rfl⟩) | (go_at_call 49; refine (specTagOk_any _ _ g1 _ HT).mono ?_; rintro e w1 ⟨rfl, rfl⟩))
      go_ret
      exact ⟨ret_yes Hr.out ⟨by (first | exact Or.inr HS.out | exact Or.inl (yes_of HT.out)), trivial⟩, bxt⟩
    · skip
      have hs2 : (nm.toList == [42]) = false := (str_is nm [42]).trans (by simp [hst])
      have HS := Lib.hid hst
      clear hst
      go_enter Tryd.func26, Tryd.ntmps26
      go_wp2_with (first | (go_at_call 43; refine (l1In_dec _ _ _ _).mono ?_; rintro e w1 ⟨rfl, rfl⟩) | (go_at_call 46; refine (sNumber_dec _ _).mono ?_; rintro e w1 ⟨rfl, rfl⟩) | (go_at_call 47; refine (sFlagsOk_dec _ _).mono ?_; rintro e w1 ⟨rfl, rfl⟩) | (go_at_call 44; refine (l14Named_dec _ _).mono ?_; rintro e w1 ⟨rfl, rfl⟩) | (go_at_call 45; refine (l14Tagged_dec _ _).mono ?_; rintro e w1 ⟨rfl, rfl⟩) | (go_at_call 49; refine (specTagOk_any _ _ g1 _ HT).mono ?_; rintro e w1 ⟨rfl, rfl⟩))
      go_ret
      exact ⟨ret_no Hr.out (fun hn => hn.1.elim (no_of HT.out) HS.out), bxt⟩
  · skip
    go_enter Tryd.func26, Tryd.ntmps26
    go_wp2_with (first | (go_at_call 43; refine (l1In_dec _ _ _ _).mono ?_; rintro e w1 ⟨rfl, rfl⟩) | (go_at_call 46; refine (sNumber_dec _ _).mono ?_; rintro e w1 ⟨rfl, rfl⟩) | (go_at_call 47; refine (sFlagsOk_dec _ _).mono ?_; rintro e w1 ⟨rfl, rfl⟩) | (go_at_call 44; refine (l14Named_dec _ _).mono ?_; rintro e w1 ⟨rfl, rfl⟩) | (go_at_call 45; refine (l14Tagged_dec _ _).mono ?_; rintro e w1 ⟨rfl, rfl⟩) | (go_at_call 49; refine (specTagOk_any _ _ g1 _ HT).mono ?_; rintro e w1 ⟨rfl, rfl⟩))
    go_ret
    exact ⟨ret_yes Hr.out ⟨by (first | exact Or.inr HS.out | exact Or.inl (yes_of HT.out)), trivial⟩, bxt⟩

set_option maxHeartbeats 4000000 in
theorem specReplyF13 (n u f : Int) (nm tx : ByteArray) (w : World) (hE : ¬ (⟨13, n, u, f, nm, tx⟩ : DReply) = (⟨13, 0, 0, 0, nm, ⟨#[]⟩⟩ : DReply)) :
    Calls Tryd.prog 26 #[.agg #[.int .i64 13, .int .i64 n, .int .i64 u, .int .i64 f, .string nm, .string tx]] w fun e w' => e = .returned (.bool false) ∧ Ext w w' := by
  have hG := eqReplyG
  have hq := fun w => eqReplyB (⟨13, n, u, f, nm, tx⟩ : DReply) (⟨13, 0, 0, 0, nm, ⟨#[]⟩⟩ : DReply) false (decide_eq_false hE) w
  dsimp only at hq
  clear hE
  go_enter Tryd.func26, Tryd.ntmps26
  go_wp2_with (first | (go_at_call 43; refine (l1In_dec _ _ _ _).mono ?_; rintro e w1 ⟨rfl, rfl⟩) | (go_at_call 46; refine (sNumber_dec _ _).mono ?_; rintro e w1 ⟨rfl, rfl⟩) | (go_at_call 47; refine (sFlagsOk_dec _ _).mono ?_; rintro e w1 ⟨rfl, rfl⟩) | (go_at_call 44; refine (l14Named_dec _ _).mono ?_; rintro e w1 ⟨rfl, rfl⟩) | (go_at_call 45; refine (l14Tagged_dec _ _).mono ?_; rintro e w1 ⟨rfl, rfl⟩))
  go_ret
  exact ⟨rfl, bxt⟩
theorem specReply13 (n u f : Int) (nm tx : ByteArray) (w : World) (g1 : nm.size ≤ 9223372036854775807) (g2 : tx.size ≤ 9223372036854775807) (r : Bool) (Hr : Hid (Tells r (ReplyK 13 n u f nm tx))) :
    Calls Tryd.prog 26 #[.agg #[.int .i64 13, .int .i64 n, .int .i64 u, .int .i64 f, .string nm, .string tx]] w fun e w' => e = .returned (.bool r) ∧ Ext w w' := by
  by_cases hE : (⟨13, n, u, f, nm, tx⟩ : DReply) = (⟨13, 0, 0, 0, nm, ⟨#[]⟩⟩ : DReply)
  · simp at hE
    obtain ⟨rfl, rfl, rfl, rfl⟩ := hE
    exact specReplyT13 nm w g1 r (Lib.hid (Iff.trans Hr.out (by simp [ReplyK])))
  · have h0 : r = false := Hr.out.eq_false (fun h => hE (by simp [ReplyK] at h; simp; simp_all))
    subst h0
    exact specReplyF13 n u f nm tx w hE

set_option maxRecDepth 20000 in
set_option maxHeartbeats 4000000 in
theorem specReplyT14 (nm : ByteArray) (w : World) (g1 : nm.size ≤ 9223372036854775807) (r : Bool) (Hr : Hid (Tells r ((TagP nm ∨ nm = ⟨#[42]⟩) ∧ True))) :
    Calls Tryd.prog 26 #[.agg #[.int .i64 14, .int .i64 0, .int .i64 0, .int .i64 0, .string nm, .string ⟨#[]⟩]] w fun e w' => e = .returned (.bool r) ∧ Ext w w' := by
  have hG := eqReplyG
  have hq := fun w => eqReplyB (⟨14, 0, 0, 0, nm, ⟨#[]⟩⟩ : DReply) (⟨14, 0, 0, 0, nm, ⟨#[]⟩⟩ : DReply) true (by simp) w
  dsimp only at hq
  obtain ⟨d, hd⟩ := boolOf (TagP nm)
  have HT := Lib.hid hd
  clear hd
  cases d
  · by_cases hst : nm = ⟨#[42]⟩
    · skip
      have hs2 : (nm.toList == [42]) = true := (str_is nm [42]).trans (by simp [hst])
      have HS := Lib.hid hst
      clear hst
      go_enter Tryd.func26, Tryd.ntmps26
      go_wp2_with (first | (go_at_call 43; refine (l1In_dec _ _ _ _).mono ?_; rintro e w1 ⟨rfl, rfl⟩) | (go_at_call 46; refine (sNumber_dec _ _).mono ?_; rintro e w1 ⟨rfl, rfl⟩) | (go_at_call 47; refine (sFlagsOk_dec _ _).mono ?_; rintro e w1 ⟨rfl, rfl⟩) | (go_at_call 44; refine (l14Named_dec _ _).mono ?_; rintro e w1 ⟨rfl, rfl⟩) | (go_at_call 45; refine (l14Tagged_dec _ _).mono ?_; rintro e w1 ⟨rfl, rfl⟩) | (go_at_call 49; refine (specTagOk_any _ _ g1 _ HT).mono ?_; rintro e w1 ⟨rfl, rfl⟩))
      go_ret
      exact ⟨ret_yes Hr.out ⟨by (first | exact Or.inr HS.out | exact Or.inl (yes_of HT.out)), trivial⟩, bxt⟩
    · skip
      have hs2 : (nm.toList == [42]) = false := (str_is nm [42]).trans (by simp [hst])
      have HS := Lib.hid hst
      clear hst
      go_enter Tryd.func26, Tryd.ntmps26
      go_wp2_with (first | (go_at_call 43; refine (l1In_dec _ _ _ _).mono ?_; rintro e w1 ⟨rfl, rfl⟩) | (go_at_call 46; refine (sNumber_dec _ _).mono ?_; rintro e w1 ⟨rfl, rfl⟩) | (go_at_call 47; refine (sFlagsOk_dec _ _).mono ?_; rintro e w1 ⟨rfl, rfl⟩) | (go_at_call 44; refine (l14Named_dec _ _).mono ?_; rintro e w1 ⟨rfl, rfl⟩) | (go_at_call 45; refine (l14Tagged_dec _ _).mono ?_; rintro e w1 ⟨rfl, rfl⟩) | (go_at_call 49; refine (specTagOk_any _ _ g1 _ HT).mono ?_; rintro e w1 ⟨rfl, rfl⟩))
      go_ret
      exact ⟨ret_no Hr.out (fun hn => hn.1.elim (no_of HT.out) HS.out), bxt⟩
  · skip
    go_enter Tryd.func26, Tryd.ntmps26
    go_wp2_with (first | (go_at_call 43; refine (l1In_dec _ _ _ _).mono ?_; rintro e w1 ⟨rfl, rfl⟩) | (go_at_call 46; refine (sNumber_dec _ _).mono ?_; rintro e w1 ⟨rfl, rfl⟩) | (go_at_call 47; refine (sFlagsOk_dec _ _).mono ?_; rintro e w1 ⟨rfl, rfl⟩) | (go_at_call 44; refine (l14Named_dec _ _).mono ?_; rintro e w1 ⟨rfl, rfl⟩) | (go_at_call 45; refine (l14Tagged_dec _ _).mono ?_; rintro e w1 ⟨rfl, rfl⟩) | (go_at_call 49; refine (specTagOk_any _ _ g1 _ HT).mono ?_; rintro e w1 ⟨rfl, rfl⟩))
    go_ret
    exact ⟨ret_yes Hr.out ⟨by (first | exact Or.inr HS.out | exact Or.inl (yes_of HT.out)), trivial⟩, bxt⟩

set_option maxHeartbeats 4000000 in
theorem specReplyF14 (n u f : Int) (nm tx : ByteArray) (w : World) (hE : ¬ (⟨14, n, u, f, nm, tx⟩ : DReply) = (⟨14, 0, 0, 0, nm, ⟨#[]⟩⟩ : DReply)) :
    Calls Tryd.prog 26 #[.agg #[.int .i64 14, .int .i64 n, .int .i64 u, .int .i64 f, .string nm, .string tx]] w fun e w' => e = .returned (.bool false) ∧ Ext w w' := by
  have hG := eqReplyG
  have hq := fun w => eqReplyB (⟨14, n, u, f, nm, tx⟩ : DReply) (⟨14, 0, 0, 0, nm, ⟨#[]⟩⟩ : DReply) false (decide_eq_false hE) w
  dsimp only at hq
  clear hE
  go_enter Tryd.func26, Tryd.ntmps26
  go_wp2_with (first | (go_at_call 43; refine (l1In_dec _ _ _ _).mono ?_; rintro e w1 ⟨rfl, rfl⟩) | (go_at_call 46; refine (sNumber_dec _ _).mono ?_; rintro e w1 ⟨rfl, rfl⟩) | (go_at_call 47; refine (sFlagsOk_dec _ _).mono ?_; rintro e w1 ⟨rfl, rfl⟩) | (go_at_call 44; refine (l14Named_dec _ _).mono ?_; rintro e w1 ⟨rfl, rfl⟩) | (go_at_call 45; refine (l14Tagged_dec _ _).mono ?_; rintro e w1 ⟨rfl, rfl⟩))
  go_ret
  exact ⟨rfl, bxt⟩
theorem specReply14 (n u f : Int) (nm tx : ByteArray) (w : World) (g1 : nm.size ≤ 9223372036854775807) (g2 : tx.size ≤ 9223372036854775807) (r : Bool) (Hr : Hid (Tells r (ReplyK 14 n u f nm tx))) :
    Calls Tryd.prog 26 #[.agg #[.int .i64 14, .int .i64 n, .int .i64 u, .int .i64 f, .string nm, .string tx]] w fun e w' => e = .returned (.bool r) ∧ Ext w w' := by
  by_cases hE : (⟨14, n, u, f, nm, tx⟩ : DReply) = (⟨14, 0, 0, 0, nm, ⟨#[]⟩⟩ : DReply)
  · simp at hE
    obtain ⟨rfl, rfl, rfl, rfl⟩ := hE
    exact specReplyT14 nm w g1 r (Lib.hid (Iff.trans Hr.out (by simp [ReplyK])))
  · have h0 : r = false := Hr.out.eq_false (fun h => hE (by simp [ReplyK] at h; simp; simp_all))
    subst h0
    exact specReplyF14 n u f nm tx w hE

set_option maxRecDepth 20000 in
set_option maxHeartbeats 4000000 in
theorem specReplyT15  (w : World) (r : Bool) (Hr : Hid (Tells r (True))) :
    Calls Tryd.prog 26 #[.agg #[.int .i64 15, .int .i64 0, .int .i64 0, .int .i64 0, .string ⟨#[]⟩, .string ⟨#[]⟩]] w fun e w' => e = .returned (.bool r) ∧ Ext w w' := by
  have hG := eqReplyG
  have hq := fun w => eqReplyB (⟨15, 0, 0, 0, ⟨#[]⟩, ⟨#[]⟩⟩ : DReply) (⟨15, 0, 0, 0, ⟨#[]⟩, ⟨#[]⟩⟩ : DReply) true (by simp) w
  dsimp only at hq
  go_enter Tryd.func26, Tryd.ntmps26
  go_wp2_with (first | (go_at_call 43; refine (l1In_dec _ _ _ _).mono ?_; rintro e w1 ⟨rfl, rfl⟩) | (go_at_call 46; refine (sNumber_dec _ _).mono ?_; rintro e w1 ⟨rfl, rfl⟩) | (go_at_call 47; refine (sFlagsOk_dec _ _).mono ?_; rintro e w1 ⟨rfl, rfl⟩) | (go_at_call 44; refine (l14Named_dec _ _).mono ?_; rintro e w1 ⟨rfl, rfl⟩) | (go_at_call 45; refine (l14Tagged_dec _ _).mono ?_; rintro e w1 ⟨rfl, rfl⟩))
  go_ret
  exact ⟨ret_yes Hr.out trivial, bxt⟩

set_option maxHeartbeats 4000000 in
theorem specReplyF15 (n u f : Int) (nm tx : ByteArray) (w : World) (hE : ¬ (⟨15, n, u, f, nm, tx⟩ : DReply) = (⟨15, 0, 0, 0, ⟨#[]⟩, ⟨#[]⟩⟩ : DReply)) :
    Calls Tryd.prog 26 #[.agg #[.int .i64 15, .int .i64 n, .int .i64 u, .int .i64 f, .string nm, .string tx]] w fun e w' => e = .returned (.bool false) ∧ Ext w w' := by
  have hG := eqReplyG
  have hq := fun w => eqReplyB (⟨15, n, u, f, nm, tx⟩ : DReply) (⟨15, 0, 0, 0, ⟨#[]⟩, ⟨#[]⟩⟩ : DReply) false (decide_eq_false hE) w
  dsimp only at hq
  clear hE
  go_enter Tryd.func26, Tryd.ntmps26
  go_wp2_with (first | (go_at_call 43; refine (l1In_dec _ _ _ _).mono ?_; rintro e w1 ⟨rfl, rfl⟩) | (go_at_call 46; refine (sNumber_dec _ _).mono ?_; rintro e w1 ⟨rfl, rfl⟩) | (go_at_call 47; refine (sFlagsOk_dec _ _).mono ?_; rintro e w1 ⟨rfl, rfl⟩) | (go_at_call 44; refine (l14Named_dec _ _).mono ?_; rintro e w1 ⟨rfl, rfl⟩) | (go_at_call 45; refine (l14Tagged_dec _ _).mono ?_; rintro e w1 ⟨rfl, rfl⟩))
  go_ret
  exact ⟨rfl, bxt⟩
theorem specReply15 (n u f : Int) (nm tx : ByteArray) (w : World) (g1 : nm.size ≤ 9223372036854775807) (g2 : tx.size ≤ 9223372036854775807) (r : Bool) (Hr : Hid (Tells r (ReplyK 15 n u f nm tx))) :
    Calls Tryd.prog 26 #[.agg #[.int .i64 15, .int .i64 n, .int .i64 u, .int .i64 f, .string nm, .string tx]] w fun e w' => e = .returned (.bool r) ∧ Ext w w' := by
  by_cases hE : (⟨15, n, u, f, nm, tx⟩ : DReply) = (⟨15, 0, 0, 0, ⟨#[]⟩, ⟨#[]⟩⟩ : DReply)
  · simp at hE
    obtain ⟨rfl, rfl, rfl, rfl, rfl⟩ := hE
    exact specReplyT15  w r (Lib.hid (Iff.trans Hr.out (by simp [ReplyK])))
  · have h0 : r = false := Hr.out.eq_false (fun h => hE (by simp [ReplyK] at h; simp; simp_all))
    subst h0
    exact specReplyF15 n u f nm tx w hE

set_option maxRecDepth 20000 in
set_option maxHeartbeats 4000000 in
theorem specReplyT16  (w : World) (r : Bool) (Hr : Hid (Tells r (True))) :
    Calls Tryd.prog 26 #[.agg #[.int .i64 16, .int .i64 0, .int .i64 0, .int .i64 0, .string ⟨#[]⟩, .string ⟨#[]⟩]] w fun e w' => e = .returned (.bool r) ∧ Ext w w' := by
  have hG := eqReplyG
  have hq := fun w => eqReplyB (⟨16, 0, 0, 0, ⟨#[]⟩, ⟨#[]⟩⟩ : DReply) (⟨16, 0, 0, 0, ⟨#[]⟩, ⟨#[]⟩⟩ : DReply) true (by simp) w
  dsimp only at hq
  go_enter Tryd.func26, Tryd.ntmps26
  go_wp2_with (first | (go_at_call 43; refine (l1In_dec _ _ _ _).mono ?_; rintro e w1 ⟨rfl, rfl⟩) | (go_at_call 46; refine (sNumber_dec _ _).mono ?_; rintro e w1 ⟨rfl, rfl⟩) | (go_at_call 47; refine (sFlagsOk_dec _ _).mono ?_; rintro e w1 ⟨rfl, rfl⟩) | (go_at_call 44; refine (l14Named_dec _ _).mono ?_; rintro e w1 ⟨rfl, rfl⟩) | (go_at_call 45; refine (l14Tagged_dec _ _).mono ?_; rintro e w1 ⟨rfl, rfl⟩))
  go_ret
  exact ⟨ret_yes Hr.out trivial, bxt⟩

set_option maxHeartbeats 4000000 in
theorem specReplyF16 (n u f : Int) (nm tx : ByteArray) (w : World) (hE : ¬ (⟨16, n, u, f, nm, tx⟩ : DReply) = (⟨16, 0, 0, 0, ⟨#[]⟩, ⟨#[]⟩⟩ : DReply)) :
    Calls Tryd.prog 26 #[.agg #[.int .i64 16, .int .i64 n, .int .i64 u, .int .i64 f, .string nm, .string tx]] w fun e w' => e = .returned (.bool false) ∧ Ext w w' := by
  have hG := eqReplyG
  have hq := fun w => eqReplyB (⟨16, n, u, f, nm, tx⟩ : DReply) (⟨16, 0, 0, 0, ⟨#[]⟩, ⟨#[]⟩⟩ : DReply) false (decide_eq_false hE) w
  dsimp only at hq
  clear hE
  go_enter Tryd.func26, Tryd.ntmps26
  go_wp2_with (first | (go_at_call 43; refine (l1In_dec _ _ _ _).mono ?_; rintro e w1 ⟨rfl, rfl⟩) | (go_at_call 46; refine (sNumber_dec _ _).mono ?_; rintro e w1 ⟨rfl, rfl⟩) | (go_at_call 47; refine (sFlagsOk_dec _ _).mono ?_; rintro e w1 ⟨rfl, rfl⟩) | (go_at_call 44; refine (l14Named_dec _ _).mono ?_; rintro e w1 ⟨rfl, rfl⟩) | (go_at_call 45; refine (l14Tagged_dec _ _).mono ?_; rintro e w1 ⟨rfl, rfl⟩))
  go_ret
  exact ⟨rfl, bxt⟩
theorem specReply16 (n u f : Int) (nm tx : ByteArray) (w : World) (g1 : nm.size ≤ 9223372036854775807) (g2 : tx.size ≤ 9223372036854775807) (r : Bool) (Hr : Hid (Tells r (ReplyK 16 n u f nm tx))) :
    Calls Tryd.prog 26 #[.agg #[.int .i64 16, .int .i64 n, .int .i64 u, .int .i64 f, .string nm, .string tx]] w fun e w' => e = .returned (.bool r) ∧ Ext w w' := by
  by_cases hE : (⟨16, n, u, f, nm, tx⟩ : DReply) = (⟨16, 0, 0, 0, ⟨#[]⟩, ⟨#[]⟩⟩ : DReply)
  · simp at hE
    obtain ⟨rfl, rfl, rfl, rfl, rfl⟩ := hE
    exact specReplyT16  w r (Lib.hid (Iff.trans Hr.out (by simp [ReplyK])))
  · have h0 : r = false := Hr.out.eq_false (fun h => hE (by simp [ReplyK] at h; simp; simp_all))
    subst h0
    exact specReplyF16 n u f nm tx w hE

set_option maxHeartbeats 4000000 in
theorem specReply0 (k n u f : Int) (nm tx : ByteArray) (w : World) (hk : ¬ (1 ≤ k ∧ k ≤ 16)) :
    Calls Tryd.prog 26 #[.agg #[.int .i64 k, .int .i64 n, .int .i64 u, .int .i64 f, .string nm, .string tx]] w fun e w' => e = .returned (.bool false) ∧ Ext w w' := by
  rcases (by omega : k < 1 ∨ 16 < k) with c | c
  all_goals try have e1 : decide (1 ≤ k) = true := decide_eq_true (by omega)
  all_goals try have e1 : decide (1 ≤ k) = false := decide_eq_false (by omega)
  all_goals try have e2 : decide (k ≤ 16) = true := decide_eq_true (by omega)
  all_goals try have e2 : decide (k ≤ 16) = false := decide_eq_false (by omega)
  all_goals have h1 : (k == 1) = false := by (simp; omega)
  all_goals have h2 : (k == 2) = false := by (simp; omega)
  all_goals have h3 : (k == 3) = false := by (simp; omega)
  all_goals have h4 : (k == 4) = false := by (simp; omega)
  all_goals have h5 : (k == 5) = false := by (simp; omega)
  all_goals have h6 : (k == 6) = false := by (simp; omega)
  all_goals have h7 : (k == 7) = false := by (simp; omega)
  all_goals have h8 : (k == 8) = false := by (simp; omega)
  all_goals have h9 : (k == 9) = false := by (simp; omega)
  all_goals have h10 : (k == 10) = false := by (simp; omega)
  all_goals have h11 : (k == 11) = false := by (simp; omega)
  all_goals have h12 : (k == 12) = false := by (simp; omega)
  all_goals have h13 : (k == 13) = false := by (simp; omega)
  all_goals have h14 : (k == 14) = false := by (simp; omega)
  all_goals have h15 : (k == 15) = false := by (simp; omega)
  all_goals have h16 : (k == 16) = false := by (simp; omega)
  all_goals clear hk c
  all_goals go_enter Tryd.func26, Tryd.ntmps26
  all_goals go_wp2_with (first | (go_at_call 43; refine (l1In_dec _ _ _ _).mono ?_; rintro e w1 ⟨rfl, rfl⟩) | (go_at_call 46; refine (sNumber_dec _ _).mono ?_; rintro e w1 ⟨rfl, rfl⟩) | (go_at_call 47; refine (sFlagsOk_dec _ _).mono ?_; rintro e w1 ⟨rfl, rfl⟩) | (go_at_call 44; refine (l14Named_dec _ _).mono ?_; rintro e w1 ⟨rfl, rfl⟩) | (go_at_call 45; refine (l14Tagged_dec _ _).mono ?_; rintro e w1 ⟨rfl, rfl⟩))
  all_goals go_ret
  all_goals exact ⟨rfl, bxt⟩
theorem specReplyOk_any (a : DReply) (w : World) (g1 : a.name.size ≤ 9223372036854775807) (g2 : a.text.size ≤ 9223372036854775807) (r : Bool) (Hr : Hid (Tells r (ReplyP a))) :
    Calls Tryd.prog 26 #[.agg #[.int .i64 a.kind, .int .i64 a.n, .int .i64 a.uid, .int .i64 a.flags, .string a.name, .string a.text]] w fun e w' => e = .returned (.bool r) ∧ Ext w w' := by
  obtain ⟨k, n, u, f, nm, tx⟩ := a
  by_cases hk : 1 ≤ k ∧ k ≤ 16
  · have : k = 1 ∨ k = 2 ∨ k = 3 ∨ k = 4 ∨ k = 5 ∨ k = 6 ∨ k = 7 ∨ k = 8 ∨ k = 9 ∨ k = 10 ∨ k = 11 ∨ k = 12 ∨ k = 13 ∨ k = 14 ∨ k = 15 ∨ k = 16 := by omega
    rcases this with rfl | rfl | rfl | rfl | rfl | rfl | rfl | rfl | rfl | rfl | rfl | rfl | rfl | rfl | rfl | rfl
    · exact specReply1 n u f nm tx w g1 g2 r Hr
    · exact specReply2 n u f nm tx w g1 g2 r Hr
    · exact specReply3 n u f nm tx w g1 g2 r Hr
    · exact specReply4 n u f nm tx w g1 g2 r Hr
    · exact specReply5 n u f nm tx w g1 g2 r Hr
    · exact specReply6 n u f nm tx w g1 g2 r Hr
    · exact specReply7 n u f nm tx w g1 g2 r Hr
    · exact specReply8 n u f nm tx w g1 g2 r Hr
    · exact specReply9 n u f nm tx w g1 g2 r Hr
    · exact specReply10 n u f nm tx w g1 g2 r Hr
    · exact specReply11 n u f nm tx w g1 g2 r Hr
    · exact specReply12 n u f nm tx w g1 g2 r Hr
    · exact specReply13 n u f nm tx w g1 g2 r Hr
    · exact specReply14 n u f nm tx w g1 g2 r Hr
    · exact specReply15 n u f nm tx w g1 g2 r Hr
    · exact specReply16 n u f nm tx w g1 g2 r Hr
  · have : r = false := Hr.out.eq_false (replyK_no k n u f nm tx hk)
    subst this
    exact specReply0 k n u f nm tx w hk

end Go.Proofs.YtadjlfcdjkikgaaDoor
