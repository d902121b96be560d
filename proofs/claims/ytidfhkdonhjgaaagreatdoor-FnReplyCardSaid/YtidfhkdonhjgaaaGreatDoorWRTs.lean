/-
  The text of a reply: the reference's function.
-/
import Derived.Test.YtidfhkdonhjgaaaGreatDoorWCatP
import Derived.Test.YtidfhkdonhjgaaaGreatDoorWDig
import Derived.Test.YtidfhkdonhjgaaaGreatDoorWHex
import Derived.Test.YtidfhkdonhjgaaaGreatDoorWFlg
import Derived.Test.YtidfhkdonhjgaaaGreatDoorWspecReplyOk
namespace Go.Proofs.YtidfhkdonhjgaaaGreatDoor
open Go.RowKit
set_option linter.unusedVariables false
set_option linter.unusedSimpArgs false

theorem hexL_of {t : ByteArray} (h : ¬ t = ⟨#[]⟩) : hexL t.data.toList = Lib.Hx.encode t.data.toList := by
  unfold hexL
  rw [if_neg]
  intro e
  apply h
  obtain ⟨⟨l⟩⟩ := t
  simp at e
  subst e; rfl
def l14w (k : Int) : List UInt8 := if k = 9 then wCLOSED else if k = 10 then wOVERFLOW else if k = 11 then wBYE else wHELLO
theorem l14Word_any (k : Int) (w : World) (s : ByteArray) (h : (k = 9 ∧ s = bs wCLOSED) ∨ (k = 10 ∧ s = bs wOVERFLOW) ∨ (k = 11 ∧ s = bs wBYE) ∨ (k = 16 ∧ s = bs wHELLO)) :
    Calls Tryz.prog 38 #[.int .i64 k] w fun e w' => e = .returned (.string s) ∧ w' = w := by
  rcases h with ⟨rfl, rfl⟩ | ⟨rfl, rfl⟩ | ⟨rfl, rfl⟩ | ⟨rfl, rfl⟩
  all_goals
    go_enter Tryz.func38, Tryz.ntmps38
    go_wp2_with fail
    go_ret
    exact ⟨rfl, rfl⟩

set_option maxRecDepth 100000 in
set_option maxHeartbeats 4000000 in
theorem specText_1 (n : Int) (w : World) (hp : ReplyP (⟨1, n, 0, 0, ⟨#[]⟩, ⟨#[]⟩⟩ : DReply)) (h1 : 0 ≤ n ∧ n ≤ 999999999) :
    Calls Tryz.prog 13 #[.agg #[.int .i64 1, .int .i64 n, .int .i64 0, .int .i64 0, .string ⟨#[]⟩, .string ⟨#[]⟩]] w fun e w' => e = .returned (.string (txt (⟨1, n, 0, 0, ⟨#[]⟩, ⟨#[]⟩⟩ : DReply))) ∧ Ext w w' := by
  have sN := dgB_size n h1
  have HP := Lib.hid hp
  clear hp
  have HC := Lib.hid (cat_1 n )
  go_enter Tryz.func13, Tryz.ntmps13
  go_wp2_with fail
  refine (specReplyOk_any (⟨1, n, 0, 0, ⟨#[]⟩, ⟨#[]⟩⟩ : DReply) _ (show (⟨#[]⟩ : ByteArray).size ≤ 9223372036854775807 by decide) (show (⟨#[]⟩ : ByteArray).size ≤ 9223372036854775807 by decide) true (Lib.hid ⟨fun _ => HP.out, fun _ => rfl⟩)).mono ?_
  rintro e w1 ⟨rfl, b1⟩
  have c0w1 : w1.cell? ⟨w.heap.size, 0, none⟩ = some (.int .i64 1) := (b1.cell (p := ⟨w.heap.size, 0, none⟩) (by simp)).trans (by simp [go_sem])
  have c1w1 : w1.cell? ⟨w.heap.size, 1, none⟩ = some (.int .i64 n) := (b1.cell (p := ⟨w.heap.size, 1, none⟩) (by simp)).trans (by simp [go_sem])
  have hzw1 : w.heap.size < w1.heap.size := by (have := b1.size; simp at this; omega)
  go_wp2_with fail
  refine (specDigits_any n _ (by omega) (by omega)).mono ?_
  rintro e w2 ⟨rfl, b2⟩
  have c0w2 : w2.cell? ⟨w.heap.size, 0, none⟩ = some (.int .i64 1) := (b2.cell (p := ⟨w.heap.size, 0, none⟩) hzw1).trans c0w1
  have hzw2 : w.heap.size < w2.heap.size := by (have := b2.size; omega)
  have q0 : ¬ 9223372036854775807 < 2 + (dgB n).size := by omega
  have q1 : ¬ 9223372036854775807 < 2 + (dgB n).size + 7 := by omega
  go_wp2_with fail
  all_goals (first | (exfalso; omega) | skip)
  go_ret
  exact ⟨by rw [HC.out]; rfl, bxt⟩
set_option maxRecDepth 100000 in
set_option maxHeartbeats 4000000 in
theorem specText_2 (n : Int) (w : World) (hp : ReplyP (⟨2, n, 0, 0, ⟨#[]⟩, ⟨#[]⟩⟩ : DReply)) (h1 : 0 ≤ n ∧ n ≤ 999999999) :
    Calls Tryz.prog 13 #[.agg #[.int .i64 2, .int .i64 n, .int .i64 0, .int .i64 0, .string ⟨#[]⟩, .string ⟨#[]⟩]] w fun e w' => e = .returned (.string (txt (⟨2, n, 0, 0, ⟨#[]⟩, ⟨#[]⟩⟩ : DReply))) ∧ Ext w w' := by
  have sN := dgB_size n h1
  have HP := Lib.hid hp
  clear hp
  have HC := Lib.hid (cat_2 n )
  go_enter Tryz.func13, Tryz.ntmps13
  go_wp2_with fail
  refine (specReplyOk_any (⟨2, n, 0, 0, ⟨#[]⟩, ⟨#[]⟩⟩ : DReply) _ (show (⟨#[]⟩ : ByteArray).size ≤ 9223372036854775807 by decide) (show (⟨#[]⟩ : ByteArray).size ≤ 9223372036854775807 by decide) true (Lib.hid ⟨fun _ => HP.out, fun _ => rfl⟩)).mono ?_
  rintro e w1 ⟨rfl, b1⟩
  have c0w1 : w1.cell? ⟨w.heap.size, 0, none⟩ = some (.int .i64 2) := (b1.cell (p := ⟨w.heap.size, 0, none⟩) (by simp)).trans (by simp [go_sem])
  have c1w1 : w1.cell? ⟨w.heap.size, 1, none⟩ = some (.int .i64 n) := (b1.cell (p := ⟨w.heap.size, 1, none⟩) (by simp)).trans (by simp [go_sem])
  have hzw1 : w.heap.size < w1.heap.size := by (have := b1.size; simp at this; omega)
  go_wp2_with fail
  refine (specDigits_any n _ (by omega) (by omega)).mono ?_
  rintro e w2 ⟨rfl, b2⟩
  have c0w2 : w2.cell? ⟨w.heap.size, 0, none⟩ = some (.int .i64 2) := (b2.cell (p := ⟨w.heap.size, 0, none⟩) hzw1).trans c0w1
  have hzw2 : w.heap.size < w2.heap.size := by (have := b2.size; omega)
  have q0 : ¬ 9223372036854775807 < 2 + (dgB n).size := by omega
  have q1 : ¬ 9223372036854775807 < 2 + (dgB n).size + 8 := by omega
  go_wp2_with fail
  all_goals (first | (exfalso; omega) | skip)
  go_ret
  exact ⟨by rw [HC.out]; rfl, bxt⟩
set_option maxRecDepth 100000 in
set_option maxHeartbeats 4000000 in
theorem specText_3 (n u f : Int) (w : World) (hp : ReplyP (⟨3, n, u, f, ⟨#[]⟩, ⟨#[]⟩⟩ : DReply)) (h1 : 0 ≤ n ∧ n ≤ 999999999) (h2 : 0 ≤ u ∧ u ≤ 999999999) (h3 : 0 ≤ f ∧ f ≤ 31) :
    Calls Tryz.prog 13 #[.agg #[.int .i64 3, .int .i64 n, .int .i64 u, .int .i64 f, .string ⟨#[]⟩, .string ⟨#[]⟩]] w fun e w' => e = .returned (.string (txt (⟨3, n, u, f, ⟨#[]⟩, ⟨#[]⟩⟩ : DReply))) ∧ Ext w w' := by
  have sN := dgB_size n h1
  have sU := dgB_size u h2
  have sF := flB_size f h3
  have HP := Lib.hid hp
  clear hp
  have HC := Lib.hid (cat_3 n u f )
  go_enter Tryz.func13, Tryz.ntmps13
  go_wp2_with fail
  refine (specReplyOk_any (⟨3, n, u, f, ⟨#[]⟩, ⟨#[]⟩⟩ : DReply) _ (show (⟨#[]⟩ : ByteArray).size ≤ 9223372036854775807 by decide) (show (⟨#[]⟩ : ByteArray).size ≤ 9223372036854775807 by decide) true (Lib.hid ⟨fun _ => HP.out, fun _ => rfl⟩)).mono ?_
  rintro e w1 ⟨rfl, b1⟩
  have c0w1 : w1.cell? ⟨w.heap.size, 0, none⟩ = some (.int .i64 3) := (b1.cell (p := ⟨w.heap.size, 0, none⟩) (by simp)).trans (by simp [go_sem])
  have c1w1 : w1.cell? ⟨w.heap.size, 1, none⟩ = some (.int .i64 n) := (b1.cell (p := ⟨w.heap.size, 1, none⟩) (by simp)).trans (by simp [go_sem])
  have c2w1 : w1.cell? ⟨w.heap.size, 2, none⟩ = some (.int .i64 u) := (b1.cell (p := ⟨w.heap.size, 2, none⟩) (by simp)).trans (by simp [go_sem])
  have c3w1 : w1.cell? ⟨w.heap.size, 3, none⟩ = some (.int .i64 f) := (b1.cell (p := ⟨w.heap.size, 3, none⟩) (by simp)).trans (by simp [go_sem])
  have hzw1 : w.heap.size < w1.heap.size := by (have := b1.size; simp at this; omega)
  go_wp2_with fail
  refine (specDigits_any n _ (by omega) (by omega)).mono ?_
  rintro e w2 ⟨rfl, b2⟩
  have c0w2 : w2.cell? ⟨w.heap.size, 0, none⟩ = some (.int .i64 3) := (b2.cell (p := ⟨w.heap.size, 0, none⟩) hzw1).trans c0w1
  have c2w2 : w2.cell? ⟨w.heap.size, 2, none⟩ = some (.int .i64 u) := (b2.cell (p := ⟨w.heap.size, 2, none⟩) hzw1).trans c2w1
  have c3w2 : w2.cell? ⟨w.heap.size, 3, none⟩ = some (.int .i64 f) := (b2.cell (p := ⟨w.heap.size, 3, none⟩) hzw1).trans c3w1
  have hzw2 : w.heap.size < w2.heap.size := by (have := b2.size; omega)
  have q0 : ¬ 9223372036854775807 < 2 + (dgB n).size := by omega
  have q1 : ¬ 9223372036854775807 < 2 + (dgB n).size + 7 := by omega
  have q2 : ¬ 9223372036854775807 < 2 + (dgB n).size + 7 + (dgB u).size := by omega
  have q3 : ¬ 9223372036854775807 < 2 + (dgB n).size + 7 + (dgB u).size + 2 := by omega
  have q4 : ¬ 9223372036854775807 < 2 + (dgB n).size + 7 + (dgB u).size + 2 + (bs (flText f.toNat)).size := by omega
  have q5 : ¬ 9223372036854775807 < 2 + (dgB n).size + 7 + (dgB u).size + 2 + (bs (flText f.toNat)).size + 1 := by omega
  go_wp2_with fail
  have y2 := fun y : ExtW w2 => (y.h.cell (p := ⟨w.heap.size, 2, none⟩) hzw2).trans c2w2
  have y3 := fun y : ExtW w2 => (y.h.cell (p := ⟨w.heap.size, 3, none⟩) hzw2).trans c3w2
  clear c2w2 c3w2
  refine wp_region_ext (by kernel_rfl) (by kernel_rfl) ?_
  repeat (go_big_quiet_step (first | (go_at_call 35; refine (specDigits_any _ _ (by omega) (by omega)).mono ?_; rintro e w' ⟨rfl, hb⟩; exact ⟨rfl, ExtW.on _ hb⟩) | (go_at_call 36; refine (specFlagsText_any _ _ (by omega) (by omega)).mono ?_; rintro e w' ⟨rfl, hb⟩; exact ⟨rfl, ExtW.on _ hb⟩)))
  refine wpQuiet_nil ?_
  rintro wq ⟨⟨w3, hw3⟩, hxw3⟩
  have hyw3 : wq = w3 := hxw3
  subst hyw3
  clear hxw3
  have c2wq : wq.cell? ⟨w.heap.size, 2, none⟩ = some (.int .i64 u) := y2 ⟨wq, hw3⟩
  have c3wq : wq.cell? ⟨w.heap.size, 3, none⟩ = some (.int .i64 f) := y3 ⟨wq, hw3⟩
  clear y2 y3
  have hzwq : w.heap.size < wq.heap.size := by (have := hw3.size; omega)
  go_wp2_with fail
  all_goals (first | (exfalso; omega) | skip)
  go_ret
  exact ⟨by rw [HC.out]; rfl, bxt⟩
set_option maxRecDepth 100000 in
set_option maxHeartbeats 4000000 in
theorem specText_4 (n : Int) (tx : ByteArray) (w : World) (hp : ReplyP (⟨4, n, 0, 0, ⟨#[]⟩, tx⟩ : DReply)) (h1 : 0 ≤ n ∧ n ≤ 999999999) (ht : tx.size ≤ 40) :
    Calls Tryz.prog 13 #[.agg #[.int .i64 4, .int .i64 n, .int .i64 0, .int .i64 0, .string ⟨#[]⟩, .string tx]] w fun e w' => e = .returned (.string (txt (⟨4, n, 0, 0, ⟨#[]⟩, tx⟩ : DReply))) ∧ Ext w w' := by
  have sN := dgB_size n h1
  have sX := hexB_size tx ht
  have HP := Lib.hid hp
  clear hp
  have HC := Lib.hid (cat_4 n tx )
  go_enter Tryz.func13, Tryz.ntmps13
  go_wp2_with fail
  refine (specReplyOk_any (⟨4, n, 0, 0, ⟨#[]⟩, tx⟩ : DReply) _ (show (⟨#[]⟩ : ByteArray).size ≤ 9223372036854775807 by decide) (show (tx : ByteArray).size ≤ 9223372036854775807 by omega) true (Lib.hid ⟨fun _ => HP.out, fun _ => rfl⟩)).mono ?_
  rintro e w1 ⟨rfl, b1⟩
  have c0w1 : w1.cell? ⟨w.heap.size, 0, none⟩ = some (.int .i64 4) := (b1.cell (p := ⟨w.heap.size, 0, none⟩) (by simp)).trans (by simp [go_sem])
  have c1w1 : w1.cell? ⟨w.heap.size, 1, none⟩ = some (.int .i64 n) := (b1.cell (p := ⟨w.heap.size, 1, none⟩) (by simp)).trans (by simp [go_sem])
  have c5w1 : w1.cell? ⟨w.heap.size, 5, none⟩ = some (.string tx) := (b1.cell (p := ⟨w.heap.size, 5, none⟩) (by simp)).trans (by simp [go_sem])
  have hzw1 : w.heap.size < w1.heap.size := by (have := b1.size; simp at this; omega)
  go_wp2_with fail
  refine (specDigits_any n _ (by omega) (by omega)).mono ?_
  rintro e w2 ⟨rfl, b2⟩
  have c0w2 : w2.cell? ⟨w.heap.size, 0, none⟩ = some (.int .i64 4) := (b2.cell (p := ⟨w.heap.size, 0, none⟩) hzw1).trans c0w1
  have c5w2 : w2.cell? ⟨w.heap.size, 5, none⟩ = some (.string tx) := (b2.cell (p := ⟨w.heap.size, 5, none⟩) hzw1).trans c5w1
  have hzw2 : w.heap.size < w2.heap.size := by (have := b2.size; omega)
  by_cases he : tx = ⟨#[]⟩
  · have e1 : tx.toList.isEmpty = true := by (rw [str_empty]; exact decide_eq_true he)
    have HC := Lib.hid (cat_4e n tx he)
    clear he
    have q0 : ¬ 9223372036854775807 < 2 + (dgB n).size := by omega
    have q1 : ¬ 9223372036854775807 < 2 + (dgB n).size + 7 := by omega
    go_wp2_with fail
    all_goals (first | (exfalso; omega) | skip)
    go_ret
    exact ⟨by rw [HC.out]; rfl, bxt⟩
  · have e1 : tx.toList.isEmpty = false := by (rw [str_empty]; exact decide_eq_false he)
    have hh := hexL_of he
    have HH := Lib.hid hh
    clear hh he
    have q0 : ¬ 9223372036854775807 < 2 + (dgB n).size := by omega
    have q1 : ¬ 9223372036854775807 < 2 + (dgB n).size + 6 := by omega
    have q2 : ¬ 9223372036854775807 < 2 + (dgB n).size + 6 + (bs (hexL tx.data.toList)).size := by omega
    go_wp2_with fail
    all_goals (first | (exfalso; omega) | skip)
    refine (specHex_any tx _ (by omega)).mono ?_
    rintro e w3 ⟨rfl, b3⟩
    rw [← HH.out]
    go_wp2_with fail
    all_goals (first | (exfalso; omega) | skip)
    go_ret
    exact ⟨by rw [HC.out]; rfl, bxt⟩
set_option maxRecDepth 100000 in
set_option maxHeartbeats 4000000 in
theorem specText_5 (n u : Int) (nm : ByteArray) (w : World) (hp : ReplyP (⟨5, n, u, 0, nm, ⟨#[]⟩⟩ : DReply)) (h1 : 0 ≤ n ∧ n ≤ 999999999) (h2 : 0 ≤ u ∧ u ≤ 999999999) (hn : nm.size ≤ 12) :
    Calls Tryz.prog 13 #[.agg #[.int .i64 5, .int .i64 n, .int .i64 u, .int .i64 0, .string nm, .string ⟨#[]⟩]] w fun e w' => e = .returned (.string (txt (⟨5, n, u, 0, nm, ⟨#[]⟩⟩ : DReply))) ∧ Ext w w' := by
  have sN := dgB_size n h1
  have sU := dgB_size u h2
  have HP := Lib.hid hp
  clear hp
  have HC := Lib.hid (cat_5 n u nm )
  go_enter Tryz.func13, Tryz.ntmps13
  go_wp2_with fail
  refine (specReplyOk_any (⟨5, n, u, 0, nm, ⟨#[]⟩⟩ : DReply) _ (show (nm : ByteArray).size ≤ 9223372036854775807 by omega) (show (⟨#[]⟩ : ByteArray).size ≤ 9223372036854775807 by decide) true (Lib.hid ⟨fun _ => HP.out, fun _ => rfl⟩)).mono ?_
  rintro e w1 ⟨rfl, b1⟩
  have c0w1 : w1.cell? ⟨w.heap.size, 0, none⟩ = some (.int .i64 5) := (b1.cell (p := ⟨w.heap.size, 0, none⟩) (by simp)).trans (by simp [go_sem])
  have c1w1 : w1.cell? ⟨w.heap.size, 1, none⟩ = some (.int .i64 n) := (b1.cell (p := ⟨w.heap.size, 1, none⟩) (by simp)).trans (by simp [go_sem])
  have c2w1 : w1.cell? ⟨w.heap.size, 2, none⟩ = some (.int .i64 u) := (b1.cell (p := ⟨w.heap.size, 2, none⟩) (by simp)).trans (by simp [go_sem])
  have c4w1 : w1.cell? ⟨w.heap.size, 4, none⟩ = some (.string nm) := (b1.cell (p := ⟨w.heap.size, 4, none⟩) (by simp)).trans (by simp [go_sem])
  have hzw1 : w.heap.size < w1.heap.size := by (have := b1.size; simp at this; omega)
  go_wp2_with fail
  refine (specDigits_any n _ (by omega) (by omega)).mono ?_
  rintro e w2 ⟨rfl, b2⟩
  have c0w2 : w2.cell? ⟨w.heap.size, 0, none⟩ = some (.int .i64 5) := (b2.cell (p := ⟨w.heap.size, 0, none⟩) hzw1).trans c0w1
  have c2w2 : w2.cell? ⟨w.heap.size, 2, none⟩ = some (.int .i64 u) := (b2.cell (p := ⟨w.heap.size, 2, none⟩) hzw1).trans c2w1
  have c4w2 : w2.cell? ⟨w.heap.size, 4, none⟩ = some (.string nm) := (b2.cell (p := ⟨w.heap.size, 4, none⟩) hzw1).trans c4w1
  have hzw2 : w.heap.size < w2.heap.size := by (have := b2.size; omega)
  have q0 : ¬ 9223372036854775807 < 9 + nm.size := by omega
  have q1 : ¬ 9223372036854775807 < 9 + nm.size + 1 := by omega
  have q2 : ¬ 9223372036854775807 < 9 + nm.size + 1 + (dgB n).size := by omega
  have q3 : ¬ 9223372036854775807 < 9 + nm.size + 1 + (dgB n).size + 1 := by omega
  have q4 : ¬ 9223372036854775807 < 9 + nm.size + 1 + (dgB n).size + 1 + (dgB u).size := by omega
  go_wp2_with fail
  have y2 := fun y : ExtW w2 => (y.h.cell (p := ⟨w.heap.size, 2, none⟩) hzw2).trans c2w2
  have y4 := fun y : ExtW w2 => (y.h.cell (p := ⟨w.heap.size, 4, none⟩) hzw2).trans c4w2
  clear c2w2 c4w2
  refine wp_region_ext (by kernel_rfl) (by kernel_rfl) ?_
  repeat (go_big_quiet_step (first | (go_at_call 35; refine (specDigits_any _ _ (by omega) (by omega)).mono ?_; rintro e w' ⟨rfl, hb⟩; exact ⟨rfl, ExtW.on _ hb⟩)))
  refine wpQuiet_nil ?_
  rintro wq ⟨⟨w3, hw3⟩, hxw3⟩
  have hyw3 : wq = w3 := hxw3
  subst hyw3
  clear hxw3
  have c2wq : wq.cell? ⟨w.heap.size, 2, none⟩ = some (.int .i64 u) := y2 ⟨wq, hw3⟩
  have c4wq : wq.cell? ⟨w.heap.size, 4, none⟩ = some (.string nm) := y4 ⟨wq, hw3⟩
  clear y2 y4
  have hzwq : w.heap.size < wq.heap.size := by (have := hw3.size; omega)
  go_wp2_with fail
  all_goals (first | (exfalso; omega) | skip)
  go_ret
  exact ⟨by rw [HC.out]; rfl, bxt⟩
set_option maxRecDepth 100000 in
set_option maxHeartbeats 4000000 in
theorem specText_6 (nm : ByteArray) (w : World) (hp : ReplyP (⟨6, 0, 0, 0, nm, ⟨#[]⟩⟩ : DReply)) (hn : nm.size ≤ 12) :
    Calls Tryz.prog 13 #[.agg #[.int .i64 6, .int .i64 0, .int .i64 0, .int .i64 0, .string nm, .string ⟨#[]⟩]] w fun e w' => e = .returned (.string (txt (⟨6, 0, 0, 0, nm, ⟨#[]⟩⟩ : DReply))) ∧ Ext w w' := by
  have HP := Lib.hid hp
  clear hp
  have HC := Lib.hid (cat_6 nm )
  go_enter Tryz.func13, Tryz.ntmps13
  go_wp2_with fail
  refine (specReplyOk_any (⟨6, 0, 0, 0, nm, ⟨#[]⟩⟩ : DReply) _ (show (nm : ByteArray).size ≤ 9223372036854775807 by omega) (show (⟨#[]⟩ : ByteArray).size ≤ 9223372036854775807 by decide) true (Lib.hid ⟨fun _ => HP.out, fun _ => rfl⟩)).mono ?_
  rintro e w1 ⟨rfl, b1⟩
  have c0w1 : w1.cell? ⟨w.heap.size, 0, none⟩ = some (.int .i64 6) := (b1.cell (p := ⟨w.heap.size, 0, none⟩) (by simp)).trans (by simp [go_sem])
  have c1w1 : w1.cell? ⟨w.heap.size, 1, none⟩ = some (.int .i64 0) := (b1.cell (p := ⟨w.heap.size, 1, none⟩) (by simp)).trans (by simp [go_sem])
  have c4w1 : w1.cell? ⟨w.heap.size, 4, none⟩ = some (.string nm) := (b1.cell (p := ⟨w.heap.size, 4, none⟩) (by simp)).trans (by simp [go_sem])
  have hzw1 : w.heap.size < w1.heap.size := by (have := b1.size; simp at this; omega)
  go_wp2_with fail
  refine (specDigits_any 0 _ (by omega) (by omega)).mono ?_
  rintro e w2 ⟨rfl, b2⟩
  have c0w2 : w2.cell? ⟨w.heap.size, 0, none⟩ = some (.int .i64 6) := (b2.cell (p := ⟨w.heap.size, 0, none⟩) hzw1).trans c0w1
  have c4w2 : w2.cell? ⟨w.heap.size, 4, none⟩ = some (.string nm) := (b2.cell (p := ⟨w.heap.size, 4, none⟩) hzw1).trans c4w1
  have hzw2 : w.heap.size < w2.heap.size := by (have := b2.size; omega)
  have q0 : ¬ 9223372036854775807 < 7 + nm.size := by omega
  go_wp2_with fail
  all_goals (first | (exfalso; omega) | skip)
  go_ret
  exact ⟨by rw [HC.out]; rfl, bxt⟩
set_option maxRecDepth 100000 in
set_option maxHeartbeats 4000000 in
theorem specText_7 (nm : ByteArray) (w : World) (hp : ReplyP (⟨7, 0, 0, 0, nm, ⟨#[]⟩⟩ : DReply)) (hn : nm.size ≤ 12) :
    Calls Tryz.prog 13 #[.agg #[.int .i64 7, .int .i64 0, .int .i64 0, .int .i64 0, .string nm, .string ⟨#[]⟩]] w fun e w' => e = .returned (.string (txt (⟨7, 0, 0, 0, nm, ⟨#[]⟩⟩ : DReply))) ∧ Ext w w' := by
  have HP := Lib.hid hp
  clear hp
  have HC := Lib.hid (cat_7 nm )
  go_enter Tryz.func13, Tryz.ntmps13
  go_wp2_with fail
  refine (specReplyOk_any (⟨7, 0, 0, 0, nm, ⟨#[]⟩⟩ : DReply) _ (show (nm : ByteArray).size ≤ 9223372036854775807 by omega) (show (⟨#[]⟩ : ByteArray).size ≤ 9223372036854775807 by decide) true (Lib.hid ⟨fun _ => HP.out, fun _ => rfl⟩)).mono ?_
  rintro e w1 ⟨rfl, b1⟩
  have c0w1 : w1.cell? ⟨w.heap.size, 0, none⟩ = some (.int .i64 7) := (b1.cell (p := ⟨w.heap.size, 0, none⟩) (by simp)).trans (by simp [go_sem])
  have c1w1 : w1.cell? ⟨w.heap.size, 1, none⟩ = some (.int .i64 0) := (b1.cell (p := ⟨w.heap.size, 1, none⟩) (by simp)).trans (by simp [go_sem])
  have c4w1 : w1.cell? ⟨w.heap.size, 4, none⟩ = some (.string nm) := (b1.cell (p := ⟨w.heap.size, 4, none⟩) (by simp)).trans (by simp [go_sem])
  have hzw1 : w.heap.size < w1.heap.size := by (have := b1.size; simp at this; omega)
  go_wp2_with fail
  refine (specDigits_any 0 _ (by omega) (by omega)).mono ?_
  rintro e w2 ⟨rfl, b2⟩
  have c0w2 : w2.cell? ⟨w.heap.size, 0, none⟩ = some (.int .i64 7) := (b2.cell (p := ⟨w.heap.size, 0, none⟩) hzw1).trans c0w1
  have c4w2 : w2.cell? ⟨w.heap.size, 4, none⟩ = some (.string nm) := (b2.cell (p := ⟨w.heap.size, 4, none⟩) hzw1).trans c4w1
  have hzw2 : w.heap.size < w2.heap.size := by (have := b2.size; omega)
  have q0 : ¬ 9223372036854775807 < 7 + nm.size := by omega
  go_wp2_with fail
  all_goals (first | (exfalso; omega) | skip)
  go_ret
  exact ⟨by rw [HC.out]; rfl, bxt⟩
set_option maxRecDepth 100000 in
set_option maxHeartbeats 4000000 in
theorem specText_8 (n : Int) (nm : ByteArray) (w : World) (hp : ReplyP (⟨8, n, 0, 0, nm, ⟨#[]⟩⟩ : DReply)) (h1 : 0 ≤ n ∧ n ≤ 999999999) (hn : nm.size ≤ 12) :
    Calls Tryz.prog 13 #[.agg #[.int .i64 8, .int .i64 n, .int .i64 0, .int .i64 0, .string nm, .string ⟨#[]⟩]] w fun e w' => e = .returned (.string (txt (⟨8, n, 0, 0, nm, ⟨#[]⟩⟩ : DReply))) ∧ Ext w w' := by
  have sN := dgB_size n h1
  have HP := Lib.hid hp
  clear hp
  have HC := Lib.hid (cat_8 n nm )
  go_enter Tryz.func13, Tryz.ntmps13
  go_wp2_with fail
  refine (specReplyOk_any (⟨8, n, 0, 0, nm, ⟨#[]⟩⟩ : DReply) _ (show (nm : ByteArray).size ≤ 9223372036854775807 by omega) (show (⟨#[]⟩ : ByteArray).size ≤ 9223372036854775807 by decide) true (Lib.hid ⟨fun _ => HP.out, fun _ => rfl⟩)).mono ?_
  rintro e w1 ⟨rfl, b1⟩
  have c0w1 : w1.cell? ⟨w.heap.size, 0, none⟩ = some (.int .i64 8) := (b1.cell (p := ⟨w.heap.size, 0, none⟩) (by simp)).trans (by simp [go_sem])
  have c1w1 : w1.cell? ⟨w.heap.size, 1, none⟩ = some (.int .i64 n) := (b1.cell (p := ⟨w.heap.size, 1, none⟩) (by simp)).trans (by simp [go_sem])
  have c4w1 : w1.cell? ⟨w.heap.size, 4, none⟩ = some (.string nm) := (b1.cell (p := ⟨w.heap.size, 4, none⟩) (by simp)).trans (by simp [go_sem])
  have hzw1 : w.heap.size < w1.heap.size := by (have := b1.size; simp at this; omega)
  go_wp2_with fail
  refine (specDigits_any n _ (by omega) (by omega)).mono ?_
  rintro e w2 ⟨rfl, b2⟩
  have c0w2 : w2.cell? ⟨w.heap.size, 0, none⟩ = some (.int .i64 8) := (b2.cell (p := ⟨w.heap.size, 0, none⟩) hzw1).trans c0w1
  have c4w2 : w2.cell? ⟨w.heap.size, 4, none⟩ = some (.string nm) := (b2.cell (p := ⟨w.heap.size, 4, none⟩) hzw1).trans c4w1
  have hzw2 : w.heap.size < w2.heap.size := by (have := b2.size; omega)
  have q0 : ¬ 9223372036854775807 < 11 + nm.size := by omega
  have q1 : ¬ 9223372036854775807 < 11 + nm.size + 1 := by omega
  have q2 : ¬ 9223372036854775807 < 11 + nm.size + 1 + (dgB n).size := by omega
  go_wp2_with fail
  all_goals (first | (exfalso; omega) | skip)
  go_ret
  exact ⟨by rw [HC.out]; rfl, bxt⟩
set_option maxRecDepth 100000 in
set_option maxHeartbeats 4000000 in
theorem specText_9 (w : World) (hp : ReplyP (⟨9, 0, 0, 0, ⟨#[]⟩, ⟨#[]⟩⟩ : DReply))  :
    Calls Tryz.prog 13 #[.agg #[.int .i64 9, .int .i64 0, .int .i64 0, .int .i64 0, .string ⟨#[]⟩, .string ⟨#[]⟩]] w fun e w' => e = .returned (.string (txt (⟨9, 0, 0, 0, ⟨#[]⟩, ⟨#[]⟩⟩ : DReply))) ∧ Ext w w' := by
  have HP := Lib.hid hp
  clear hp
  have HC := Lib.hid (cat_9 )
  go_enter Tryz.func13, Tryz.ntmps13
  go_wp2_with fail
  refine (specReplyOk_any (⟨9, 0, 0, 0, ⟨#[]⟩, ⟨#[]⟩⟩ : DReply) _ (show (⟨#[]⟩ : ByteArray).size ≤ 9223372036854775807 by decide) (show (⟨#[]⟩ : ByteArray).size ≤ 9223372036854775807 by decide) true (Lib.hid ⟨fun _ => HP.out, fun _ => rfl⟩)).mono ?_
  rintro e w1 ⟨rfl, b1⟩
  have c0w1 : w1.cell? ⟨w.heap.size, 0, none⟩ = some (.int .i64 9) := (b1.cell (p := ⟨w.heap.size, 0, none⟩) (by simp)).trans (by simp [go_sem])
  have c1w1 : w1.cell? ⟨w.heap.size, 1, none⟩ = some (.int .i64 0) := (b1.cell (p := ⟨w.heap.size, 1, none⟩) (by simp)).trans (by simp [go_sem])
  have hzw1 : w.heap.size < w1.heap.size := by (have := b1.size; simp at this; omega)
  go_wp2_with fail
  refine (specDigits_any 0 _ (by omega) (by omega)).mono ?_
  rintro e w2 ⟨rfl, b2⟩
  have c0w2 : w2.cell? ⟨w.heap.size, 0, none⟩ = some (.int .i64 9) := (b2.cell (p := ⟨w.heap.size, 0, none⟩) hzw1).trans c0w1
  have hzw2 : w.heap.size < w2.heap.size := by (have := b2.size; omega)
  go_wp2_with fail
  refine (l14Word_any 9 _ (bs wCLOSED) (Or.inl ⟨rfl, rfl⟩)).mono ?_
  rintro e w3 ⟨rfl, rfl⟩
  go_wp2_with fail
  go_ret
  exact ⟨by rw [HC.out]; first | rfl | decide, bxt⟩
set_option maxRecDepth 100000 in
set_option maxHeartbeats 4000000 in
theorem specText_10 (w : World) (hp : ReplyP (⟨10, 0, 0, 0, ⟨#[]⟩, ⟨#[]⟩⟩ : DReply))  :
    Calls Tryz.prog 13 #[.agg #[.int .i64 10, .int .i64 0, .int .i64 0, .int .i64 0, .string ⟨#[]⟩, .string ⟨#[]⟩]] w fun e w' => e = .returned (.string (txt (⟨10, 0, 0, 0, ⟨#[]⟩, ⟨#[]⟩⟩ : DReply))) ∧ Ext w w' := by
  have HP := Lib.hid hp
  clear hp
  have HC := Lib.hid (cat_10 )
  go_enter Tryz.func13, Tryz.ntmps13
  go_wp2_with fail
  refine (specReplyOk_any (⟨10, 0, 0, 0, ⟨#[]⟩, ⟨#[]⟩⟩ : DReply) _ (show (⟨#[]⟩ : ByteArray).size ≤ 9223372036854775807 by decide) (show (⟨#[]⟩ : ByteArray).size ≤ 9223372036854775807 by decide) true (Lib.hid ⟨fun _ => HP.out, fun _ => rfl⟩)).mono ?_
  rintro e w1 ⟨rfl, b1⟩
  have c0w1 : w1.cell? ⟨w.heap.size, 0, none⟩ = some (.int .i64 10) := (b1.cell (p := ⟨w.heap.size, 0, none⟩) (by simp)).trans (by simp [go_sem])
  have c1w1 : w1.cell? ⟨w.heap.size, 1, none⟩ = some (.int .i64 0) := (b1.cell (p := ⟨w.heap.size, 1, none⟩) (by simp)).trans (by simp [go_sem])
  have hzw1 : w.heap.size < w1.heap.size := by (have := b1.size; simp at this; omega)
  go_wp2_with fail
  refine (specDigits_any 0 _ (by omega) (by omega)).mono ?_
  rintro e w2 ⟨rfl, b2⟩
  have c0w2 : w2.cell? ⟨w.heap.size, 0, none⟩ = some (.int .i64 10) := (b2.cell (p := ⟨w.heap.size, 0, none⟩) hzw1).trans c0w1
  have hzw2 : w.heap.size < w2.heap.size := by (have := b2.size; omega)
  go_wp2_with fail
  refine (l14Word_any 10 _ (bs wOVERFLOW) (Or.inr (Or.inl ⟨rfl, rfl⟩))).mono ?_
  rintro e w3 ⟨rfl, rfl⟩
  go_wp2_with fail
  go_ret
  exact ⟨by rw [HC.out]; first | rfl | decide, bxt⟩
set_option maxRecDepth 100000 in
set_option maxHeartbeats 4000000 in
theorem specText_11 (w : World) (hp : ReplyP (⟨11, 0, 0, 0, ⟨#[]⟩, ⟨#[]⟩⟩ : DReply))  :
    Calls Tryz.prog 13 #[.agg #[.int .i64 11, .int .i64 0, .int .i64 0, .int .i64 0, .string ⟨#[]⟩, .string ⟨#[]⟩]] w fun e w' => e = .returned (.string (txt (⟨11, 0, 0, 0, ⟨#[]⟩, ⟨#[]⟩⟩ : DReply))) ∧ Ext w w' := by
  have HP := Lib.hid hp
  clear hp
  have HC := Lib.hid (cat_11 )
  go_enter Tryz.func13, Tryz.ntmps13
  go_wp2_with fail
  refine (specReplyOk_any (⟨11, 0, 0, 0, ⟨#[]⟩, ⟨#[]⟩⟩ : DReply) _ (show (⟨#[]⟩ : ByteArray).size ≤ 9223372036854775807 by decide) (show (⟨#[]⟩ : ByteArray).size ≤ 9223372036854775807 by decide) true (Lib.hid ⟨fun _ => HP.out, fun _ => rfl⟩)).mono ?_
  rintro e w1 ⟨rfl, b1⟩
  have c0w1 : w1.cell? ⟨w.heap.size, 0, none⟩ = some (.int .i64 11) := (b1.cell (p := ⟨w.heap.size, 0, none⟩) (by simp)).trans (by simp [go_sem])
  have c1w1 : w1.cell? ⟨w.heap.size, 1, none⟩ = some (.int .i64 0) := (b1.cell (p := ⟨w.heap.size, 1, none⟩) (by simp)).trans (by simp [go_sem])
  have hzw1 : w.heap.size < w1.heap.size := by (have := b1.size; simp at this; omega)
  go_wp2_with fail
  refine (specDigits_any 0 _ (by omega) (by omega)).mono ?_
  rintro e w2 ⟨rfl, b2⟩
  have c0w2 : w2.cell? ⟨w.heap.size, 0, none⟩ = some (.int .i64 11) := (b2.cell (p := ⟨w.heap.size, 0, none⟩) hzw1).trans c0w1
  have hzw2 : w.heap.size < w2.heap.size := by (have := b2.size; omega)
  go_wp2_with fail
  refine (l14Word_any 11 _ (bs wBYE) (Or.inr (Or.inr (Or.inl ⟨rfl, rfl⟩)))).mono ?_
  rintro e w3 ⟨rfl, rfl⟩
  go_wp2_with fail
  go_ret
  exact ⟨by rw [HC.out]; first | rfl | decide, bxt⟩
set_option maxRecDepth 100000 in
set_option maxHeartbeats 4000000 in
theorem specText_12 (nm : ByteArray) (w : World) (hp : ReplyP (⟨12, 0, 0, 0, nm, ⟨#[]⟩⟩ : DReply)) (hn : nm.size ≤ 12) :
    Calls Tryz.prog 13 #[.agg #[.int .i64 12, .int .i64 0, .int .i64 0, .int .i64 0, .string nm, .string ⟨#[]⟩]] w fun e w' => e = .returned (.string (txt (⟨12, 0, 0, 0, nm, ⟨#[]⟩⟩ : DReply))) ∧ Ext w w' := by
  have HP := Lib.hid hp
  clear hp
  have HC := Lib.hid (cat_12 nm )
  go_enter Tryz.func13, Tryz.ntmps13
  go_wp2_with fail
  refine (specReplyOk_any (⟨12, 0, 0, 0, nm, ⟨#[]⟩⟩ : DReply) _ (show (nm : ByteArray).size ≤ 9223372036854775807 by omega) (show (⟨#[]⟩ : ByteArray).size ≤ 9223372036854775807 by decide) true (Lib.hid ⟨fun _ => HP.out, fun _ => rfl⟩)).mono ?_
  rintro e w1 ⟨rfl, b1⟩
  have c0w1 : w1.cell? ⟨w.heap.size, 0, none⟩ = some (.int .i64 12) := (b1.cell (p := ⟨w.heap.size, 0, none⟩) (by simp)).trans (by simp [go_sem])
  have c1w1 : w1.cell? ⟨w.heap.size, 1, none⟩ = some (.int .i64 0) := (b1.cell (p := ⟨w.heap.size, 1, none⟩) (by simp)).trans (by simp [go_sem])
  have c4w1 : w1.cell? ⟨w.heap.size, 4, none⟩ = some (.string nm) := (b1.cell (p := ⟨w.heap.size, 4, none⟩) (by simp)).trans (by simp [go_sem])
  have hzw1 : w.heap.size < w1.heap.size := by (have := b1.size; simp at this; omega)
  go_wp2_with fail
  refine (specDigits_any 0 _ (by omega) (by omega)).mono ?_
  rintro e w2 ⟨rfl, b2⟩
  have c0w2 : w2.cell? ⟨w.heap.size, 0, none⟩ = some (.int .i64 12) := (b2.cell (p := ⟨w.heap.size, 0, none⟩) hzw1).trans c0w1
  have c4w2 : w2.cell? ⟨w.heap.size, 4, none⟩ = some (.string nm) := (b2.cell (p := ⟨w.heap.size, 4, none⟩) hzw1).trans c4w1
  have hzw2 : w.heap.size < w2.heap.size := by (have := b2.size; omega)
  have q0 : ¬ 9223372036854775807 < nm.size + 3 := by omega
  go_wp2_with fail
  all_goals (first | (exfalso; omega) | skip)
  go_ret
  exact ⟨by rw [HC.out]; rfl, bxt⟩
set_option maxRecDepth 100000 in
set_option maxHeartbeats 4000000 in
theorem specText_13 (nm : ByteArray) (w : World) (hp : ReplyP (⟨13, 0, 0, 0, nm, ⟨#[]⟩⟩ : DReply)) (hn : nm.size ≤ 12) :
    Calls Tryz.prog 13 #[.agg #[.int .i64 13, .int .i64 0, .int .i64 0, .int .i64 0, .string nm, .string ⟨#[]⟩]] w fun e w' => e = .returned (.string (txt (⟨13, 0, 0, 0, nm, ⟨#[]⟩⟩ : DReply))) ∧ Ext w w' := by
  have HP := Lib.hid hp
  clear hp
  have HC := Lib.hid (cat_13 nm )
  go_enter Tryz.func13, Tryz.ntmps13
  go_wp2_with fail
  refine (specReplyOk_any (⟨13, 0, 0, 0, nm, ⟨#[]⟩⟩ : DReply) _ (show (nm : ByteArray).size ≤ 9223372036854775807 by omega) (show (⟨#[]⟩ : ByteArray).size ≤ 9223372036854775807 by decide) true (Lib.hid ⟨fun _ => HP.out, fun _ => rfl⟩)).mono ?_
  rintro e w1 ⟨rfl, b1⟩
  have c0w1 : w1.cell? ⟨w.heap.size, 0, none⟩ = some (.int .i64 13) := (b1.cell (p := ⟨w.heap.size, 0, none⟩) (by simp)).trans (by simp [go_sem])
  have c1w1 : w1.cell? ⟨w.heap.size, 1, none⟩ = some (.int .i64 0) := (b1.cell (p := ⟨w.heap.size, 1, none⟩) (by simp)).trans (by simp [go_sem])
  have c4w1 : w1.cell? ⟨w.heap.size, 4, none⟩ = some (.string nm) := (b1.cell (p := ⟨w.heap.size, 4, none⟩) (by simp)).trans (by simp [go_sem])
  have hzw1 : w.heap.size < w1.heap.size := by (have := b1.size; simp at this; omega)
  go_wp2_with fail
  refine (specDigits_any 0 _ (by omega) (by omega)).mono ?_
  rintro e w2 ⟨rfl, b2⟩
  have c0w2 : w2.cell? ⟨w.heap.size, 0, none⟩ = some (.int .i64 13) := (b2.cell (p := ⟨w.heap.size, 0, none⟩) hzw1).trans c0w1
  have c4w2 : w2.cell? ⟨w.heap.size, 4, none⟩ = some (.string nm) := (b2.cell (p := ⟨w.heap.size, 4, none⟩) hzw1).trans c4w1
  have hzw2 : w.heap.size < w2.heap.size := by (have := b2.size; omega)
  have q0 : ¬ 9223372036854775807 < nm.size + 3 := by omega
  go_wp2_with fail
  all_goals (first | (exfalso; omega) | skip)
  go_ret
  exact ⟨by rw [HC.out]; rfl, bxt⟩
set_option maxRecDepth 100000 in
set_option maxHeartbeats 4000000 in
theorem specText_14 (nm : ByteArray) (w : World) (hp : ReplyP (⟨14, 0, 0, 0, nm, ⟨#[]⟩⟩ : DReply)) (hn : nm.size ≤ 12) :
    Calls Tryz.prog 13 #[.agg #[.int .i64 14, .int .i64 0, .int .i64 0, .int .i64 0, .string nm, .string ⟨#[]⟩]] w fun e w' => e = .returned (.string (txt (⟨14, 0, 0, 0, nm, ⟨#[]⟩⟩ : DReply))) ∧ Ext w w' := by
  have HP := Lib.hid hp
  clear hp
  have HC := Lib.hid (cat_14 nm )
  go_enter Tryz.func13, Tryz.ntmps13
  go_wp2_with fail
  refine (specReplyOk_any (⟨14, 0, 0, 0, nm, ⟨#[]⟩⟩ : DReply) _ (show (nm : ByteArray).size ≤ 9223372036854775807 by omega) (show (⟨#[]⟩ : ByteArray).size ≤ 9223372036854775807 by decide) true (Lib.hid ⟨fun _ => HP.out, fun _ => rfl⟩)).mono ?_
  rintro e w1 ⟨rfl, b1⟩
  have c0w1 : w1.cell? ⟨w.heap.size, 0, none⟩ = some (.int .i64 14) := (b1.cell (p := ⟨w.heap.size, 0, none⟩) (by simp)).trans (by simp [go_sem])
  have c1w1 : w1.cell? ⟨w.heap.size, 1, none⟩ = some (.int .i64 0) := (b1.cell (p := ⟨w.heap.size, 1, none⟩) (by simp)).trans (by simp [go_sem])
  have c4w1 : w1.cell? ⟨w.heap.size, 4, none⟩ = some (.string nm) := (b1.cell (p := ⟨w.heap.size, 4, none⟩) (by simp)).trans (by simp [go_sem])
  have hzw1 : w.heap.size < w1.heap.size := by (have := b1.size; simp at this; omega)
  go_wp2_with fail
  refine (specDigits_any 0 _ (by omega) (by omega)).mono ?_
  rintro e w2 ⟨rfl, b2⟩
  have c0w2 : w2.cell? ⟨w.heap.size, 0, none⟩ = some (.int .i64 14) := (b2.cell (p := ⟨w.heap.size, 0, none⟩) hzw1).trans c0w1
  have c4w2 : w2.cell? ⟨w.heap.size, 4, none⟩ = some (.string nm) := (b2.cell (p := ⟨w.heap.size, 4, none⟩) hzw1).trans c4w1
  have hzw2 : w.heap.size < w2.heap.size := by (have := b2.size; omega)
  have q0 : ¬ 9223372036854775807 < nm.size + 4 := by omega
  go_wp2_with fail
  all_goals (first | (exfalso; omega) | skip)
  go_ret
  exact ⟨by rw [HC.out]; rfl, bxt⟩
set_option maxRecDepth 100000 in
set_option maxHeartbeats 4000000 in
theorem specText_15 (w : World) (hp : ReplyP (⟨15, 0, 0, 0, ⟨#[]⟩, ⟨#[]⟩⟩ : DReply))  :
    Calls Tryz.prog 13 #[.agg #[.int .i64 15, .int .i64 0, .int .i64 0, .int .i64 0, .string ⟨#[]⟩, .string ⟨#[]⟩]] w fun e w' => e = .returned (.string (txt (⟨15, 0, 0, 0, ⟨#[]⟩, ⟨#[]⟩⟩ : DReply))) ∧ Ext w w' := by
  have HP := Lib.hid hp
  clear hp
  have HC := Lib.hid (cat_15 )
  go_enter Tryz.func13, Tryz.ntmps13
  go_wp2_with fail
  refine (specReplyOk_any (⟨15, 0, 0, 0, ⟨#[]⟩, ⟨#[]⟩⟩ : DReply) _ (show (⟨#[]⟩ : ByteArray).size ≤ 9223372036854775807 by decide) (show (⟨#[]⟩ : ByteArray).size ≤ 9223372036854775807 by decide) true (Lib.hid ⟨fun _ => HP.out, fun _ => rfl⟩)).mono ?_
  rintro e w1 ⟨rfl, b1⟩
  have c0w1 : w1.cell? ⟨w.heap.size, 0, none⟩ = some (.int .i64 15) := (b1.cell (p := ⟨w.heap.size, 0, none⟩) (by simp)).trans (by simp [go_sem])
  have c1w1 : w1.cell? ⟨w.heap.size, 1, none⟩ = some (.int .i64 0) := (b1.cell (p := ⟨w.heap.size, 1, none⟩) (by simp)).trans (by simp [go_sem])
  have hzw1 : w.heap.size < w1.heap.size := by (have := b1.size; simp at this; omega)
  go_wp2_with fail
  refine (specDigits_any 0 _ (by omega) (by omega)).mono ?_
  rintro e w2 ⟨rfl, b2⟩
  have c0w2 : w2.cell? ⟨w.heap.size, 0, none⟩ = some (.int .i64 15) := (b2.cell (p := ⟨w.heap.size, 0, none⟩) hzw1).trans c0w1
  have hzw2 : w.heap.size < w2.heap.size := by (have := b2.size; omega)
  go_wp2_with fail
  all_goals (first | (exfalso; omega) | skip)
  go_ret
  exact ⟨by rw [HC.out]; rfl, bxt⟩
set_option maxRecDepth 100000 in
set_option maxHeartbeats 4000000 in
theorem specText_16 (w : World) (hp : ReplyP (⟨16, 0, 0, 0, ⟨#[]⟩, ⟨#[]⟩⟩ : DReply))  :
    Calls Tryz.prog 13 #[.agg #[.int .i64 16, .int .i64 0, .int .i64 0, .int .i64 0, .string ⟨#[]⟩, .string ⟨#[]⟩]] w fun e w' => e = .returned (.string (txt (⟨16, 0, 0, 0, ⟨#[]⟩, ⟨#[]⟩⟩ : DReply))) ∧ Ext w w' := by
  have HP := Lib.hid hp
  clear hp
  have HC := Lib.hid (cat_16 )
  go_enter Tryz.func13, Tryz.ntmps13
  go_wp2_with fail
  refine (specReplyOk_any (⟨16, 0, 0, 0, ⟨#[]⟩, ⟨#[]⟩⟩ : DReply) _ (show (⟨#[]⟩ : ByteArray).size ≤ 9223372036854775807 by decide) (show (⟨#[]⟩ : ByteArray).size ≤ 9223372036854775807 by decide) true (Lib.hid ⟨fun _ => HP.out, fun _ => rfl⟩)).mono ?_
  rintro e w1 ⟨rfl, b1⟩
  have c0w1 : w1.cell? ⟨w.heap.size, 0, none⟩ = some (.int .i64 16) := (b1.cell (p := ⟨w.heap.size, 0, none⟩) (by simp)).trans (by simp [go_sem])
  have c1w1 : w1.cell? ⟨w.heap.size, 1, none⟩ = some (.int .i64 0) := (b1.cell (p := ⟨w.heap.size, 1, none⟩) (by simp)).trans (by simp [go_sem])
  have hzw1 : w.heap.size < w1.heap.size := by (have := b1.size; simp at this; omega)
  go_wp2_with fail
  refine (specDigits_any 0 _ (by omega) (by omega)).mono ?_
  rintro e w2 ⟨rfl, b2⟩
  have c0w2 : w2.cell? ⟨w.heap.size, 0, none⟩ = some (.int .i64 16) := (b2.cell (p := ⟨w.heap.size, 0, none⟩) hzw1).trans c0w1
  have hzw2 : w.heap.size < w2.heap.size := by (have := b2.size; omega)
  go_wp2_with fail
  refine (l14Word_any 16 _ (bs wHELLO) (Or.inr (Or.inr (Or.inr ⟨rfl, rfl⟩)))).mono ?_
  rintro e w3 ⟨rfl, rfl⟩
  go_wp2_with fail
  go_ret
  exact ⟨by rw [HC.out]; first | rfl | decide, bxt⟩
theorem tag_size {nm : ByteArray} (h : TagP nm ∨ nm = ⟨#[42]⟩) : nm.size ≤ 12 := by
  have h1 := tag_len h
  have h2 : nm.data.toList.length = nm.size := by simp
  omega
set_option maxHeartbeats 1000000 in
theorem specReplyText_any (a : DReply) (w : World) (g1 : a.name.size ≤ 9223372036854775807) (g2 : a.text.size ≤ 9223372036854775807) (r : Bool) (Hr : Hid (Tells r (ReplyP a))) :
    Calls Tryz.prog 13 #[.agg #[.int .i64 a.kind, .int .i64 a.n, .int .i64 a.uid, .int .i64 a.flags, .string a.name, .string a.text]] w fun e w' => e = .returned (.string (txtOf r a)) ∧ Ext w w' := by
  cases r
  · go_enter Tryz.func13, Tryz.ntmps13
    go_wp2_with fail
    refine (specReplyOk_any a _ g1 g2 false Hr).mono ?_
    rintro e w1 ⟨rfl, b1⟩
    go_wp2_with fail
    go_ret
    exact ⟨rfl, bxt⟩
  · have hp : ReplyP a := Hr.out.1 rfl
    have hp0 := hp
    obtain ⟨k, n, u, f, nm, tx⟩ := a
    show Calls _ _ _ w fun e w' => e = .returned (.string (txt _)) ∧ Ext w w'
    unfold ReplyP ReplyK at hp
    simp only at hp
    rcases hp with ⟨rfl, h1, rfl, rfl, rfl, rfl⟩ | ⟨rfl, h1, rfl, rfl, rfl, rfl⟩ | ⟨rfl, h1, h2, h3, rfl, rfl⟩ | ⟨rfl, h1, h2, rfl, rfl, rfl⟩ | ⟨rfl, h1, h2, h3, rfl, rfl⟩ | ⟨rfl, h1, rfl, rfl, rfl, rfl⟩ | ⟨rfl, h1, rfl, rfl, rfl, rfl⟩ | ⟨rfl, h1, h2, rfl, rfl, rfl⟩ | ⟨rfl, rfl, rfl, rfl, rfl, rfl⟩ | ⟨rfl, rfl, rfl, rfl, rfl, rfl⟩ | ⟨rfl, rfl, rfl, rfl, rfl, rfl⟩ | ⟨rfl, h1, rfl, rfl, rfl, rfl⟩ | ⟨rfl, h1, rfl, rfl, rfl, rfl⟩ | ⟨rfl, h1, rfl, rfl, rfl, rfl⟩ | ⟨rfl, rfl, rfl, rfl, rfl, rfl⟩ | ⟨rfl, rfl, rfl, rfl, rfl, rfl⟩
    · exact specText_1 n w hp0 ⟨by omega, by omega⟩
    · exact specText_2 n w hp0 ⟨by omega, by omega⟩
    · exact specText_3 n u f w hp0 ⟨by omega, by omega⟩ ⟨by omega, by omega⟩ h3
    · exact specText_4 n tx w hp0 ⟨by omega, by omega⟩ h2
    · exact specText_5 n u nm w hp0 ⟨by omega, by omega⟩ ⟨by omega, by omega⟩ h3.2.2
    · exact specText_6 nm w hp0 h1.2.2
    · exact specText_7 nm w hp0 h1.2.2
    · exact specText_8 n nm w hp0 ⟨by omega, by omega⟩ h2.2.2
    · exact specText_9 w hp0 
    · exact specText_10 w hp0 
    · exact specText_11 w hp0 
    · exact specText_12 nm w hp0 (tag_size h1)
    · exact specText_13 nm w hp0 (tag_size h1)
    · exact specText_14 nm w hp0 (tag_size h1)
    · exact specText_15 w hp0 
    · exact specText_16 w hp0 
end Go.Proofs.YtidfhkdonhjgaaaGreatDoor
