/-
  The text of a reply: the program's function.
-/
import Derived.Test.YtidfhkdonhjgaaaGreatDoorWRTs
import Derived.Test.YtidfhkdonhjgaaaGreatDoorWimplReplyOk
namespace Go.Proofs.YtidfhkdonhjgaaaGreatDoor
open Go.RowKit
set_option linter.unusedVariables false
set_option linter.unusedSimpArgs false

set_option maxRecDepth 100000 in
set_option maxHeartbeats 4000000 in
theorem implText_1 (n : Int) (w : World) (ht0 : Pw w) (hm0 : MaxLen w) (hp : ReplyP (⟨1, n, 0, 0, ⟨#[]⟩, ⟨#[]⟩⟩ : DReply)) (h1 : 0 ≤ n ∧ n ≤ 999999999) :
    Calls Tryz.prog 12 #[.agg #[.int .i64 1, .int .i64 n, .int .i64 0, .int .i64 0, .string ⟨#[]⟩, .string ⟨#[]⟩]] w fun e w' => e = .returned (.string (txt (⟨1, n, 0, 0, ⟨#[]⟩, ⟨#[]⟩⟩ : DReply))) ∧ Ext w w' := by
  have sN := dgB_size n h1
  have HP := Lib.hid hp
  have HT0 := Lib.hid ht0
  have HM := Lib.hid hm0
  clear hp ht0 hm0
  have HC := Lib.hid (cat_1 n )
  go_enter Tryz.func12, Tryz.ntmps12
  go_wp2_with fail
  refine (implReplyOk_any (⟨1, n, 0, 0, ⟨#[]⟩, ⟨#[]⟩⟩ : DReply) _ (HM.out.ext bxt) (show (⟨#[]⟩ : ByteArray).size ≤ 9223372036854775807 by decide) (show (⟨#[]⟩ : ByteArray).size ≤ 9223372036854775807 by decide) true (Lib.hid ⟨fun _ => HP.out, fun _ => rfl⟩)).mono ?_
  rintro e w1 ⟨rfl, b1⟩
  have HT : Hid (Pw w1) := Lib.hid (Pw.ext HT0.out (show Ext w w1 from bxt))
  have c0w1 : w1.cell? ⟨w.heap.size, 0, none⟩ = some (.int .i64 1) := (b1.cell (p := ⟨w.heap.size, 0, none⟩) (by simp)).trans (by simp [go_sem])
  have c1w1 : w1.cell? ⟨w.heap.size, 1, none⟩ = some (.int .i64 n) := (b1.cell (p := ⟨w.heap.size, 1, none⟩) (by simp)).trans (by simp [go_sem])
  have c2w1 : w1.cell? ⟨w.heap.size, 2, none⟩ = some (.int .i64 0) := (b1.cell (p := ⟨w.heap.size, 2, none⟩) (by simp)).trans (by simp [go_sem])
  have hzw1 : w.heap.size < w1.heap.size := by (have := b1.size; simp at this; omega)
  go_wp2_with fail
  have y0 := fun y : ExtW w1 => (y.h.cell (p := ⟨w.heap.size, 0, none⟩) hzw1).trans c0w1
  have y1 := fun y : ExtW w1 => (y.h.cell (p := ⟨w.heap.size, 1, none⟩) hzw1).trans c1w1
  have y2 := fun y : ExtW w1 => (y.h.cell (p := ⟨w.heap.size, 2, none⟩) hzw1).trans c2w1
  clear c0w1 c1w1 c2w1
  refine wp_region_ext (by kernel_rfl) (by kernel_rfl) ?_
  repeat (go_big_quiet_step (first | (go_at_call 31; refine (implDigits_any _ _ (Pw.ext HT.out (ExtW.h _)) (by omega) (by omega)).mono ?_; rintro e w' ⟨rfl, hb⟩; exact ⟨rfl, ExtW.on _ hb⟩)))
  refine wpQuiet_nil ?_
  rintro wq ⟨⟨w2, hw2⟩, hxw2⟩
  have hyw2 : wq = w2 := hxw2
  subst hyw2
  clear hxw2
  have c0wq : wq.cell? ⟨w.heap.size, 0, none⟩ = some (.int .i64 1) := y0 ⟨wq, hw2⟩
  have c1wq : wq.cell? ⟨w.heap.size, 1, none⟩ = some (.int .i64 n) := y1 ⟨wq, hw2⟩
  have c2wq : wq.cell? ⟨w.heap.size, 2, none⟩ = some (.int .i64 0) := y2 ⟨wq, hw2⟩
  clear y0 y1 y2
  have hzwq : w.heap.size < wq.heap.size := by (have := hw2.size; omega)
  have q0 : ¬ 9223372036854775807 < 2 + (dgB n).size := by omega
  have q1 : ¬ 9223372036854775807 < 2 + (dgB n).size + 7 := by omega
  go_wp2_with fail
  all_goals (first | (exfalso; omega) | skip)
  go_ret
  exact ⟨by rw [HC.out]; rfl, bxt⟩
set_option maxRecDepth 100000 in
set_option maxHeartbeats 4000000 in
theorem implText_2 (n : Int) (w : World) (ht0 : Pw w) (hm0 : MaxLen w) (hp : ReplyP (⟨2, n, 0, 0, ⟨#[]⟩, ⟨#[]⟩⟩ : DReply)) (h1 : 0 ≤ n ∧ n ≤ 999999999) :
    Calls Tryz.prog 12 #[.agg #[.int .i64 2, .int .i64 n, .int .i64 0, .int .i64 0, .string ⟨#[]⟩, .string ⟨#[]⟩]] w fun e w' => e = .returned (.string (txt (⟨2, n, 0, 0, ⟨#[]⟩, ⟨#[]⟩⟩ : DReply))) ∧ Ext w w' := by
  have sN := dgB_size n h1
  have HP := Lib.hid hp
  have HT0 := Lib.hid ht0
  have HM := Lib.hid hm0
  clear hp ht0 hm0
  have HC := Lib.hid (cat_2 n )
  go_enter Tryz.func12, Tryz.ntmps12
  go_wp2_with fail
  refine (implReplyOk_any (⟨2, n, 0, 0, ⟨#[]⟩, ⟨#[]⟩⟩ : DReply) _ (HM.out.ext bxt) (show (⟨#[]⟩ : ByteArray).size ≤ 9223372036854775807 by decide) (show (⟨#[]⟩ : ByteArray).size ≤ 9223372036854775807 by decide) true (Lib.hid ⟨fun _ => HP.out, fun _ => rfl⟩)).mono ?_
  rintro e w1 ⟨rfl, b1⟩
  have HT : Hid (Pw w1) := Lib.hid (Pw.ext HT0.out (show Ext w w1 from bxt))
  have c0w1 : w1.cell? ⟨w.heap.size, 0, none⟩ = some (.int .i64 2) := (b1.cell (p := ⟨w.heap.size, 0, none⟩) (by simp)).trans (by simp [go_sem])
  have c1w1 : w1.cell? ⟨w.heap.size, 1, none⟩ = some (.int .i64 n) := (b1.cell (p := ⟨w.heap.size, 1, none⟩) (by simp)).trans (by simp [go_sem])
  have c2w1 : w1.cell? ⟨w.heap.size, 2, none⟩ = some (.int .i64 0) := (b1.cell (p := ⟨w.heap.size, 2, none⟩) (by simp)).trans (by simp [go_sem])
  have hzw1 : w.heap.size < w1.heap.size := by (have := b1.size; simp at this; omega)
  go_wp2_with fail
  have y0 := fun y : ExtW w1 => (y.h.cell (p := ⟨w.heap.size, 0, none⟩) hzw1).trans c0w1
  have y1 := fun y : ExtW w1 => (y.h.cell (p := ⟨w.heap.size, 1, none⟩) hzw1).trans c1w1
  have y2 := fun y : ExtW w1 => (y.h.cell (p := ⟨w.heap.size, 2, none⟩) hzw1).trans c2w1
  clear c0w1 c1w1 c2w1
  refine wp_region_ext (by kernel_rfl) (by kernel_rfl) ?_
  repeat (go_big_quiet_step (first | (go_at_call 31; refine (implDigits_any _ _ (Pw.ext HT.out (ExtW.h _)) (by omega) (by omega)).mono ?_; rintro e w' ⟨rfl, hb⟩; exact ⟨rfl, ExtW.on _ hb⟩)))
  refine wpQuiet_nil ?_
  rintro wq ⟨⟨w2, hw2⟩, hxw2⟩
  have hyw2 : wq = w2 := hxw2
  subst hyw2
  clear hxw2
  have c0wq : wq.cell? ⟨w.heap.size, 0, none⟩ = some (.int .i64 2) := y0 ⟨wq, hw2⟩
  have c1wq : wq.cell? ⟨w.heap.size, 1, none⟩ = some (.int .i64 n) := y1 ⟨wq, hw2⟩
  have c2wq : wq.cell? ⟨w.heap.size, 2, none⟩ = some (.int .i64 0) := y2 ⟨wq, hw2⟩
  clear y0 y1 y2
  have hzwq : w.heap.size < wq.heap.size := by (have := hw2.size; omega)
  have q0 : ¬ 9223372036854775807 < 2 + (dgB n).size := by omega
  have q1 : ¬ 9223372036854775807 < 2 + (dgB n).size + 8 := by omega
  go_wp2_with fail
  all_goals (first | (exfalso; omega) | skip)
  go_ret
  exact ⟨by rw [HC.out]; rfl, bxt⟩
set_option maxRecDepth 100000 in
set_option maxHeartbeats 4000000 in
theorem implText_3 (n u f : Int) (w : World) (ht0 : Pw w) (hm0 : MaxLen w) (hp : ReplyP (⟨3, n, u, f, ⟨#[]⟩, ⟨#[]⟩⟩ : DReply)) (h1 : 0 ≤ n ∧ n ≤ 999999999) (h2 : 0 ≤ u ∧ u ≤ 999999999) (h3 : 0 ≤ f ∧ f ≤ 31) :
    Calls Tryz.prog 12 #[.agg #[.int .i64 3, .int .i64 n, .int .i64 u, .int .i64 f, .string ⟨#[]⟩, .string ⟨#[]⟩]] w fun e w' => e = .returned (.string (txt (⟨3, n, u, f, ⟨#[]⟩, ⟨#[]⟩⟩ : DReply))) ∧ Ext w w' := by
  have sN := dgB_size n h1
  have sU := dgB_size u h2
  have sF := flB_size f h3
  have HP := Lib.hid hp
  have HT0 := Lib.hid ht0
  have HM := Lib.hid hm0
  clear hp ht0 hm0
  have HC := Lib.hid (cat_3 n u f )
  go_enter Tryz.func12, Tryz.ntmps12
  go_wp2_with fail
  refine (implReplyOk_any (⟨3, n, u, f, ⟨#[]⟩, ⟨#[]⟩⟩ : DReply) _ (HM.out.ext bxt) (show (⟨#[]⟩ : ByteArray).size ≤ 9223372036854775807 by decide) (show (⟨#[]⟩ : ByteArray).size ≤ 9223372036854775807 by decide) true (Lib.hid ⟨fun _ => HP.out, fun _ => rfl⟩)).mono ?_
  rintro e w1 ⟨rfl, b1⟩
  have HT : Hid (Pw w1) := Lib.hid (Pw.ext HT0.out (show Ext w w1 from bxt))
  have c0w1 : w1.cell? ⟨w.heap.size, 0, none⟩ = some (.int .i64 3) := (b1.cell (p := ⟨w.heap.size, 0, none⟩) (by simp)).trans (by simp [go_sem])
  have c1w1 : w1.cell? ⟨w.heap.size, 1, none⟩ = some (.int .i64 n) := (b1.cell (p := ⟨w.heap.size, 1, none⟩) (by simp)).trans (by simp [go_sem])
  have c2w1 : w1.cell? ⟨w.heap.size, 2, none⟩ = some (.int .i64 u) := (b1.cell (p := ⟨w.heap.size, 2, none⟩) (by simp)).trans (by simp [go_sem])
  have c3w1 : w1.cell? ⟨w.heap.size, 3, none⟩ = some (.int .i64 f) := (b1.cell (p := ⟨w.heap.size, 3, none⟩) (by simp)).trans (by simp [go_sem])
  have hzw1 : w.heap.size < w1.heap.size := by (have := b1.size; simp at this; omega)
  go_wp2_with fail
  have y0 := fun y : ExtW w1 => (y.h.cell (p := ⟨w.heap.size, 0, none⟩) hzw1).trans c0w1
  have y1 := fun y : ExtW w1 => (y.h.cell (p := ⟨w.heap.size, 1, none⟩) hzw1).trans c1w1
  have y2 := fun y : ExtW w1 => (y.h.cell (p := ⟨w.heap.size, 2, none⟩) hzw1).trans c2w1
  have y3 := fun y : ExtW w1 => (y.h.cell (p := ⟨w.heap.size, 3, none⟩) hzw1).trans c3w1
  clear c0w1 c1w1 c2w1 c3w1
  refine wp_region_ext (by kernel_rfl) (by kernel_rfl) ?_
  repeat (go_big_quiet_step (first | (go_at_call 31; refine (implDigits_any _ _ (Pw.ext HT.out (ExtW.h _)) (by omega) (by omega)).mono ?_; rintro e w' ⟨rfl, hb⟩; exact ⟨rfl, ExtW.on _ hb⟩)))
  refine wpQuiet_nil ?_
  rintro wq ⟨⟨w2, hw2⟩, hxw2⟩
  have hyw2 : wq = w2 := hxw2
  subst hyw2
  clear hxw2
  have c0wq : wq.cell? ⟨w.heap.size, 0, none⟩ = some (.int .i64 3) := y0 ⟨wq, hw2⟩
  have c1wq : wq.cell? ⟨w.heap.size, 1, none⟩ = some (.int .i64 n) := y1 ⟨wq, hw2⟩
  have c2wq : wq.cell? ⟨w.heap.size, 2, none⟩ = some (.int .i64 u) := y2 ⟨wq, hw2⟩
  have c3wq : wq.cell? ⟨w.heap.size, 3, none⟩ = some (.int .i64 f) := y3 ⟨wq, hw2⟩
  clear y0 y1 y2 y3
  have hzwq : w.heap.size < wq.heap.size := by (have := hw2.size; omega)
  have q0 : ¬ 9223372036854775807 < 2 + (dgB n).size := by omega
  have q1 : ¬ 9223372036854775807 < 2 + (dgB n).size + 7 := by omega
  have q2 : ¬ 9223372036854775807 < 2 + (dgB n).size + 7 + (dgB u).size := by omega
  have q3 : ¬ 9223372036854775807 < 2 + (dgB n).size + 7 + (dgB u).size + 2 := by omega
  have q4 : ¬ 9223372036854775807 < 2 + (dgB n).size + 7 + (dgB u).size + 2 + (bs (flText f.toNat)).size := by omega
  have q5 : ¬ 9223372036854775807 < 2 + (dgB n).size + 7 + (dgB u).size + 2 + (bs (flText f.toNat)).size + 1 := by omega
  go_wp2_with fail
  all_goals (first | (exfalso; omega) | skip)
  refine (implFlagsText_any f _ (by omega) (by omega)).mono ?_
  rintro e w3 ⟨rfl, b3⟩
  go_wp2_with fail
  all_goals (first | (exfalso; omega) | skip)
  go_ret
  exact ⟨by rw [HC.out]; rfl, bxt⟩
set_option maxRecDepth 100000 in
set_option maxHeartbeats 4000000 in
theorem implText_4 (n : Int) (tx : ByteArray) (w : World) (ht0 : Pw w) (hm0 : MaxLen w) (hp : ReplyP (⟨4, n, 0, 0, ⟨#[]⟩, tx⟩ : DReply)) (h1 : 0 ≤ n ∧ n ≤ 999999999) (ht : tx.size ≤ 40) :
    Calls Tryz.prog 12 #[.agg #[.int .i64 4, .int .i64 n, .int .i64 0, .int .i64 0, .string ⟨#[]⟩, .string tx]] w fun e w' => e = .returned (.string (txt (⟨4, n, 0, 0, ⟨#[]⟩, tx⟩ : DReply))) ∧ Ext w w' := by
  have sN := dgB_size n h1
  have sX := hexB_size tx ht
  have HP := Lib.hid hp
  have HT0 := Lib.hid ht0
  have HM := Lib.hid hm0
  clear hp ht0 hm0
  have HC := Lib.hid (cat_4 n tx )
  go_enter Tryz.func12, Tryz.ntmps12
  go_wp2_with fail
  refine (implReplyOk_any (⟨4, n, 0, 0, ⟨#[]⟩, tx⟩ : DReply) _ (HM.out.ext bxt) (show (⟨#[]⟩ : ByteArray).size ≤ 9223372036854775807 by decide) (show (tx : ByteArray).size ≤ 9223372036854775807 by omega) true (Lib.hid ⟨fun _ => HP.out, fun _ => rfl⟩)).mono ?_
  rintro e w1 ⟨rfl, b1⟩
  have HT : Hid (Pw w1) := Lib.hid (Pw.ext HT0.out (show Ext w w1 from bxt))
  have c0w1 : w1.cell? ⟨w.heap.size, 0, none⟩ = some (.int .i64 4) := (b1.cell (p := ⟨w.heap.size, 0, none⟩) (by simp)).trans (by simp [go_sem])
  have c1w1 : w1.cell? ⟨w.heap.size, 1, none⟩ = some (.int .i64 n) := (b1.cell (p := ⟨w.heap.size, 1, none⟩) (by simp)).trans (by simp [go_sem])
  have c2w1 : w1.cell? ⟨w.heap.size, 2, none⟩ = some (.int .i64 0) := (b1.cell (p := ⟨w.heap.size, 2, none⟩) (by simp)).trans (by simp [go_sem])
  have c5w1 : w1.cell? ⟨w.heap.size, 5, none⟩ = some (.string tx) := (b1.cell (p := ⟨w.heap.size, 5, none⟩) (by simp)).trans (by simp [go_sem])
  have hzw1 : w.heap.size < w1.heap.size := by (have := b1.size; simp at this; omega)
  go_wp2_with fail
  have y0 := fun y : ExtW w1 => (y.h.cell (p := ⟨w.heap.size, 0, none⟩) hzw1).trans c0w1
  have y1 := fun y : ExtW w1 => (y.h.cell (p := ⟨w.heap.size, 1, none⟩) hzw1).trans c1w1
  have y2 := fun y : ExtW w1 => (y.h.cell (p := ⟨w.heap.size, 2, none⟩) hzw1).trans c2w1
  have y5 := fun y : ExtW w1 => (y.h.cell (p := ⟨w.heap.size, 5, none⟩) hzw1).trans c5w1
  clear c0w1 c1w1 c2w1 c5w1
  refine wp_region_ext (by kernel_rfl) (by kernel_rfl) ?_
  repeat (go_big_quiet_step (first | (go_at_call 31; refine (implDigits_any _ _ (Pw.ext HT.out (ExtW.h _)) (by omega) (by omega)).mono ?_; rintro e w' ⟨rfl, hb⟩; exact ⟨rfl, ExtW.on _ hb⟩)))
  refine wpQuiet_nil ?_
  rintro wq ⟨⟨w2, hw2⟩, hxw2⟩
  have hyw2 : wq = w2 := hxw2
  subst hyw2
  clear hxw2
  have c0wq : wq.cell? ⟨w.heap.size, 0, none⟩ = some (.int .i64 4) := y0 ⟨wq, hw2⟩
  have c1wq : wq.cell? ⟨w.heap.size, 1, none⟩ = some (.int .i64 n) := y1 ⟨wq, hw2⟩
  have c2wq : wq.cell? ⟨w.heap.size, 2, none⟩ = some (.int .i64 0) := y2 ⟨wq, hw2⟩
  have c5wq : wq.cell? ⟨w.heap.size, 5, none⟩ = some (.string tx) := y5 ⟨wq, hw2⟩
  clear y0 y1 y2 y5
  have hzwq : w.heap.size < wq.heap.size := by (have := hw2.size; omega)
  have q0 : ¬ 9223372036854775807 < 2 + (dgB n).size := by omega
  have q1 : ¬ 9223372036854775807 < 2 + (dgB n).size + 6 := by omega
  have q2 : ¬ 9223372036854775807 < 2 + (dgB n).size + 6 + (bs (hexL tx.data.toList)).size := by omega
  go_wp2_with fail
  all_goals (first | (exfalso; omega) | skip)
  refine (hexOrDash_any tx _ (by omega)).mono ?_
  rintro e w3 ⟨rfl, b3⟩
  go_wp2_with fail
  all_goals (first | (exfalso; omega) | skip)
  go_ret
  exact ⟨by rw [HC.out]; rfl, bxt⟩
set_option maxRecDepth 100000 in
set_option maxHeartbeats 4000000 in
theorem implText_5 (n u : Int) (nm : ByteArray) (w : World) (ht0 : Pw w) (hm0 : MaxLen w) (hp : ReplyP (⟨5, n, u, 0, nm, ⟨#[]⟩⟩ : DReply)) (h1 : 0 ≤ n ∧ n ≤ 999999999) (h2 : 0 ≤ u ∧ u ≤ 999999999) (hn : nm.size ≤ 12) :
    Calls Tryz.prog 12 #[.agg #[.int .i64 5, .int .i64 n, .int .i64 u, .int .i64 0, .string nm, .string ⟨#[]⟩]] w fun e w' => e = .returned (.string (txt (⟨5, n, u, 0, nm, ⟨#[]⟩⟩ : DReply))) ∧ Ext w w' := by
  have sN := dgB_size n h1
  have sU := dgB_size u h2
  have HP := Lib.hid hp
  have HT0 := Lib.hid ht0
  have HM := Lib.hid hm0
  clear hp ht0 hm0
  have HC := Lib.hid (cat_5 n u nm )
  go_enter Tryz.func12, Tryz.ntmps12
  go_wp2_with fail
  refine (implReplyOk_any (⟨5, n, u, 0, nm, ⟨#[]⟩⟩ : DReply) _ (HM.out.ext bxt) (show (nm : ByteArray).size ≤ 9223372036854775807 by omega) (show (⟨#[]⟩ : ByteArray).size ≤ 9223372036854775807 by decide) true (Lib.hid ⟨fun _ => HP.out, fun _ => rfl⟩)).mono ?_
  rintro e w1 ⟨rfl, b1⟩
  have HT : Hid (Pw w1) := Lib.hid (Pw.ext HT0.out (show Ext w w1 from bxt))
  have c0w1 : w1.cell? ⟨w.heap.size, 0, none⟩ = some (.int .i64 5) := (b1.cell (p := ⟨w.heap.size, 0, none⟩) (by simp)).trans (by simp [go_sem])
  have c1w1 : w1.cell? ⟨w.heap.size, 1, none⟩ = some (.int .i64 n) := (b1.cell (p := ⟨w.heap.size, 1, none⟩) (by simp)).trans (by simp [go_sem])
  have c2w1 : w1.cell? ⟨w.heap.size, 2, none⟩ = some (.int .i64 u) := (b1.cell (p := ⟨w.heap.size, 2, none⟩) (by simp)).trans (by simp [go_sem])
  have c4w1 : w1.cell? ⟨w.heap.size, 4, none⟩ = some (.string nm) := (b1.cell (p := ⟨w.heap.size, 4, none⟩) (by simp)).trans (by simp [go_sem])
  have hzw1 : w.heap.size < w1.heap.size := by (have := b1.size; simp at this; omega)
  go_wp2_with fail
  have y0 := fun y : ExtW w1 => (y.h.cell (p := ⟨w.heap.size, 0, none⟩) hzw1).trans c0w1
  have y1 := fun y : ExtW w1 => (y.h.cell (p := ⟨w.heap.size, 1, none⟩) hzw1).trans c1w1
  have y2 := fun y : ExtW w1 => (y.h.cell (p := ⟨w.heap.size, 2, none⟩) hzw1).trans c2w1
  have y4 := fun y : ExtW w1 => (y.h.cell (p := ⟨w.heap.size, 4, none⟩) hzw1).trans c4w1
  clear c0w1 c1w1 c2w1 c4w1
  refine wp_region_ext (by kernel_rfl) (by kernel_rfl) ?_
  repeat (go_big_quiet_step (first | (go_at_call 31; refine (implDigits_any _ _ (Pw.ext HT.out (ExtW.h _)) (by omega) (by omega)).mono ?_; rintro e w' ⟨rfl, hb⟩; exact ⟨rfl, ExtW.on _ hb⟩)))
  refine wpQuiet_nil ?_
  rintro wq ⟨⟨w2, hw2⟩, hxw2⟩
  have hyw2 : wq = w2 := hxw2
  subst hyw2
  clear hxw2
  have c0wq : wq.cell? ⟨w.heap.size, 0, none⟩ = some (.int .i64 5) := y0 ⟨wq, hw2⟩
  have c1wq : wq.cell? ⟨w.heap.size, 1, none⟩ = some (.int .i64 n) := y1 ⟨wq, hw2⟩
  have c2wq : wq.cell? ⟨w.heap.size, 2, none⟩ = some (.int .i64 u) := y2 ⟨wq, hw2⟩
  have c4wq : wq.cell? ⟨w.heap.size, 4, none⟩ = some (.string nm) := y4 ⟨wq, hw2⟩
  clear y0 y1 y2 y4
  have hzwq : w.heap.size < wq.heap.size := by (have := hw2.size; omega)
  have q0 : ¬ 9223372036854775807 < 9 + nm.size := by omega
  have q1 : ¬ 9223372036854775807 < 9 + nm.size + 1 := by omega
  have q2 : ¬ 9223372036854775807 < 9 + nm.size + 1 + (dgB n).size := by omega
  have q3 : ¬ 9223372036854775807 < 9 + nm.size + 1 + (dgB n).size + 1 := by omega
  have q4 : ¬ 9223372036854775807 < 9 + nm.size + 1 + (dgB n).size + 1 + (dgB u).size := by omega
  go_wp2_with fail
  all_goals (first | (exfalso; omega) | skip)
  go_ret
  exact ⟨by rw [HC.out]; rfl, bxt⟩
set_option maxRecDepth 100000 in
set_option maxHeartbeats 4000000 in
theorem implText_6 (nm : ByteArray) (w : World) (ht0 : Pw w) (hm0 : MaxLen w) (hp : ReplyP (⟨6, 0, 0, 0, nm, ⟨#[]⟩⟩ : DReply)) (hn : nm.size ≤ 12) :
    Calls Tryz.prog 12 #[.agg #[.int .i64 6, .int .i64 0, .int .i64 0, .int .i64 0, .string nm, .string ⟨#[]⟩]] w fun e w' => e = .returned (.string (txt (⟨6, 0, 0, 0, nm, ⟨#[]⟩⟩ : DReply))) ∧ Ext w w' := by
  have HP := Lib.hid hp
  have HT0 := Lib.hid ht0
  have HM := Lib.hid hm0
  clear hp ht0 hm0
  have HC := Lib.hid (cat_6 nm )
  go_enter Tryz.func12, Tryz.ntmps12
  go_wp2_with fail
  refine (implReplyOk_any (⟨6, 0, 0, 0, nm, ⟨#[]⟩⟩ : DReply) _ (HM.out.ext bxt) (show (nm : ByteArray).size ≤ 9223372036854775807 by omega) (show (⟨#[]⟩ : ByteArray).size ≤ 9223372036854775807 by decide) true (Lib.hid ⟨fun _ => HP.out, fun _ => rfl⟩)).mono ?_
  rintro e w1 ⟨rfl, b1⟩
  have HT : Hid (Pw w1) := Lib.hid (Pw.ext HT0.out (show Ext w w1 from bxt))
  have c0w1 : w1.cell? ⟨w.heap.size, 0, none⟩ = some (.int .i64 6) := (b1.cell (p := ⟨w.heap.size, 0, none⟩) (by simp)).trans (by simp [go_sem])
  have c1w1 : w1.cell? ⟨w.heap.size, 1, none⟩ = some (.int .i64 0) := (b1.cell (p := ⟨w.heap.size, 1, none⟩) (by simp)).trans (by simp [go_sem])
  have c2w1 : w1.cell? ⟨w.heap.size, 2, none⟩ = some (.int .i64 0) := (b1.cell (p := ⟨w.heap.size, 2, none⟩) (by simp)).trans (by simp [go_sem])
  have c4w1 : w1.cell? ⟨w.heap.size, 4, none⟩ = some (.string nm) := (b1.cell (p := ⟨w.heap.size, 4, none⟩) (by simp)).trans (by simp [go_sem])
  have hzw1 : w.heap.size < w1.heap.size := by (have := b1.size; simp at this; omega)
  go_wp2_with fail
  have y0 := fun y : ExtW w1 => (y.h.cell (p := ⟨w.heap.size, 0, none⟩) hzw1).trans c0w1
  have y1 := fun y : ExtW w1 => (y.h.cell (p := ⟨w.heap.size, 1, none⟩) hzw1).trans c1w1
  have y2 := fun y : ExtW w1 => (y.h.cell (p := ⟨w.heap.size, 2, none⟩) hzw1).trans c2w1
  have y4 := fun y : ExtW w1 => (y.h.cell (p := ⟨w.heap.size, 4, none⟩) hzw1).trans c4w1
  clear c0w1 c1w1 c2w1 c4w1
  refine wp_region_ext (by kernel_rfl) (by kernel_rfl) ?_
  repeat (go_big_quiet_step (first | (go_at_call 31; refine (implDigits_any _ _ (Pw.ext HT.out (ExtW.h _)) (by omega) (by omega)).mono ?_; rintro e w' ⟨rfl, hb⟩; exact ⟨rfl, ExtW.on _ hb⟩)))
  refine wpQuiet_nil ?_
  rintro wq ⟨⟨w2, hw2⟩, hxw2⟩
  have hyw2 : wq = w2 := hxw2
  subst hyw2
  clear hxw2
  have c0wq : wq.cell? ⟨w.heap.size, 0, none⟩ = some (.int .i64 6) := y0 ⟨wq, hw2⟩
  have c1wq : wq.cell? ⟨w.heap.size, 1, none⟩ = some (.int .i64 0) := y1 ⟨wq, hw2⟩
  have c2wq : wq.cell? ⟨w.heap.size, 2, none⟩ = some (.int .i64 0) := y2 ⟨wq, hw2⟩
  have c4wq : wq.cell? ⟨w.heap.size, 4, none⟩ = some (.string nm) := y4 ⟨wq, hw2⟩
  clear y0 y1 y2 y4
  have hzwq : w.heap.size < wq.heap.size := by (have := hw2.size; omega)
  have q0 : ¬ 9223372036854775807 < 7 + nm.size := by omega
  go_wp2_with fail
  all_goals (first | (exfalso; omega) | skip)
  go_ret
  exact ⟨by rw [HC.out]; rfl, bxt⟩
set_option maxRecDepth 100000 in
set_option maxHeartbeats 4000000 in
theorem implText_7 (nm : ByteArray) (w : World) (ht0 : Pw w) (hm0 : MaxLen w) (hp : ReplyP (⟨7, 0, 0, 0, nm, ⟨#[]⟩⟩ : DReply)) (hn : nm.size ≤ 12) :
    Calls Tryz.prog 12 #[.agg #[.int .i64 7, .int .i64 0, .int .i64 0, .int .i64 0, .string nm, .string ⟨#[]⟩]] w fun e w' => e = .returned (.string (txt (⟨7, 0, 0, 0, nm, ⟨#[]⟩⟩ : DReply))) ∧ Ext w w' := by
  have HP := Lib.hid hp
  have HT0 := Lib.hid ht0
  have HM := Lib.hid hm0
  clear hp ht0 hm0
  have HC := Lib.hid (cat_7 nm )
  go_enter Tryz.func12, Tryz.ntmps12
  go_wp2_with fail
  refine (implReplyOk_any (⟨7, 0, 0, 0, nm, ⟨#[]⟩⟩ : DReply) _ (HM.out.ext bxt) (show (nm : ByteArray).size ≤ 9223372036854775807 by omega) (show (⟨#[]⟩ : ByteArray).size ≤ 9223372036854775807 by decide) true (Lib.hid ⟨fun _ => HP.out, fun _ => rfl⟩)).mono ?_
  rintro e w1 ⟨rfl, b1⟩
  have HT : Hid (Pw w1) := Lib.hid (Pw.ext HT0.out (show Ext w w1 from bxt))
  have c0w1 : w1.cell? ⟨w.heap.size, 0, none⟩ = some (.int .i64 7) := (b1.cell (p := ⟨w.heap.size, 0, none⟩) (by simp)).trans (by simp [go_sem])
  have c1w1 : w1.cell? ⟨w.heap.size, 1, none⟩ = some (.int .i64 0) := (b1.cell (p := ⟨w.heap.size, 1, none⟩) (by simp)).trans (by simp [go_sem])
  have c2w1 : w1.cell? ⟨w.heap.size, 2, none⟩ = some (.int .i64 0) := (b1.cell (p := ⟨w.heap.size, 2, none⟩) (by simp)).trans (by simp [go_sem])
  have c4w1 : w1.cell? ⟨w.heap.size, 4, none⟩ = some (.string nm) := (b1.cell (p := ⟨w.heap.size, 4, none⟩) (by simp)).trans (by simp [go_sem])
  have hzw1 : w.heap.size < w1.heap.size := by (have := b1.size; simp at this; omega)
  go_wp2_with fail
  have y0 := fun y : ExtW w1 => (y.h.cell (p := ⟨w.heap.size, 0, none⟩) hzw1).trans c0w1
  have y1 := fun y : ExtW w1 => (y.h.cell (p := ⟨w.heap.size, 1, none⟩) hzw1).trans c1w1
  have y2 := fun y : ExtW w1 => (y.h.cell (p := ⟨w.heap.size, 2, none⟩) hzw1).trans c2w1
  have y4 := fun y : ExtW w1 => (y.h.cell (p := ⟨w.heap.size, 4, none⟩) hzw1).trans c4w1
  clear c0w1 c1w1 c2w1 c4w1
  refine wp_region_ext (by kernel_rfl) (by kernel_rfl) ?_
  repeat (go_big_quiet_step (first | (go_at_call 31; refine (implDigits_any _ _ (Pw.ext HT.out (ExtW.h _)) (by omega) (by omega)).mono ?_; rintro e w' ⟨rfl, hb⟩; exact ⟨rfl, ExtW.on _ hb⟩)))
  refine wpQuiet_nil ?_
  rintro wq ⟨⟨w2, hw2⟩, hxw2⟩
  have hyw2 : wq = w2 := hxw2
  subst hyw2
  clear hxw2
  have c0wq : wq.cell? ⟨w.heap.size, 0, none⟩ = some (.int .i64 7) := y0 ⟨wq, hw2⟩
  have c1wq : wq.cell? ⟨w.heap.size, 1, none⟩ = some (.int .i64 0) := y1 ⟨wq, hw2⟩
  have c2wq : wq.cell? ⟨w.heap.size, 2, none⟩ = some (.int .i64 0) := y2 ⟨wq, hw2⟩
  have c4wq : wq.cell? ⟨w.heap.size, 4, none⟩ = some (.string nm) := y4 ⟨wq, hw2⟩
  clear y0 y1 y2 y4
  have hzwq : w.heap.size < wq.heap.size := by (have := hw2.size; omega)
  have q0 : ¬ 9223372036854775807 < 7 + nm.size := by omega
  go_wp2_with fail
  all_goals (first | (exfalso; omega) | skip)
  go_ret
  exact ⟨by rw [HC.out]; rfl, bxt⟩
set_option maxRecDepth 100000 in
set_option maxHeartbeats 4000000 in
theorem implText_8 (n : Int) (nm : ByteArray) (w : World) (ht0 : Pw w) (hm0 : MaxLen w) (hp : ReplyP (⟨8, n, 0, 0, nm, ⟨#[]⟩⟩ : DReply)) (h1 : 0 ≤ n ∧ n ≤ 999999999) (hn : nm.size ≤ 12) :
    Calls Tryz.prog 12 #[.agg #[.int .i64 8, .int .i64 n, .int .i64 0, .int .i64 0, .string nm, .string ⟨#[]⟩]] w fun e w' => e = .returned (.string (txt (⟨8, n, 0, 0, nm, ⟨#[]⟩⟩ : DReply))) ∧ Ext w w' := by
  have sN := dgB_size n h1
  have HP := Lib.hid hp
  have HT0 := Lib.hid ht0
  have HM := Lib.hid hm0
  clear hp ht0 hm0
  have HC := Lib.hid (cat_8 n nm )
  go_enter Tryz.func12, Tryz.ntmps12
  go_wp2_with fail
  refine (implReplyOk_any (⟨8, n, 0, 0, nm, ⟨#[]⟩⟩ : DReply) _ (HM.out.ext bxt) (show (nm : ByteArray).size ≤ 9223372036854775807 by omega) (show (⟨#[]⟩ : ByteArray).size ≤ 9223372036854775807 by decide) true (Lib.hid ⟨fun _ => HP.out, fun _ => rfl⟩)).mono ?_
  rintro e w1 ⟨rfl, b1⟩
  have HT : Hid (Pw w1) := Lib.hid (Pw.ext HT0.out (show Ext w w1 from bxt))
  have c0w1 : w1.cell? ⟨w.heap.size, 0, none⟩ = some (.int .i64 8) := (b1.cell (p := ⟨w.heap.size, 0, none⟩) (by simp)).trans (by simp [go_sem])
  have c1w1 : w1.cell? ⟨w.heap.size, 1, none⟩ = some (.int .i64 n) := (b1.cell (p := ⟨w.heap.size, 1, none⟩) (by simp)).trans (by simp [go_sem])
  have c2w1 : w1.cell? ⟨w.heap.size, 2, none⟩ = some (.int .i64 0) := (b1.cell (p := ⟨w.heap.size, 2, none⟩) (by simp)).trans (by simp [go_sem])
  have c4w1 : w1.cell? ⟨w.heap.size, 4, none⟩ = some (.string nm) := (b1.cell (p := ⟨w.heap.size, 4, none⟩) (by simp)).trans (by simp [go_sem])
  have hzw1 : w.heap.size < w1.heap.size := by (have := b1.size; simp at this; omega)
  go_wp2_with fail
  have y0 := fun y : ExtW w1 => (y.h.cell (p := ⟨w.heap.size, 0, none⟩) hzw1).trans c0w1
  have y1 := fun y : ExtW w1 => (y.h.cell (p := ⟨w.heap.size, 1, none⟩) hzw1).trans c1w1
  have y2 := fun y : ExtW w1 => (y.h.cell (p := ⟨w.heap.size, 2, none⟩) hzw1).trans c2w1
  have y4 := fun y : ExtW w1 => (y.h.cell (p := ⟨w.heap.size, 4, none⟩) hzw1).trans c4w1
  clear c0w1 c1w1 c2w1 c4w1
  refine wp_region_ext (by kernel_rfl) (by kernel_rfl) ?_
  repeat (go_big_quiet_step (first | (go_at_call 31; refine (implDigits_any _ _ (Pw.ext HT.out (ExtW.h _)) (by omega) (by omega)).mono ?_; rintro e w' ⟨rfl, hb⟩; exact ⟨rfl, ExtW.on _ hb⟩)))
  refine wpQuiet_nil ?_
  rintro wq ⟨⟨w2, hw2⟩, hxw2⟩
  have hyw2 : wq = w2 := hxw2
  subst hyw2
  clear hxw2
  have c0wq : wq.cell? ⟨w.heap.size, 0, none⟩ = some (.int .i64 8) := y0 ⟨wq, hw2⟩
  have c1wq : wq.cell? ⟨w.heap.size, 1, none⟩ = some (.int .i64 n) := y1 ⟨wq, hw2⟩
  have c2wq : wq.cell? ⟨w.heap.size, 2, none⟩ = some (.int .i64 0) := y2 ⟨wq, hw2⟩
  have c4wq : wq.cell? ⟨w.heap.size, 4, none⟩ = some (.string nm) := y4 ⟨wq, hw2⟩
  clear y0 y1 y2 y4
  have hzwq : w.heap.size < wq.heap.size := by (have := hw2.size; omega)
  have q0 : ¬ 9223372036854775807 < 11 + nm.size := by omega
  have q1 : ¬ 9223372036854775807 < 11 + nm.size + 1 := by omega
  have q2 : ¬ 9223372036854775807 < 11 + nm.size + 1 + (dgB n).size := by omega
  go_wp2_with fail
  all_goals (first | (exfalso; omega) | skip)
  go_ret
  exact ⟨by rw [HC.out]; rfl, bxt⟩
set_option maxRecDepth 100000 in
set_option maxHeartbeats 4000000 in
theorem implText_9 (w : World) (ht0 : Pw w) (hm0 : MaxLen w) (hp : ReplyP (⟨9, 0, 0, 0, ⟨#[]⟩, ⟨#[]⟩⟩ : DReply))  :
    Calls Tryz.prog 12 #[.agg #[.int .i64 9, .int .i64 0, .int .i64 0, .int .i64 0, .string ⟨#[]⟩, .string ⟨#[]⟩]] w fun e w' => e = .returned (.string (txt (⟨9, 0, 0, 0, ⟨#[]⟩, ⟨#[]⟩⟩ : DReply))) ∧ Ext w w' := by
  have HP := Lib.hid hp
  have HT0 := Lib.hid ht0
  have HM := Lib.hid hm0
  clear hp ht0 hm0
  have HC := Lib.hid (cat_9 )
  go_enter Tryz.func12, Tryz.ntmps12
  go_wp2_with fail
  refine (implReplyOk_any (⟨9, 0, 0, 0, ⟨#[]⟩, ⟨#[]⟩⟩ : DReply) _ (HM.out.ext bxt) (show (⟨#[]⟩ : ByteArray).size ≤ 9223372036854775807 by decide) (show (⟨#[]⟩ : ByteArray).size ≤ 9223372036854775807 by decide) true (Lib.hid ⟨fun _ => HP.out, fun _ => rfl⟩)).mono ?_
  rintro e w1 ⟨rfl, b1⟩
  have HT : Hid (Pw w1) := Lib.hid (Pw.ext HT0.out (show Ext w w1 from bxt))
  have c0w1 : w1.cell? ⟨w.heap.size, 0, none⟩ = some (.int .i64 9) := (b1.cell (p := ⟨w.heap.size, 0, none⟩) (by simp)).trans (by simp [go_sem])
  have c1w1 : w1.cell? ⟨w.heap.size, 1, none⟩ = some (.int .i64 0) := (b1.cell (p := ⟨w.heap.size, 1, none⟩) (by simp)).trans (by simp [go_sem])
  have c2w1 : w1.cell? ⟨w.heap.size, 2, none⟩ = some (.int .i64 0) := (b1.cell (p := ⟨w.heap.size, 2, none⟩) (by simp)).trans (by simp [go_sem])
  have hzw1 : w.heap.size < w1.heap.size := by (have := b1.size; simp at this; omega)
  go_wp2_with fail
  have y0 := fun y : ExtW w1 => (y.h.cell (p := ⟨w.heap.size, 0, none⟩) hzw1).trans c0w1
  have y1 := fun y : ExtW w1 => (y.h.cell (p := ⟨w.heap.size, 1, none⟩) hzw1).trans c1w1
  have y2 := fun y : ExtW w1 => (y.h.cell (p := ⟨w.heap.size, 2, none⟩) hzw1).trans c2w1
  clear c0w1 c1w1 c2w1
  refine wp_region_ext (by kernel_rfl) (by kernel_rfl) ?_
  repeat (go_big_quiet_step (first | (go_at_call 31; refine (implDigits_any _ _ (Pw.ext HT.out (ExtW.h _)) (by omega) (by omega)).mono ?_; rintro e w' ⟨rfl, hb⟩; exact ⟨rfl, ExtW.on _ hb⟩)))
  refine wpQuiet_nil ?_
  rintro wq ⟨⟨w2, hw2⟩, hxw2⟩
  have hyw2 : wq = w2 := hxw2
  subst hyw2
  clear hxw2
  have c0wq : wq.cell? ⟨w.heap.size, 0, none⟩ = some (.int .i64 9) := y0 ⟨wq, hw2⟩
  have c1wq : wq.cell? ⟨w.heap.size, 1, none⟩ = some (.int .i64 0) := y1 ⟨wq, hw2⟩
  have c2wq : wq.cell? ⟨w.heap.size, 2, none⟩ = some (.int .i64 0) := y2 ⟨wq, hw2⟩
  clear y0 y1 y2
  have hzwq : w.heap.size < wq.heap.size := by (have := hw2.size; omega)
  go_wp2_with fail
  all_goals (first | (exfalso; omega) | skip)
  go_ret
  exact ⟨by rw [HC.out]; rfl, bxt⟩
set_option maxRecDepth 100000 in
set_option maxHeartbeats 4000000 in
theorem implText_10 (w : World) (ht0 : Pw w) (hm0 : MaxLen w) (hp : ReplyP (⟨10, 0, 0, 0, ⟨#[]⟩, ⟨#[]⟩⟩ : DReply))  :
    Calls Tryz.prog 12 #[.agg #[.int .i64 10, .int .i64 0, .int .i64 0, .int .i64 0, .string ⟨#[]⟩, .string ⟨#[]⟩]] w fun e w' => e = .returned (.string (txt (⟨10, 0, 0, 0, ⟨#[]⟩, ⟨#[]⟩⟩ : DReply))) ∧ Ext w w' := by
  have HP := Lib.hid hp
  have HT0 := Lib.hid ht0
  have HM := Lib.hid hm0
  clear hp ht0 hm0
  have HC := Lib.hid (cat_10 )
  go_enter Tryz.func12, Tryz.ntmps12
  go_wp2_with fail
  refine (implReplyOk_any (⟨10, 0, 0, 0, ⟨#[]⟩, ⟨#[]⟩⟩ : DReply) _ (HM.out.ext bxt) (show (⟨#[]⟩ : ByteArray).size ≤ 9223372036854775807 by decide) (show (⟨#[]⟩ : ByteArray).size ≤ 9223372036854775807 by decide) true (Lib.hid ⟨fun _ => HP.out, fun _ => rfl⟩)).mono ?_
  rintro e w1 ⟨rfl, b1⟩
  have HT : Hid (Pw w1) := Lib.hid (Pw.ext HT0.out (show Ext w w1 from bxt))
  have c0w1 : w1.cell? ⟨w.heap.size, 0, none⟩ = some (.int .i64 10) := (b1.cell (p := ⟨w.heap.size, 0, none⟩) (by simp)).trans (by simp [go_sem])
  have c1w1 : w1.cell? ⟨w.heap.size, 1, none⟩ = some (.int .i64 0) := (b1.cell (p := ⟨w.heap.size, 1, none⟩) (by simp)).trans (by simp [go_sem])
  have c2w1 : w1.cell? ⟨w.heap.size, 2, none⟩ = some (.int .i64 0) := (b1.cell (p := ⟨w.heap.size, 2, none⟩) (by simp)).trans (by simp [go_sem])
  have hzw1 : w.heap.size < w1.heap.size := by (have := b1.size; simp at this; omega)
  go_wp2_with fail
  have y0 := fun y : ExtW w1 => (y.h.cell (p := ⟨w.heap.size, 0, none⟩) hzw1).trans c0w1
  have y1 := fun y : ExtW w1 => (y.h.cell (p := ⟨w.heap.size, 1, none⟩) hzw1).trans c1w1
  have y2 := fun y : ExtW w1 => (y.h.cell (p := ⟨w.heap.size, 2, none⟩) hzw1).trans c2w1
  clear c0w1 c1w1 c2w1
  refine wp_region_ext (by kernel_rfl) (by kernel_rfl) ?_
  repeat (go_big_quiet_step (first | (go_at_call 31; refine (implDigits_any _ _ (Pw.ext HT.out (ExtW.h _)) (by omega) (by omega)).mono ?_; rintro e w' ⟨rfl, hb⟩; exact ⟨rfl, ExtW.on _ hb⟩)))
  refine wpQuiet_nil ?_
  rintro wq ⟨⟨w2, hw2⟩, hxw2⟩
  have hyw2 : wq = w2 := hxw2
  subst hyw2
  clear hxw2
  have c0wq : wq.cell? ⟨w.heap.size, 0, none⟩ = some (.int .i64 10) := y0 ⟨wq, hw2⟩
  have c1wq : wq.cell? ⟨w.heap.size, 1, none⟩ = some (.int .i64 0) := y1 ⟨wq, hw2⟩
  have c2wq : wq.cell? ⟨w.heap.size, 2, none⟩ = some (.int .i64 0) := y2 ⟨wq, hw2⟩
  clear y0 y1 y2
  have hzwq : w.heap.size < wq.heap.size := by (have := hw2.size; omega)
  go_wp2_with fail
  all_goals (first | (exfalso; omega) | skip)
  go_ret
  exact ⟨by rw [HC.out]; rfl, bxt⟩
set_option maxRecDepth 100000 in
set_option maxHeartbeats 4000000 in
theorem implText_11 (w : World) (ht0 : Pw w) (hm0 : MaxLen w) (hp : ReplyP (⟨11, 0, 0, 0, ⟨#[]⟩, ⟨#[]⟩⟩ : DReply))  :
    Calls Tryz.prog 12 #[.agg #[.int .i64 11, .int .i64 0, .int .i64 0, .int .i64 0, .string ⟨#[]⟩, .string ⟨#[]⟩]] w fun e w' => e = .returned (.string (txt (⟨11, 0, 0, 0, ⟨#[]⟩, ⟨#[]⟩⟩ : DReply))) ∧ Ext w w' := by
  have HP := Lib.hid hp
  have HT0 := Lib.hid ht0
  have HM := Lib.hid hm0
  clear hp ht0 hm0
  have HC := Lib.hid (cat_11 )
  go_enter Tryz.func12, Tryz.ntmps12
  go_wp2_with fail
  refine (implReplyOk_any (⟨11, 0, 0, 0, ⟨#[]⟩, ⟨#[]⟩⟩ : DReply) _ (HM.out.ext bxt) (show (⟨#[]⟩ : ByteArray).size ≤ 9223372036854775807 by decide) (show (⟨#[]⟩ : ByteArray).size ≤ 9223372036854775807 by decide) true (Lib.hid ⟨fun _ => HP.out, fun _ => rfl⟩)).mono ?_
  rintro e w1 ⟨rfl, b1⟩
  have HT : Hid (Pw w1) := Lib.hid (Pw.ext HT0.out (show Ext w w1 from bxt))
  have c0w1 : w1.cell? ⟨w.heap.size, 0, none⟩ = some (.int .i64 11) := (b1.cell (p := ⟨w.heap.size, 0, none⟩) (by simp)).trans (by simp [go_sem])
  have c1w1 : w1.cell? ⟨w.heap.size, 1, none⟩ = some (.int .i64 0) := (b1.cell (p := ⟨w.heap.size, 1, none⟩) (by simp)).trans (by simp [go_sem])
  have c2w1 : w1.cell? ⟨w.heap.size, 2, none⟩ = some (.int .i64 0) := (b1.cell (p := ⟨w.heap.size, 2, none⟩) (by simp)).trans (by simp [go_sem])
  have hzw1 : w.heap.size < w1.heap.size := by (have := b1.size; simp at this; omega)
  go_wp2_with fail
  have y0 := fun y : ExtW w1 => (y.h.cell (p := ⟨w.heap.size, 0, none⟩) hzw1).trans c0w1
  have y1 := fun y : ExtW w1 => (y.h.cell (p := ⟨w.heap.size, 1, none⟩) hzw1).trans c1w1
  have y2 := fun y : ExtW w1 => (y.h.cell (p := ⟨w.heap.size, 2, none⟩) hzw1).trans c2w1
  clear c0w1 c1w1 c2w1
  refine wp_region_ext (by kernel_rfl) (by kernel_rfl) ?_
  repeat (go_big_quiet_step (first | (go_at_call 31; refine (implDigits_any _ _ (Pw.ext HT.out (ExtW.h _)) (by omega) (by omega)).mono ?_; rintro e w' ⟨rfl, hb⟩; exact ⟨rfl, ExtW.on _ hb⟩)))
  refine wpQuiet_nil ?_
  rintro wq ⟨⟨w2, hw2⟩, hxw2⟩
  have hyw2 : wq = w2 := hxw2
  subst hyw2
  clear hxw2
  have c0wq : wq.cell? ⟨w.heap.size, 0, none⟩ = some (.int .i64 11) := y0 ⟨wq, hw2⟩
  have c1wq : wq.cell? ⟨w.heap.size, 1, none⟩ = some (.int .i64 0) := y1 ⟨wq, hw2⟩
  have c2wq : wq.cell? ⟨w.heap.size, 2, none⟩ = some (.int .i64 0) := y2 ⟨wq, hw2⟩
  clear y0 y1 y2
  have hzwq : w.heap.size < wq.heap.size := by (have := hw2.size; omega)
  go_wp2_with fail
  all_goals (first | (exfalso; omega) | skip)
  go_ret
  exact ⟨by rw [HC.out]; rfl, bxt⟩
set_option maxRecDepth 100000 in
set_option maxHeartbeats 4000000 in
theorem implText_12 (nm : ByteArray) (w : World) (ht0 : Pw w) (hm0 : MaxLen w) (hp : ReplyP (⟨12, 0, 0, 0, nm, ⟨#[]⟩⟩ : DReply)) (hn : nm.size ≤ 12) :
    Calls Tryz.prog 12 #[.agg #[.int .i64 12, .int .i64 0, .int .i64 0, .int .i64 0, .string nm, .string ⟨#[]⟩]] w fun e w' => e = .returned (.string (txt (⟨12, 0, 0, 0, nm, ⟨#[]⟩⟩ : DReply))) ∧ Ext w w' := by
  have HP := Lib.hid hp
  have HT0 := Lib.hid ht0
  have HM := Lib.hid hm0
  clear hp ht0 hm0
  have HC := Lib.hid (cat_12 nm )
  go_enter Tryz.func12, Tryz.ntmps12
  go_wp2_with fail
  refine (implReplyOk_any (⟨12, 0, 0, 0, nm, ⟨#[]⟩⟩ : DReply) _ (HM.out.ext bxt) (show (nm : ByteArray).size ≤ 9223372036854775807 by omega) (show (⟨#[]⟩ : ByteArray).size ≤ 9223372036854775807 by decide) true (Lib.hid ⟨fun _ => HP.out, fun _ => rfl⟩)).mono ?_
  rintro e w1 ⟨rfl, b1⟩
  have HT : Hid (Pw w1) := Lib.hid (Pw.ext HT0.out (show Ext w w1 from bxt))
  have c0w1 : w1.cell? ⟨w.heap.size, 0, none⟩ = some (.int .i64 12) := (b1.cell (p := ⟨w.heap.size, 0, none⟩) (by simp)).trans (by simp [go_sem])
  have c1w1 : w1.cell? ⟨w.heap.size, 1, none⟩ = some (.int .i64 0) := (b1.cell (p := ⟨w.heap.size, 1, none⟩) (by simp)).trans (by simp [go_sem])
  have c2w1 : w1.cell? ⟨w.heap.size, 2, none⟩ = some (.int .i64 0) := (b1.cell (p := ⟨w.heap.size, 2, none⟩) (by simp)).trans (by simp [go_sem])
  have c4w1 : w1.cell? ⟨w.heap.size, 4, none⟩ = some (.string nm) := (b1.cell (p := ⟨w.heap.size, 4, none⟩) (by simp)).trans (by simp [go_sem])
  have hzw1 : w.heap.size < w1.heap.size := by (have := b1.size; simp at this; omega)
  go_wp2_with fail
  have y0 := fun y : ExtW w1 => (y.h.cell (p := ⟨w.heap.size, 0, none⟩) hzw1).trans c0w1
  have y1 := fun y : ExtW w1 => (y.h.cell (p := ⟨w.heap.size, 1, none⟩) hzw1).trans c1w1
  have y2 := fun y : ExtW w1 => (y.h.cell (p := ⟨w.heap.size, 2, none⟩) hzw1).trans c2w1
  have y4 := fun y : ExtW w1 => (y.h.cell (p := ⟨w.heap.size, 4, none⟩) hzw1).trans c4w1
  clear c0w1 c1w1 c2w1 c4w1
  refine wp_region_ext (by kernel_rfl) (by kernel_rfl) ?_
  repeat (go_big_quiet_step (first | (go_at_call 31; refine (implDigits_any _ _ (Pw.ext HT.out (ExtW.h _)) (by omega) (by omega)).mono ?_; rintro e w' ⟨rfl, hb⟩; exact ⟨rfl, ExtW.on _ hb⟩)))
  refine wpQuiet_nil ?_
  rintro wq ⟨⟨w2, hw2⟩, hxw2⟩
  have hyw2 : wq = w2 := hxw2
  subst hyw2
  clear hxw2
  have c0wq : wq.cell? ⟨w.heap.size, 0, none⟩ = some (.int .i64 12) := y0 ⟨wq, hw2⟩
  have c1wq : wq.cell? ⟨w.heap.size, 1, none⟩ = some (.int .i64 0) := y1 ⟨wq, hw2⟩
  have c2wq : wq.cell? ⟨w.heap.size, 2, none⟩ = some (.int .i64 0) := y2 ⟨wq, hw2⟩
  have c4wq : wq.cell? ⟨w.heap.size, 4, none⟩ = some (.string nm) := y4 ⟨wq, hw2⟩
  clear y0 y1 y2 y4
  have hzwq : w.heap.size < wq.heap.size := by (have := hw2.size; omega)
  have q0 : ¬ 9223372036854775807 < nm.size + 3 := by omega
  go_wp2_with fail
  all_goals (first | (exfalso; omega) | skip)
  go_ret
  exact ⟨by rw [HC.out]; rfl, bxt⟩
set_option maxRecDepth 100000 in
set_option maxHeartbeats 4000000 in
theorem implText_13 (nm : ByteArray) (w : World) (ht0 : Pw w) (hm0 : MaxLen w) (hp : ReplyP (⟨13, 0, 0, 0, nm, ⟨#[]⟩⟩ : DReply)) (hn : nm.size ≤ 12) :
    Calls Tryz.prog 12 #[.agg #[.int .i64 13, .int .i64 0, .int .i64 0, .int .i64 0, .string nm, .string ⟨#[]⟩]] w fun e w' => e = .returned (.string (txt (⟨13, 0, 0, 0, nm, ⟨#[]⟩⟩ : DReply))) ∧ Ext w w' := by
  have HP := Lib.hid hp
  have HT0 := Lib.hid ht0
  have HM := Lib.hid hm0
  clear hp ht0 hm0
  have HC := Lib.hid (cat_13 nm )
  go_enter Tryz.func12, Tryz.ntmps12
  go_wp2_with fail
  refine (implReplyOk_any (⟨13, 0, 0, 0, nm, ⟨#[]⟩⟩ : DReply) _ (HM.out.ext bxt) (show (nm : ByteArray).size ≤ 9223372036854775807 by omega) (show (⟨#[]⟩ : ByteArray).size ≤ 9223372036854775807 by decide) true (Lib.hid ⟨fun _ => HP.out, fun _ => rfl⟩)).mono ?_
  rintro e w1 ⟨rfl, b1⟩
  have HT : Hid (Pw w1) := Lib.hid (Pw.ext HT0.out (show Ext w w1 from bxt))
  have c0w1 : w1.cell? ⟨w.heap.size, 0, none⟩ = some (.int .i64 13) := (b1.cell (p := ⟨w.heap.size, 0, none⟩) (by simp)).trans (by simp [go_sem])
  have c1w1 : w1.cell? ⟨w.heap.size, 1, none⟩ = some (.int .i64 0) := (b1.cell (p := ⟨w.heap.size, 1, none⟩) (by simp)).trans (by simp [go_sem])
  have c2w1 : w1.cell? ⟨w.heap.size, 2, none⟩ = some (.int .i64 0) := (b1.cell (p := ⟨w.heap.size, 2, none⟩) (by simp)).trans (by simp [go_sem])
  have c4w1 : w1.cell? ⟨w.heap.size, 4, none⟩ = some (.string nm) := (b1.cell (p := ⟨w.heap.size, 4, none⟩) (by simp)).trans (by simp [go_sem])
  have hzw1 : w.heap.size < w1.heap.size := by (have := b1.size; simp at this; omega)
  go_wp2_with fail
  have y0 := fun y : ExtW w1 => (y.h.cell (p := ⟨w.heap.size, 0, none⟩) hzw1).trans c0w1
  have y1 := fun y : ExtW w1 => (y.h.cell (p := ⟨w.heap.size, 1, none⟩) hzw1).trans c1w1
  have y2 := fun y : ExtW w1 => (y.h.cell (p := ⟨w.heap.size, 2, none⟩) hzw1).trans c2w1
  have y4 := fun y : ExtW w1 => (y.h.cell (p := ⟨w.heap.size, 4, none⟩) hzw1).trans c4w1
  clear c0w1 c1w1 c2w1 c4w1
  refine wp_region_ext (by kernel_rfl) (by kernel_rfl) ?_
  repeat (go_big_quiet_step (first | (go_at_call 31; refine (implDigits_any _ _ (Pw.ext HT.out (ExtW.h _)) (by omega) (by omega)).mono ?_; rintro e w' ⟨rfl, hb⟩; exact ⟨rfl, ExtW.on _ hb⟩)))
  refine wpQuiet_nil ?_
  rintro wq ⟨⟨w2, hw2⟩, hxw2⟩
  have hyw2 : wq = w2 := hxw2
  subst hyw2
  clear hxw2
  have c0wq : wq.cell? ⟨w.heap.size, 0, none⟩ = some (.int .i64 13) := y0 ⟨wq, hw2⟩
  have c1wq : wq.cell? ⟨w.heap.size, 1, none⟩ = some (.int .i64 0) := y1 ⟨wq, hw2⟩
  have c2wq : wq.cell? ⟨w.heap.size, 2, none⟩ = some (.int .i64 0) := y2 ⟨wq, hw2⟩
  have c4wq : wq.cell? ⟨w.heap.size, 4, none⟩ = some (.string nm) := y4 ⟨wq, hw2⟩
  clear y0 y1 y2 y4
  have hzwq : w.heap.size < wq.heap.size := by (have := hw2.size; omega)
  have q0 : ¬ 9223372036854775807 < nm.size + 3 := by omega
  go_wp2_with fail
  all_goals (first | (exfalso; omega) | skip)
  go_ret
  exact ⟨by rw [HC.out]; rfl, bxt⟩
set_option maxRecDepth 100000 in
set_option maxHeartbeats 4000000 in
theorem implText_14 (nm : ByteArray) (w : World) (ht0 : Pw w) (hm0 : MaxLen w) (hp : ReplyP (⟨14, 0, 0, 0, nm, ⟨#[]⟩⟩ : DReply)) (hn : nm.size ≤ 12) :
    Calls Tryz.prog 12 #[.agg #[.int .i64 14, .int .i64 0, .int .i64 0, .int .i64 0, .string nm, .string ⟨#[]⟩]] w fun e w' => e = .returned (.string (txt (⟨14, 0, 0, 0, nm, ⟨#[]⟩⟩ : DReply))) ∧ Ext w w' := by
  have HP := Lib.hid hp
  have HT0 := Lib.hid ht0
  have HM := Lib.hid hm0
  clear hp ht0 hm0
  have HC := Lib.hid (cat_14 nm )
  go_enter Tryz.func12, Tryz.ntmps12
  go_wp2_with fail
  refine (implReplyOk_any (⟨14, 0, 0, 0, nm, ⟨#[]⟩⟩ : DReply) _ (HM.out.ext bxt) (show (nm : ByteArray).size ≤ 9223372036854775807 by omega) (show (⟨#[]⟩ : ByteArray).size ≤ 9223372036854775807 by decide) true (Lib.hid ⟨fun _ => HP.out, fun _ => rfl⟩)).mono ?_
  rintro e w1 ⟨rfl, b1⟩
  have HT : Hid (Pw w1) := Lib.hid (Pw.ext HT0.out (show Ext w w1 from bxt))
  have c0w1 : w1.cell? ⟨w.heap.size, 0, none⟩ = some (.int .i64 14) := (b1.cell (p := ⟨w.heap.size, 0, none⟩) (by simp)).trans (by simp [go_sem])
  have c1w1 : w1.cell? ⟨w.heap.size, 1, none⟩ = some (.int .i64 0) := (b1.cell (p := ⟨w.heap.size, 1, none⟩) (by simp)).trans (by simp [go_sem])
  have c2w1 : w1.cell? ⟨w.heap.size, 2, none⟩ = some (.int .i64 0) := (b1.cell (p := ⟨w.heap.size, 2, none⟩) (by simp)).trans (by simp [go_sem])
  have c4w1 : w1.cell? ⟨w.heap.size, 4, none⟩ = some (.string nm) := (b1.cell (p := ⟨w.heap.size, 4, none⟩) (by simp)).trans (by simp [go_sem])
  have hzw1 : w.heap.size < w1.heap.size := by (have := b1.size; simp at this; omega)
  go_wp2_with fail
  have y0 := fun y : ExtW w1 => (y.h.cell (p := ⟨w.heap.size, 0, none⟩) hzw1).trans c0w1
  have y1 := fun y : ExtW w1 => (y.h.cell (p := ⟨w.heap.size, 1, none⟩) hzw1).trans c1w1
  have y2 := fun y : ExtW w1 => (y.h.cell (p := ⟨w.heap.size, 2, none⟩) hzw1).trans c2w1
  have y4 := fun y : ExtW w1 => (y.h.cell (p := ⟨w.heap.size, 4, none⟩) hzw1).trans c4w1
  clear c0w1 c1w1 c2w1 c4w1
  refine wp_region_ext (by kernel_rfl) (by kernel_rfl) ?_
  repeat (go_big_quiet_step (first | (go_at_call 31; refine (implDigits_any _ _ (Pw.ext HT.out (ExtW.h _)) (by omega) (by omega)).mono ?_; rintro e w' ⟨rfl, hb⟩; exact ⟨rfl, ExtW.on _ hb⟩)))
  refine wpQuiet_nil ?_
  rintro wq ⟨⟨w2, hw2⟩, hxw2⟩
  have hyw2 : wq = w2 := hxw2
  subst hyw2
  clear hxw2
  have c0wq : wq.cell? ⟨w.heap.size, 0, none⟩ = some (.int .i64 14) := y0 ⟨wq, hw2⟩
  have c1wq : wq.cell? ⟨w.heap.size, 1, none⟩ = some (.int .i64 0) := y1 ⟨wq, hw2⟩
  have c2wq : wq.cell? ⟨w.heap.size, 2, none⟩ = some (.int .i64 0) := y2 ⟨wq, hw2⟩
  have c4wq : wq.cell? ⟨w.heap.size, 4, none⟩ = some (.string nm) := y4 ⟨wq, hw2⟩
  clear y0 y1 y2 y4
  have hzwq : w.heap.size < wq.heap.size := by (have := hw2.size; omega)
  have q0 : ¬ 9223372036854775807 < nm.size + 4 := by omega
  go_wp2_with fail
  all_goals (first | (exfalso; omega) | skip)
  go_ret
  exact ⟨by rw [HC.out]; rfl, bxt⟩
set_option maxRecDepth 100000 in
set_option maxHeartbeats 4000000 in
theorem implText_15 (w : World) (ht0 : Pw w) (hm0 : MaxLen w) (hp : ReplyP (⟨15, 0, 0, 0, ⟨#[]⟩, ⟨#[]⟩⟩ : DReply))  :
    Calls Tryz.prog 12 #[.agg #[.int .i64 15, .int .i64 0, .int .i64 0, .int .i64 0, .string ⟨#[]⟩, .string ⟨#[]⟩]] w fun e w' => e = .returned (.string (txt (⟨15, 0, 0, 0, ⟨#[]⟩, ⟨#[]⟩⟩ : DReply))) ∧ Ext w w' := by
  have HP := Lib.hid hp
  have HT0 := Lib.hid ht0
  have HM := Lib.hid hm0
  clear hp ht0 hm0
  have HC := Lib.hid (cat_15 )
  go_enter Tryz.func12, Tryz.ntmps12
  go_wp2_with fail
  refine (implReplyOk_any (⟨15, 0, 0, 0, ⟨#[]⟩, ⟨#[]⟩⟩ : DReply) _ (HM.out.ext bxt) (show (⟨#[]⟩ : ByteArray).size ≤ 9223372036854775807 by decide) (show (⟨#[]⟩ : ByteArray).size ≤ 9223372036854775807 by decide) true (Lib.hid ⟨fun _ => HP.out, fun _ => rfl⟩)).mono ?_
  rintro e w1 ⟨rfl, b1⟩
  have HT : Hid (Pw w1) := Lib.hid (Pw.ext HT0.out (show Ext w w1 from bxt))
  have c0w1 : w1.cell? ⟨w.heap.size, 0, none⟩ = some (.int .i64 15) := (b1.cell (p := ⟨w.heap.size, 0, none⟩) (by simp)).trans (by simp [go_sem])
  have c1w1 : w1.cell? ⟨w.heap.size, 1, none⟩ = some (.int .i64 0) := (b1.cell (p := ⟨w.heap.size, 1, none⟩) (by simp)).trans (by simp [go_sem])
  have c2w1 : w1.cell? ⟨w.heap.size, 2, none⟩ = some (.int .i64 0) := (b1.cell (p := ⟨w.heap.size, 2, none⟩) (by simp)).trans (by simp [go_sem])
  have hzw1 : w.heap.size < w1.heap.size := by (have := b1.size; simp at this; omega)
  go_wp2_with fail
  have y0 := fun y : ExtW w1 => (y.h.cell (p := ⟨w.heap.size, 0, none⟩) hzw1).trans c0w1
  have y1 := fun y : ExtW w1 => (y.h.cell (p := ⟨w.heap.size, 1, none⟩) hzw1).trans c1w1
  have y2 := fun y : ExtW w1 => (y.h.cell (p := ⟨w.heap.size, 2, none⟩) hzw1).trans c2w1
  clear c0w1 c1w1 c2w1
  refine wp_region_ext (by kernel_rfl) (by kernel_rfl) ?_
  repeat (go_big_quiet_step (first | (go_at_call 31; refine (implDigits_any _ _ (Pw.ext HT.out (ExtW.h _)) (by omega) (by omega)).mono ?_; rintro e w' ⟨rfl, hb⟩; exact ⟨rfl, ExtW.on _ hb⟩)))
  refine wpQuiet_nil ?_
  rintro wq ⟨⟨w2, hw2⟩, hxw2⟩
  have hyw2 : wq = w2 := hxw2
  subst hyw2
  clear hxw2
  have c0wq : wq.cell? ⟨w.heap.size, 0, none⟩ = some (.int .i64 15) := y0 ⟨wq, hw2⟩
  have c1wq : wq.cell? ⟨w.heap.size, 1, none⟩ = some (.int .i64 0) := y1 ⟨wq, hw2⟩
  have c2wq : wq.cell? ⟨w.heap.size, 2, none⟩ = some (.int .i64 0) := y2 ⟨wq, hw2⟩
  clear y0 y1 y2
  have hzwq : w.heap.size < wq.heap.size := by (have := hw2.size; omega)
  go_wp2_with fail
  all_goals (first | (exfalso; omega) | skip)
  go_ret
  exact ⟨by rw [HC.out]; rfl, bxt⟩
set_option maxRecDepth 100000 in
set_option maxHeartbeats 4000000 in
theorem implText_16 (w : World) (ht0 : Pw w) (hm0 : MaxLen w) (hp : ReplyP (⟨16, 0, 0, 0, ⟨#[]⟩, ⟨#[]⟩⟩ : DReply))  :
    Calls Tryz.prog 12 #[.agg #[.int .i64 16, .int .i64 0, .int .i64 0, .int .i64 0, .string ⟨#[]⟩, .string ⟨#[]⟩]] w fun e w' => e = .returned (.string (txt (⟨16, 0, 0, 0, ⟨#[]⟩, ⟨#[]⟩⟩ : DReply))) ∧ Ext w w' := by
  have HP := Lib.hid hp
  have HT0 := Lib.hid ht0
  have HM := Lib.hid hm0
  clear hp ht0 hm0
  have HC := Lib.hid (cat_16 )
  go_enter Tryz.func12, Tryz.ntmps12
  go_wp2_with fail
  refine (implReplyOk_any (⟨16, 0, 0, 0, ⟨#[]⟩, ⟨#[]⟩⟩ : DReply) _ (HM.out.ext bxt) (show (⟨#[]⟩ : ByteArray).size ≤ 9223372036854775807 by decide) (show (⟨#[]⟩ : ByteArray).size ≤ 9223372036854775807 by decide) true (Lib.hid ⟨fun _ => HP.out, fun _ => rfl⟩)).mono ?_
  rintro e w1 ⟨rfl, b1⟩
  have HT : Hid (Pw w1) := Lib.hid (Pw.ext HT0.out (show Ext w w1 from bxt))
  have c0w1 : w1.cell? ⟨w.heap.size, 0, none⟩ = some (.int .i64 16) := (b1.cell (p := ⟨w.heap.size, 0, none⟩) (by simp)).trans (by simp [go_sem])
  have c1w1 : w1.cell? ⟨w.heap.size, 1, none⟩ = some (.int .i64 0) := (b1.cell (p := ⟨w.heap.size, 1, none⟩) (by simp)).trans (by simp [go_sem])
  have c2w1 : w1.cell? ⟨w.heap.size, 2, none⟩ = some (.int .i64 0) := (b1.cell (p := ⟨w.heap.size, 2, none⟩) (by simp)).trans (by simp [go_sem])
  have hzw1 : w.heap.size < w1.heap.size := by (have := b1.size; simp at this; omega)
  go_wp2_with fail
  have y0 := fun y : ExtW w1 => (y.h.cell (p := ⟨w.heap.size, 0, none⟩) hzw1).trans c0w1
  have y1 := fun y : ExtW w1 => (y.h.cell (p := ⟨w.heap.size, 1, none⟩) hzw1).trans c1w1
  have y2 := fun y : ExtW w1 => (y.h.cell (p := ⟨w.heap.size, 2, none⟩) hzw1).trans c2w1
  clear c0w1 c1w1 c2w1
  refine wp_region_ext (by kernel_rfl) (by kernel_rfl) ?_
  repeat (go_big_quiet_step (first | (go_at_call 31; refine (implDigits_any _ _ (Pw.ext HT.out (ExtW.h _)) (by omega) (by omega)).mono ?_; rintro e w' ⟨rfl, hb⟩; exact ⟨rfl, ExtW.on _ hb⟩)))
  refine wpQuiet_nil ?_
  rintro wq ⟨⟨w2, hw2⟩, hxw2⟩
  have hyw2 : wq = w2 := hxw2
  subst hyw2
  clear hxw2
  have c0wq : wq.cell? ⟨w.heap.size, 0, none⟩ = some (.int .i64 16) := y0 ⟨wq, hw2⟩
  have c1wq : wq.cell? ⟨w.heap.size, 1, none⟩ = some (.int .i64 0) := y1 ⟨wq, hw2⟩
  have c2wq : wq.cell? ⟨w.heap.size, 2, none⟩ = some (.int .i64 0) := y2 ⟨wq, hw2⟩
  clear y0 y1 y2
  have hzwq : w.heap.size < wq.heap.size := by (have := hw2.size; omega)
  go_wp2_with fail
  all_goals (first | (exfalso; omega) | skip)
  go_ret
  exact ⟨by rw [HC.out]; rfl, bxt⟩
set_option maxHeartbeats 1000000 in
theorem implReplyText_any (a : DReply) (w : World) (ht : Pw w) (hm : MaxLen w) (g1 : a.name.size ≤ 9223372036854775807) (g2 : a.text.size ≤ 9223372036854775807) (r : Bool) (Hr : Hid (Tells r (ReplyP a))) :
    Calls Tryz.prog 12 #[.agg #[.int .i64 a.kind, .int .i64 a.n, .int .i64 a.uid, .int .i64 a.flags, .string a.name, .string a.text]] w fun e w' => e = .returned (.string (txtOf r a)) ∧ Ext w w' := by
  cases r
  · go_enter Tryz.func12, Tryz.ntmps12
    go_wp2_with fail
    refine (implReplyOk_any a _ (hm.ext bxt) g1 g2 false Hr).mono ?_
    rintro e w1 ⟨rfl, b1⟩
    go_wp2_with fail
    go_ret
    exact ⟨rfl, bxt⟩
  · have hp : ReplyP a := Hr.out.1 rfl
    have hp0 := hp
    obtain ⟨k, n, u, f, nm, tx⟩ := a
    show Calls _ _ _ w fun e w' => e = .returned (.string (txt _)) ∧ Ext w w'
    unfold ReplyP ReplyK at hp
    simp only at hp
    rcases hp with ⟨rfl, h1, rfl, rfl, rfl, rfl⟩ | ⟨rfl, h1, rfl, rfl, rfl, rfl⟩ | ⟨rfl, h1, h2, h3, rfl, rfl⟩ | ⟨rfl, h1, h2, rfl, rfl, rfl⟩ | ⟨rfl, h1, h2, h3, rfl, rfl⟩ | ⟨rfl, h1, rfl, rfl, rfl, rfl⟩ | ⟨rfl, h1, rfl, rfl, rfl, rfl⟩ | ⟨rfl, h1, h2, rfl, rfl, rfl⟩ | ⟨rfl, rfl, rfl, rfl, rfl, rfl⟩ | ⟨rfl, rfl, rfl, rfl, rfl, rfl⟩ | ⟨rfl, rfl, rfl, rfl, rfl, rfl⟩ | ⟨rfl, h1, rfl, rfl, rfl, rfl⟩ | ⟨rfl, h1, rfl, rfl, rfl, rfl⟩ | ⟨rfl, h1, rfl, rfl, rfl, rfl⟩ | ⟨rfl, rfl, rfl, rfl, rfl, rfl⟩ | ⟨rfl, rfl, rfl, rfl, rfl, rfl⟩
    · exact implText_1 n w ht hm hp0 ⟨by omega, by omega⟩
    · exact implText_2 n w ht hm hp0 ⟨by omega, by omega⟩
    · exact implText_3 n u f w ht hm hp0 ⟨by omega, by omega⟩ ⟨by omega, by omega⟩ h3
    · exact implText_4 n tx w ht hm hp0 ⟨by omega, by omega⟩ h2
    · exact implText_5 n u nm w ht hm hp0 ⟨by omega, by omega⟩ ⟨by omega, by omega⟩ h3.2.2
    · exact implText_6 nm w ht hm hp0 h1.2.2
    · exact implText_7 nm w ht hm hp0 h1.2.2
    · exact implText_8 n nm w ht hm hp0 ⟨by omega, by omega⟩ h2.2.2
    · exact implText_9 w ht hm hp0 
    · exact implText_10 w ht hm hp0 
    · exact implText_11 w ht hm hp0 
    · exact implText_12 nm w ht hm hp0 (tag_size h1)
    · exact implText_13 nm w ht hm hp0 (tag_size h1)
    · exact implText_14 nm w ht hm hp0 (tag_size h1)
    · exact implText_15 w ht hm hp0 
    · exact implText_16 w ht hm hp0 
end Go.Proofs.YtidfhkdonhjgaaaGreatDoor
