/-
  The replies that tell a commit: the program's function and the reference's.
-/
import Derived.Test.YtpameapajhbdnaaK00
import Derived.Test.YtpameapajhbdnaaK14
namespace Go.Proofs.Ytpameapajhbdnaa
open Go.RowKit
set_option linter.unusedVariables false
set_option linter.unusedSimpArgs false

theorem DReply.one1 (x : DReply) : ∀ u ∈ x.cells, u.oneCell' = true := by simp [DReply.cells, Value.oneCell']
def telling (l : List DSeen) (m : DCommit) : List DReply :=
  if (followed l m).ok = false then []
  else if m.kind = 4 then [⟨1, (l.length : Int) + 1, 0, 0, ⟨#[]⟩, ⟨#[]⟩⟩, ⟨3, (l.length : Int) + 1, m.uid, m.flags, ⟨#[]⟩, ⟨#[]⟩⟩]
  else if m.kind = 5 then [⟨3, seqOf m.uid l, m.uid, m.flags, ⟨#[]⟩, ⟨#[]⟩⟩]
  else [⟨2, seqOf m.uid l, 0, 0, ⟨#[]⟩, ⟨#[]⟩⟩]
theorem telling_len (l : List DSeen) (m : DCommit) : (telling l m).length ≤ 2 := by
  unfold telling
  repeat' split
  all_goals simp
def TellPost (E : Nat) (r : List DReply) (w : World) (e : Ending) (w' : World) : Prop :=
  ∃ g q, e = .returned (.slice g r.length q) ∧ Own w' w.heap.size E 6 (.slice g r.length q) r.length (r.flatMap DReply.cells) ∧ Ext w w'

set_option maxRecDepth 100000 in
set_option maxHeartbeats 4000000 in
theorem specTell_no (l : List DSeen) (a : Option Addr) (c : Nat) (m : DCommit) (w : World) (R : Rd w a c 2 l.length (l.flatMap DSeen.cells)) (hl : l.length ≤ 1048576) (g1 : m.name.size ≤ 9223372036854775807) (g2 : m.text.size ≤ 9223372036854775807) (hok : (followed l m).ok = false) :
    Calls Try.prog 56 #[.agg #[.slice a l.length c], .agg #[.int .i64 m.kind, .int .i64 m.validity, .int .i64 m.uid, .int .i64 m.flags, .string m.name, .string m.text]] w (TellPost 131 [] w) := by
  have HR := Lib.hid R
  clear R
  obtain ⟨i0, hi0, hz0, hz1, hz2⟩ := info_parts info_Reply
  obtain ⟨rk, hrk⟩ : ∃ r, (followed l m).known = r := ⟨_, rfl⟩
  have HK := Lib.hid hrk
  have HOK := Lib.hid hok
  clear hrk hok
  have wr : IntKind.i64.wrap ((l.length : Int) + 1) = (l.length : Int) + 1 := IntWalk.i64_in _ (by omega)
  go_enter Try.func56, Try.ntmps56
  go_wp2_with (first | (go_at_call 49; refine (specFollowed_any l _ _ m _ (HR.out.ext bxt) hl g1 g2 rk HK false HOK).mono ?_; rintro e w1 ⟨g, q, rfl, -, hb1⟩; have cl0_0 : w1.cell? ⟨w.heap.size, 0, none⟩ = some (.slice a l.length c) := (hb1.cell (p := ⟨w.heap.size, 0, none⟩) smx).trans kpx; have sl0 : w.heap.size < w1.heap.size := (by have hss := hb1.size; first | omega | (simp at hss; omega)); have cl1_0 : w1.cell? ⟨w.heap.size + 1, 0, none⟩ = some (.int .i64 m.kind) := (hb1.cell (p := ⟨w.heap.size + 1, 0, none⟩) smx).trans kpx; have cl1_1 : w1.cell? ⟨w.heap.size + 1, 1, none⟩ = some (.int .i64 m.validity) := (hb1.cell (p := ⟨w.heap.size + 1, 1, none⟩) smx).trans kpx; have cl1_2 : w1.cell? ⟨w.heap.size + 1, 2, none⟩ = some (.int .i64 m.uid) := (hb1.cell (p := ⟨w.heap.size + 1, 2, none⟩) smx).trans kpx; have cl1_3 : w1.cell? ⟨w.heap.size + 1, 3, none⟩ = some (.int .i64 m.flags) := (hb1.cell (p := ⟨w.heap.size + 1, 3, none⟩) smx).trans kpx; have cl1_4 : w1.cell? ⟨w.heap.size + 1, 4, none⟩ = some (.string m.name) := (hb1.cell (p := ⟨w.heap.size + 1, 4, none⟩) smx).trans kpx; have cl1_5 : w1.cell? ⟨w.heap.size + 1, 5, none⟩ = some (.string m.text) := (hb1.cell (p := ⟨w.heap.size + 1, 5, none⟩) smx).trans kpx; have sl1 : w.heap.size + 1 < w1.heap.size := (by have hss := hb1.size; first | omega | (simp at hss; omega))))
  go_ret
  exact ⟨_, _, rfl, Own.none0 _, bxt⟩

set_option maxRecDepth 100000 in
set_option maxHeartbeats 4000000 in
theorem specTell_k4 (l : List DSeen) (a : Option Addr) (c : Nat) (m : DCommit) (w : World) (R : Rd w a c 2 l.length (l.flatMap DSeen.cells)) (hl : l.length ≤ 1048576) (g1 : m.name.size ≤ 9223372036854775807) (g2 : m.text.size ≤ 9223372036854775807) (hok : (followed l m).ok = true) (hk4 : m.kind = 4) :
    Calls Try.prog 56 #[.agg #[.slice a l.length c], .agg #[.int .i64 m.kind, .int .i64 m.validity, .int .i64 m.uid, .int .i64 m.flags, .string m.name, .string m.text]] w (TellPost 131 [⟨1, (l.length : Int) + 1, 0, 0, ⟨#[]⟩, ⟨#[]⟩⟩, ⟨3, (l.length : Int) + 1, m.uid, m.flags, ⟨#[]⟩, ⟨#[]⟩⟩] w) := by
  have HR := Lib.hid R
  clear R
  obtain ⟨i0, hi0, hz0, hz1, hz2⟩ := info_parts info_Reply
  obtain ⟨rk, hrk⟩ : ∃ r, (followed l m).known = r := ⟨_, rfl⟩
  have HK := Lib.hid hrk
  have HOK := Lib.hid hok
  clear hrk hok
  have wr : IntKind.i64.wrap ((l.length : Int) + 1) = (l.length : Int) + 1 := IntWalk.i64_in _ (by omega)
  have k4 : (m.kind == 4) = true := beq_iff_eq.2 hk4
  clear hk4
  go_enter Try.func56, Try.ntmps56
  go_wp2_with (first | (go_at_call 49; refine (specFollowed_any l _ _ m _ (HR.out.ext bxt) hl g1 g2 rk HK true HOK).mono ?_; rintro e w1 ⟨g, q, rfl, -, hb1⟩; have cl0_0 : w1.cell? ⟨w.heap.size, 0, none⟩ = some (.slice a l.length c) := (hb1.cell (p := ⟨w.heap.size, 0, none⟩) smx).trans kpx; have sl0 : w.heap.size < w1.heap.size := (by have hss := hb1.size; first | omega | (simp at hss; omega)); have cl1_0 : w1.cell? ⟨w.heap.size + 1, 0, none⟩ = some (.int .i64 m.kind) := (hb1.cell (p := ⟨w.heap.size + 1, 0, none⟩) smx).trans kpx; have cl1_1 : w1.cell? ⟨w.heap.size + 1, 1, none⟩ = some (.int .i64 m.validity) := (hb1.cell (p := ⟨w.heap.size + 1, 1, none⟩) smx).trans kpx; have cl1_2 : w1.cell? ⟨w.heap.size + 1, 2, none⟩ = some (.int .i64 m.uid) := (hb1.cell (p := ⟨w.heap.size + 1, 2, none⟩) smx).trans kpx; have cl1_3 : w1.cell? ⟨w.heap.size + 1, 3, none⟩ = some (.int .i64 m.flags) := (hb1.cell (p := ⟨w.heap.size + 1, 3, none⟩) smx).trans kpx; have cl1_4 : w1.cell? ⟨w.heap.size + 1, 4, none⟩ = some (.string m.name) := (hb1.cell (p := ⟨w.heap.size + 1, 4, none⟩) smx).trans kpx; have cl1_5 : w1.cell? ⟨w.heap.size + 1, 5, none⟩ = some (.string m.text) := (hb1.cell (p := ⟨w.heap.size + 1, 5, none⟩) smx).trans kpx; have sl1 : w.heap.size + 1 < w1.heap.size := (by have hss := hb1.size; first | omega | (simp at hss; omega))) | (go_at_call 122; refine (specSeqIn_any l _ _ m.uid _ (HR.out.ext bxt) (seqOf m.uid l) (Lib.hid rfl)).mono ?_; rintro e w2 ⟨rfl, hb2⟩; have cl0_0 : w2.cell? ⟨w.heap.size, 0, none⟩ = some (.slice a l.length c) := (hb2.cell (p := ⟨w.heap.size, 0, none⟩) smx).trans kpx; have sl0 : w.heap.size < w2.heap.size := (by have hss := hb2.size; first | omega | (simp at hss; omega)); have cl1_0 : w2.cell? ⟨w.heap.size + 1, 0, none⟩ = some (.int .i64 m.kind) := (hb2.cell (p := ⟨w.heap.size + 1, 0, none⟩) smx).trans kpx; have cl1_1 : w2.cell? ⟨w.heap.size + 1, 1, none⟩ = some (.int .i64 m.validity) := (hb2.cell (p := ⟨w.heap.size + 1, 1, none⟩) smx).trans kpx; have cl1_2 : w2.cell? ⟨w.heap.size + 1, 2, none⟩ = some (.int .i64 m.uid) := (hb2.cell (p := ⟨w.heap.size + 1, 2, none⟩) smx).trans kpx; have cl1_3 : w2.cell? ⟨w.heap.size + 1, 3, none⟩ = some (.int .i64 m.flags) := (hb2.cell (p := ⟨w.heap.size + 1, 3, none⟩) smx).trans kpx; have cl1_4 : w2.cell? ⟨w.heap.size + 1, 4, none⟩ = some (.string m.name) := (hb2.cell (p := ⟨w.heap.size + 1, 4, none⟩) smx).trans kpx; have cl1_5 : w2.cell? ⟨w.heap.size + 1, 5, none⟩ = some (.string m.text) := (hb2.cell (p := ⟨w.heap.size + 1, 5, none⟩) smx).trans kpx; have sl1 : w.heap.size + 1 < w2.heap.size := (by have hss := hb2.size; first | omega | (simp at hss; omega))) | (at_builtin; refine wpList_app (B := w.heap.size) (v := .slice _ 0 0) rfl _ _ _ rfl 131 i0 _ _ Try.underlying61 hi0 hz0 hz1 hz2 rfl (by decide) rfl (Own.none0 _) (some ⟨w2.heap.size, 0, none⟩) 2 2 [.int .i64 (1), .int .i64 ((l.length : Int) + 1), .int .i64 (0), .int .i64 (0), .string ⟨#[]⟩, .string ⟨#[]⟩, .int .i64 (3), .int .i64 ((l.length : Int) + 1), .int .i64 (m.uid), .int .i64 (m.flags), .string ⟨#[]⟩, .string ⟨#[]⟩] rfl (Rd.lit _ _ _ 2 6 _ (by first | rfl | simp) rfl (by omega)) (by simp [Value.oneCell']) (by omega) (by omega) smx ?_; intro g2 q2 w3 hown hg; simp only [Nat.zero_add, List.nil_append] at hown ⊢; have hgn := grown_below (show World.grownBy _ w3 none from hg); have HO := Lib.hid hown; clear hown hg))
  go_ret
  exact ⟨_, _, rfl, HO.out, bxt⟩

set_option maxRecDepth 100000 in
set_option maxHeartbeats 4000000 in
theorem specTell_k5 (l : List DSeen) (a : Option Addr) (c : Nat) (m : DCommit) (w : World) (R : Rd w a c 2 l.length (l.flatMap DSeen.cells)) (hl : l.length ≤ 1048576) (g1 : m.name.size ≤ 9223372036854775807) (g2 : m.text.size ≤ 9223372036854775807) (hok : (followed l m).ok = true) (hk4 : m.kind ≠ 4) (hk5 : m.kind = 5) :
    Calls Try.prog 56 #[.agg #[.slice a l.length c], .agg #[.int .i64 m.kind, .int .i64 m.validity, .int .i64 m.uid, .int .i64 m.flags, .string m.name, .string m.text]] w (TellPost 131 [⟨3, seqOf m.uid l, m.uid, m.flags, ⟨#[]⟩, ⟨#[]⟩⟩] w) := by
  have HR := Lib.hid R
  clear R
  obtain ⟨i0, hi0, hz0, hz1, hz2⟩ := info_parts info_Reply
  obtain ⟨rk, hrk⟩ : ∃ r, (followed l m).known = r := ⟨_, rfl⟩
  have HK := Lib.hid hrk
  have HOK := Lib.hid hok
  clear hrk hok
  have wr : IntKind.i64.wrap ((l.length : Int) + 1) = (l.length : Int) + 1 := IntWalk.i64_in _ (by omega)
  have k4 : (m.kind == 4) = false := beq_eq_false_iff_ne.2 hk4
  have k5 : (m.kind == 5) = true := beq_iff_eq.2 hk5
  clear hk4
  clear hk5
  go_enter Try.func56, Try.ntmps56
  go_wp2_with (first | (go_at_call 49; refine (specFollowed_any l _ _ m _ (HR.out.ext bxt) hl g1 g2 rk HK true HOK).mono ?_; rintro e w1 ⟨g, q, rfl, -, hb1⟩; have cl0_0 : w1.cell? ⟨w.heap.size, 0, none⟩ = some (.slice a l.length c) := (hb1.cell (p := ⟨w.heap.size, 0, none⟩) smx).trans kpx; have sl0 : w.heap.size < w1.heap.size := (by have hss := hb1.size; first | omega | (simp at hss; omega)); have cl1_0 : w1.cell? ⟨w.heap.size + 1, 0, none⟩ = some (.int .i64 m.kind) := (hb1.cell (p := ⟨w.heap.size + 1, 0, none⟩) smx).trans kpx; have cl1_1 : w1.cell? ⟨w.heap.size + 1, 1, none⟩ = some (.int .i64 m.validity) := (hb1.cell (p := ⟨w.heap.size + 1, 1, none⟩) smx).trans kpx; have cl1_2 : w1.cell? ⟨w.heap.size + 1, 2, none⟩ = some (.int .i64 m.uid) := (hb1.cell (p := ⟨w.heap.size + 1, 2, none⟩) smx).trans kpx; have cl1_3 : w1.cell? ⟨w.heap.size + 1, 3, none⟩ = some (.int .i64 m.flags) := (hb1.cell (p := ⟨w.heap.size + 1, 3, none⟩) smx).trans kpx; have cl1_4 : w1.cell? ⟨w.heap.size + 1, 4, none⟩ = some (.string m.name) := (hb1.cell (p := ⟨w.heap.size + 1, 4, none⟩) smx).trans kpx; have cl1_5 : w1.cell? ⟨w.heap.size + 1, 5, none⟩ = some (.string m.text) := (hb1.cell (p := ⟨w.heap.size + 1, 5, none⟩) smx).trans kpx; have sl1 : w.heap.size + 1 < w1.heap.size := (by have hss := hb1.size; first | omega | (simp at hss; omega))) | (go_at_call 122; refine (specSeqIn_any l _ _ m.uid _ (HR.out.ext bxt) (seqOf m.uid l) (Lib.hid rfl)).mono ?_; rintro e w2 ⟨rfl, hb2⟩; have cl0_0 : w2.cell? ⟨w.heap.size, 0, none⟩ = some (.slice a l.length c) := (hb2.cell (p := ⟨w.heap.size, 0, none⟩) smx).trans kpx; have sl0 : w.heap.size < w2.heap.size := (by have hss := hb2.size; first | omega | (simp at hss; omega)); have cl1_0 : w2.cell? ⟨w.heap.size + 1, 0, none⟩ = some (.int .i64 m.kind) := (hb2.cell (p := ⟨w.heap.size + 1, 0, none⟩) smx).trans kpx; have cl1_1 : w2.cell? ⟨w.heap.size + 1, 1, none⟩ = some (.int .i64 m.validity) := (hb2.cell (p := ⟨w.heap.size + 1, 1, none⟩) smx).trans kpx; have cl1_2 : w2.cell? ⟨w.heap.size + 1, 2, none⟩ = some (.int .i64 m.uid) := (hb2.cell (p := ⟨w.heap.size + 1, 2, none⟩) smx).trans kpx; have cl1_3 : w2.cell? ⟨w.heap.size + 1, 3, none⟩ = some (.int .i64 m.flags) := (hb2.cell (p := ⟨w.heap.size + 1, 3, none⟩) smx).trans kpx; have cl1_4 : w2.cell? ⟨w.heap.size + 1, 4, none⟩ = some (.string m.name) := (hb2.cell (p := ⟨w.heap.size + 1, 4, none⟩) smx).trans kpx; have cl1_5 : w2.cell? ⟨w.heap.size + 1, 5, none⟩ = some (.string m.text) := (hb2.cell (p := ⟨w.heap.size + 1, 5, none⟩) smx).trans kpx; have sl1 : w.heap.size + 1 < w2.heap.size := (by have hss := hb2.size; first | omega | (simp at hss; omega))) | (at_builtin; refine wpList_app (B := w.heap.size) (v := .slice _ 0 0) rfl _ _ _ rfl 131 i0 _ _ Try.underlying61 hi0 hz0 hz1 hz2 rfl (by decide) rfl (Own.none0 _) (some ⟨w2.heap.size, 0, none⟩) 1 1 [.int .i64 (3), .int .i64 (seqOf m.uid l), .int .i64 (m.uid), .int .i64 (m.flags), .string ⟨#[]⟩, .string ⟨#[]⟩] rfl (Rd.lit _ _ _ 1 6 _ (by first | rfl | simp) rfl (by omega)) (by simp [Value.oneCell']) (by omega) (by omega) smx ?_; intro g2 q2 w3 hown hg; simp only [Nat.zero_add, List.nil_append] at hown ⊢; have hgn := grown_below (show World.grownBy _ w3 none from hg); have HO := Lib.hid hown; clear hown hg))
  go_ret
  exact ⟨_, _, rfl, HO.out, bxt⟩

set_option maxRecDepth 100000 in
set_option maxHeartbeats 4000000 in
theorem specTell_k6 (l : List DSeen) (a : Option Addr) (c : Nat) (m : DCommit) (w : World) (R : Rd w a c 2 l.length (l.flatMap DSeen.cells)) (hl : l.length ≤ 1048576) (g1 : m.name.size ≤ 9223372036854775807) (g2 : m.text.size ≤ 9223372036854775807) (hok : (followed l m).ok = true) (hk4 : m.kind ≠ 4) (hk5 : m.kind ≠ 5) :
    Calls Try.prog 56 #[.agg #[.slice a l.length c], .agg #[.int .i64 m.kind, .int .i64 m.validity, .int .i64 m.uid, .int .i64 m.flags, .string m.name, .string m.text]] w (TellPost 131 [⟨2, seqOf m.uid l, 0, 0, ⟨#[]⟩, ⟨#[]⟩⟩] w) := by
  have HR := Lib.hid R
  clear R
  obtain ⟨i0, hi0, hz0, hz1, hz2⟩ := info_parts info_Reply
  obtain ⟨rk, hrk⟩ : ∃ r, (followed l m).known = r := ⟨_, rfl⟩
  have HK := Lib.hid hrk
  have HOK := Lib.hid hok
  clear hrk hok
  have wr : IntKind.i64.wrap ((l.length : Int) + 1) = (l.length : Int) + 1 := IntWalk.i64_in _ (by omega)
  have k4 : (m.kind == 4) = false := beq_eq_false_iff_ne.2 hk4
  have k5 : (m.kind == 5) = false := beq_eq_false_iff_ne.2 hk5
  clear hk4
  clear hk5
  go_enter Try.func56, Try.ntmps56
  go_wp2_with (first | (go_at_call 49; refine (specFollowed_any l _ _ m _ (HR.out.ext bxt) hl g1 g2 rk HK true HOK).mono ?_; rintro e w1 ⟨g, q, rfl, -, hb1⟩; have cl0_0 : w1.cell? ⟨w.heap.size, 0, none⟩ = some (.slice a l.length c) := (hb1.cell (p := ⟨w.heap.size, 0, none⟩) smx).trans kpx; have sl0 : w.heap.size < w1.heap.size := (by have hss := hb1.size; first | omega | (simp at hss; omega)); have cl1_0 : w1.cell? ⟨w.heap.size + 1, 0, none⟩ = some (.int .i64 m.kind) := (hb1.cell (p := ⟨w.heap.size + 1, 0, none⟩) smx).trans kpx; have cl1_1 : w1.cell? ⟨w.heap.size + 1, 1, none⟩ = some (.int .i64 m.validity) := (hb1.cell (p := ⟨w.heap.size + 1, 1, none⟩) smx).trans kpx; have cl1_2 : w1.cell? ⟨w.heap.size + 1, 2, none⟩ = some (.int .i64 m.uid) := (hb1.cell (p := ⟨w.heap.size + 1, 2, none⟩) smx).trans kpx; have cl1_3 : w1.cell? ⟨w.heap.size + 1, 3, none⟩ = some (.int .i64 m.flags) := (hb1.cell (p := ⟨w.heap.size + 1, 3, none⟩) smx).trans kpx; have cl1_4 : w1.cell? ⟨w.heap.size + 1, 4, none⟩ = some (.string m.name) := (hb1.cell (p := ⟨w.heap.size + 1, 4, none⟩) smx).trans kpx; have cl1_5 : w1.cell? ⟨w.heap.size + 1, 5, none⟩ = some (.string m.text) := (hb1.cell (p := ⟨w.heap.size + 1, 5, none⟩) smx).trans kpx; have sl1 : w.heap.size + 1 < w1.heap.size := (by have hss := hb1.size; first | omega | (simp at hss; omega))) | (go_at_call 122; refine (specSeqIn_any l _ _ m.uid _ (HR.out.ext bxt) (seqOf m.uid l) (Lib.hid rfl)).mono ?_; rintro e w2 ⟨rfl, hb2⟩; have cl0_0 : w2.cell? ⟨w.heap.size, 0, none⟩ = some (.slice a l.length c) := (hb2.cell (p := ⟨w.heap.size, 0, none⟩) smx).trans kpx; have sl0 : w.heap.size < w2.heap.size := (by have hss := hb2.size; first | omega | (simp at hss; omega)); have cl1_0 : w2.cell? ⟨w.heap.size + 1, 0, none⟩ = some (.int .i64 m.kind) := (hb2.cell (p := ⟨w.heap.size + 1, 0, none⟩) smx).trans kpx; have cl1_1 : w2.cell? ⟨w.heap.size + 1, 1, none⟩ = some (.int .i64 m.validity) := (hb2.cell (p := ⟨w.heap.size + 1, 1, none⟩) smx).trans kpx; have cl1_2 : w2.cell? ⟨w.heap.size + 1, 2, none⟩ = some (.int .i64 m.uid) := (hb2.cell (p := ⟨w.heap.size + 1, 2, none⟩) smx).trans kpx; have cl1_3 : w2.cell? ⟨w.heap.size + 1, 3, none⟩ = some (.int .i64 m.flags) := (hb2.cell (p := ⟨w.heap.size + 1, 3, none⟩) smx).trans kpx; have cl1_4 : w2.cell? ⟨w.heap.size + 1, 4, none⟩ = some (.string m.name) := (hb2.cell (p := ⟨w.heap.size + 1, 4, none⟩) smx).trans kpx; have cl1_5 : w2.cell? ⟨w.heap.size + 1, 5, none⟩ = some (.string m.text) := (hb2.cell (p := ⟨w.heap.size + 1, 5, none⟩) smx).trans kpx; have sl1 : w.heap.size + 1 < w2.heap.size := (by have hss := hb2.size; first | omega | (simp at hss; omega))) | (at_builtin; refine wpList_app (B := w.heap.size) (v := .slice _ 0 0) rfl _ _ _ rfl 131 i0 _ _ Try.underlying61 hi0 hz0 hz1 hz2 rfl (by decide) rfl (Own.none0 _) (some ⟨w2.heap.size, 0, none⟩) 1 1 [.int .i64 (2), .int .i64 (seqOf m.uid l), .int .i64 (0), .int .i64 (0), .string ⟨#[]⟩, .string ⟨#[]⟩] rfl (Rd.lit _ _ _ 1 6 _ (by first | rfl | simp) rfl (by omega)) (by simp [Value.oneCell']) (by omega) (by omega) smx ?_; intro g2 q2 w3 hown hg; simp only [Nat.zero_add, List.nil_append] at hown ⊢; have hgn := grown_below (show World.grownBy _ w3 none from hg); have HO := Lib.hid hown; clear hown hg))
  go_ret
  exact ⟨_, _, rfl, HO.out, bxt⟩

theorem specTelling_any (l : List DSeen) (a : Option Addr) (c : Nat) (m : DCommit) (w : World) (R : Rd w a c 2 l.length (l.flatMap DSeen.cells)) (hl : l.length ≤ 1048576) (g1 : m.name.size ≤ 9223372036854775807) (g2 : m.text.size ≤ 9223372036854775807) (rr : List DReply) (Hrr : Hid (telling l m = rr)) :
    Calls Try.prog 56 #[.agg #[.slice a l.length c], .agg #[.int .i64 m.kind, .int .i64 m.validity, .int .i64 m.uid, .int .i64 m.flags, .string m.name, .string m.text]] w (TellPost 131 rr w) := by
  obtain rfl := Hrr.out
  cases hok : (followed l m).ok with
  | false =>
    have e : telling l m = [] := by simp [telling, hok]
    rw [e]; exact specTell_no l a c m w R hl g1 g2 hok
  | true =>
    by_cases h4 : m.kind = 4
    · have e : telling l m = [⟨1, (l.length : Int) + 1, 0, 0, ⟨#[]⟩, ⟨#[]⟩⟩, ⟨3, (l.length : Int) + 1, m.uid, m.flags, ⟨#[]⟩, ⟨#[]⟩⟩] := by simp [telling, hok, h4]
      rw [e]; exact specTell_k4 l a c m w R hl g1 g2 hok h4
    by_cases h5 : m.kind = 5
    · have e : telling l m = [⟨3, seqOf m.uid l, m.uid, m.flags, ⟨#[]⟩, ⟨#[]⟩⟩] := by simp [telling, hok, h5]
      rw [e]; exact specTell_k5 l a c m w R hl g1 g2 hok h4 h5
    · have e : telling l m = [⟨2, seqOf m.uid l, 0, 0, ⟨#[]⟩, ⟨#[]⟩⟩] := by simp [telling, hok, h4, h5]
      rw [e]; exact specTell_k6 l a c m w R hl g1 g2 hok h4 h5

end Go.Proofs.Ytpameapajhbdnaa
