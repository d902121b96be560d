/-
  A client's state out of a text of replies: FoldText of the program and of the reference.
-/
import Derived.Test.YtidfhkdonhjgaaaGreatDoorWRin
import Derived.Test.YtidfhkdonhjgaaaGreatDoorWFoldAll
namespace Go.Proofs.YtidfhkdonhjgaaaGreatDoor
open Go.RowKit
set_option linter.unusedVariables false
set_option linter.unusedSimpArgs false

theorem Rd.noneT {s : Nat} (w : World) (a : Option Addr) : Rd w a 0 s 0 [] := ⟨by simp, Nat.le_refl _, by omega, fun h => absurd h (by omega)⟩
def client0 : DClient := ⟨false, ⟨#[]⟩, 0, 0, [], false⟩
def FtxPost (P : List UInt8 → DReply → Bool → Prop) (s : ByteArray) (w : World) (e : Ending) (w' : World) : Prop :=
  ∃ (rs : List DReply) (a : Int) (ac : Bool) (nm : ByteArray) (va sz : Int) (kn : List DSeen) (b0 bd : Bool) (g : Option Addr) (q : Nat), e = .returned (.agg #[.bool ac, .string nm, .int .i64 va, .int .i64 sz, .slice g kn.length q, .bool bd]) ∧ Reps P (lnB s) rs a ∧ foldAll client0 rs = ⟨ac, nm, va, sz, kn, b0⟩ ∧ bd = (b0 || decide (0 ≤ a)) ∧ Own w' w.heap.size 89 2 (.slice g kn.length q) kn.length (kn.flatMap DSeen.cells) ∧ Ext w w' ∧ kn.length ≤ 1048576

set_option maxRecDepth 100000 in
set_option maxHeartbeats 8000000 in
theorem specFoldText_any (s : ByteArray) (w : World) (hs : s.size ≤ 1048576) :
    Calls Tryz.prog 21 #[.string s] w (FtxPost Read0 s w) := by
  skip
  go_enter Tryz.func21, Tryz.ntmps21
  go_wp2_with fail
  refine (specRepliesIn_any s _ hs).mono ?_
  rintro e w1 ⟨rs, a, g1, q1, rfl, hr1, ho1, hb1, -⟩
  have hrl : rs.length ≤ 1048576 := by (have h1 := hr1.1.1; have h2 := lnB_len s; omega)
  have H1 := Lib.hid (Rd.of_Own ho1)
  have HR1 := Lib.hid hr1
  clear ho1 hr1
  obtain ⟨hc1, hf1⟩ := bcell hb1
  have hs1_0 : w.heap.size < w1.heap.size := by (have hss := hb1.size; first | omega | (simp at hss <;> omega))
  obtain ⟨R, hR⟩ : ∃ R, foldAll client0 rs = R := ⟨_, rfl⟩
  have hkl : R.known.length ≤ 1048576 := by
    have h := foldTo_len client0 rs rs.length
    rw [Nat.min_self] at h
    rw [← hR]
    exact Nat.le_trans h (by simp [client0]; omega)
  obtain ⟨ac, nm, va, sz, kn, b0⟩ := R
  have HRR := Lib.hid hR
  clear hR
  simp only at hkl
  go_wp2_with fail
  refine (specFoldAll_any false ⟨#[]⟩ 0 0 [] none 0 false rs _ _ _ (Rd.noneT _ _) (H1.out.ext bxt) (by simp) hrl ac (Lib.hid (congrArg DClient.active HRR.out)) nm (Lib.hid (congrArg DClient.name HRR.out)) va (Lib.hid (congrArg DClient.validity HRR.out)) sz (Lib.hid (congrArg DClient.size HRR.out)) kn (Lib.hid (congrArg DClient.known HRR.out)) b0 (Lib.hid (congrArg DClient.bad HRR.out))).mono ?_
  rintro e w2 ⟨g2, q2, rfl, ho2, hb2⟩
  have HO2 := Lib.hid ho2
  clear ho2
  obtain ⟨hc2, hf2⟩ := bcell hb2
  have hs2_0 : w.heap.size < w2.heap.size := by (have hss := hb2.size; first | omega | (simp at hss <;> omega))
  cases b0 with
  | true =>
    go_wp2_with fail
    refine bodyPost_ret (v := .agg #[.bool ac, .string nm, .int .i64 va, .int .i64 sz, .slice g2 kn.length q2, .bool true]) (by simp [results, Tryz.results21, go_sem, *]) rfl ?_
    refine ⟨rs, a, ac, nm, va, sz, kn, true, true, g2, q2, rfl, HR1.out, HRR.out, rfl, ?own, bxt, hkl⟩
    case own => exact (by refine Own.le (B := w.heap.size + 1) ?_ (by omega); repeat' (first | with_reducible exact Own.le HO2.out (by omega) | with_reducible refine Own.set_below ?_ (show w.heap.size < w.heap.size + 1 from Nat.lt_succ_self w.heap.size) _ | with_reducible refine Own.alloc1 ?_ _ | with_reducible refine Own.drew1 ?_ | with_reducible refine Own.drewN1 ?_))
  | false =>
    obtain ⟨d, hd⟩ : ∃ d, decide (0 ≤ a) = d := ⟨_, rfl⟩
    have HD := Lib.hid hd
    go_wp2_with fail
    refine bodyPost_ret (v := .agg #[.bool ac, .string nm, .int .i64 va, .int .i64 sz, .slice g2 kn.length q2, .bool d]) (by simp [results, Tryz.results21, go_sem, *]) rfl ?_
    refine ⟨rs, a, ac, nm, va, sz, kn, false, d, g2, q2, rfl, HR1.out, HRR.out, by simp [HD.out], ?own, bxt, hkl⟩
    case own => exact (by refine Own.le (B := w.heap.size + 1) ?_ (by omega); repeat' (first | with_reducible exact Own.le HO2.out (by omega) | with_reducible refine Own.set_below ?_ (show w.heap.size < w.heap.size + 1 from Nat.lt_succ_self w.heap.size) _ | with_reducible refine Own.alloc1 ?_ _ | with_reducible refine Own.drew1 ?_ | with_reducible refine Own.drewN1 ?_))

set_option maxRecDepth 100000 in
set_option maxHeartbeats 8000000 in
theorem implFoldText_any (s : ByteArray) (w : World) (hg : Gl w) (hs : s.size ≤ 1048576) :
    Calls Tryz.prog 22 #[.string s] w (FtxPost ReadU s w) := by
  have HG := Lib.hid hg
  clear hg
  go_enter Tryz.func22, Tryz.ntmps22
  go_wp2_with fail
  refine (implRepliesIn_any s _ (HG.out.ext bxt) hs).mono ?_
  rintro e w1 ⟨rs, a, g1, q1, rfl, hr1, ho1, hb1, -⟩
  have hrl : rs.length ≤ 1048576 := by (have h1 := hr1.1.1; have h2 := lnB_len s; omega)
  have H1 := Lib.hid (Rd.of_Own ho1)
  have HR1 := Lib.hid hr1
  clear ho1 hr1
  obtain ⟨hc1, hf1⟩ := bcell hb1
  have hs1_0 : w.heap.size < w1.heap.size := by (have hss := hb1.size; first | omega | (simp at hss <;> omega))
  obtain ⟨R, hR⟩ : ∃ R, foldAll client0 rs = R := ⟨_, rfl⟩
  have hkl : R.known.length ≤ 1048576 := by
    have h := foldTo_len client0 rs rs.length
    rw [Nat.min_self] at h
    rw [← hR]
    exact Nat.le_trans h (by simp [client0]; omega)
  obtain ⟨ac, nm, va, sz, kn, b0⟩ := R
  have HRR := Lib.hid hR
  clear hR
  simp only at hkl
  go_wp2_with fail
  refine (implFoldAll_any false ⟨#[]⟩ 0 0 [] none 0 false rs _ _ _ (Rd.noneT _ _) (H1.out.ext bxt) (by simp) hrl ac (Lib.hid (congrArg DClient.active HRR.out)) nm (Lib.hid (congrArg DClient.name HRR.out)) va (Lib.hid (congrArg DClient.validity HRR.out)) sz (Lib.hid (congrArg DClient.size HRR.out)) kn (Lib.hid (congrArg DClient.known HRR.out)) b0 (Lib.hid (congrArg DClient.bad HRR.out))).mono ?_
  rintro e w2 ⟨g2, q2, rfl, ho2, hb2⟩
  have HO2 := Lib.hid ho2
  clear ho2
  obtain ⟨hc2, hf2⟩ := bcell hb2
  have hs2_0 : w.heap.size < w2.heap.size := by (have hss := hb2.size; first | omega | (simp at hss <;> omega))
  cases b0 with
  | true =>
    go_wp2_with fail
    refine bodyPost_ret (v := .agg #[.bool ac, .string nm, .int .i64 va, .int .i64 sz, .slice g2 kn.length q2, .bool true]) (by simp [results, Tryz.results22, go_sem, *]) rfl ?_
    refine ⟨rs, a, ac, nm, va, sz, kn, true, true, g2, q2, rfl, HR1.out, HRR.out, rfl, ?own, bxt, hkl⟩
    case own => exact (by refine Own.le (B := w.heap.size + 1) ?_ (by omega); repeat' (first | with_reducible exact Own.le HO2.out (by omega) | with_reducible refine Own.set_below ?_ (show w.heap.size < w.heap.size + 1 from Nat.lt_succ_self w.heap.size) _ | with_reducible refine Own.alloc1 ?_ _ | with_reducible refine Own.drew1 ?_ | with_reducible refine Own.drewN1 ?_))
  | false =>
    obtain ⟨d, hd⟩ : ∃ d, decide (0 ≤ a) = d := ⟨_, rfl⟩
    have HD := Lib.hid hd
    go_wp2_with fail
    refine bodyPost_ret (v := .agg #[.bool ac, .string nm, .int .i64 va, .int .i64 sz, .slice g2 kn.length q2, .bool d]) (by simp [results, Tryz.results22, go_sem, *]) rfl ?_
    refine ⟨rs, a, ac, nm, va, sz, kn, false, d, g2, q2, rfl, HR1.out, HRR.out, by simp [HD.out], ?own, bxt, hkl⟩
    case own => exact (by refine Own.le (B := w.heap.size + 1) ?_ (by omega); repeat' (first | with_reducible exact Own.le HO2.out (by omega) | with_reducible refine Own.set_below ?_ (show w.heap.size < w.heap.size + 1 from Nat.lt_succ_self w.heap.size) _ | with_reducible refine Own.alloc1 ?_ _ | with_reducible refine Own.drew1 ?_ | with_reducible refine Own.drewN1 ?_))

end Go.Proofs.YtidfhkdonhjgaaaGreatDoor
