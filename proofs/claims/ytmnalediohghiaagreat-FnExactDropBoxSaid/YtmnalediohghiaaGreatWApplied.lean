/-
  Applied: the program's function and the reference's.
-/
import Derived.Test.YtmnalediohghiaaGreatXApp
import Derived.Test.YtmnalediohghiaaGreatWAppS4
import Derived.Test.YtmnalediohghiaaGreatWAppS5
import Derived.Test.YtmnalediohghiaaGreatWAppS6
import Derived.Test.YtmnalediohghiaaGreatWPerf4
namespace Go.Proofs.YtmnalediohghiaaGreat
open Go.RowKit
set_option linter.unusedVariables false
set_option linter.unusedSimpArgs false

theorem boxesP_len {l : List PBox} (h : BoxesP (l.map PBox.box)) : l.length ≤ 4 ∧ ∀ y ∈ l, y.msgs.length ≤ 6 := by
  refine ⟨by simpa using h.2, fun y hy => ?_⟩
  obtain ⟨k, hk, rfl⟩ := List.mem_iff_getElem.1 hy
  obtain ⟨h0, h6, -⟩ := h.1 k (by simpa using hk)
  simpa [PBox.box] using h6.2.2.2.1
theorem sExtB {W w w' : World} (h : Below W.heap.size W w ∧ (∀ b o, b < W.heap.size → w.cell? ⟨b, o, none⟩ = W.cell? ⟨b, o, none⟩)) (h2 : Below W.heap.size w w') : Below W.heap.size W w' ∧ (∀ b o, b < W.heap.size → w'.cell? ⟨b, o, none⟩ = W.cell? ⟨b, o, none⟩) :=
  ⟨h.1.trans h2, fun b o hb => (h2.cell (p := ⟨b, o, none⟩) hb).trans (h.2 b o hb)⟩

set_option maxRecDepth 100000 in
set_option maxHeartbeats 8000000 in
theorem specApplied0_any (l : List PBox) (a : Option Addr) (c : Nat) (m : DCommit) (w : World) (R : Rd w a c 4 l.length (l.flatMap PBox.cells)) (M : RdM w l) (hl : l.length ≤ 1048576) (hlm : ∀ y ∈ l, y.msgs.length ≤ 1048576) (gn : ∀ y ∈ l, y.name.size ≤ 9223372036854775807) (gt : ∀ y ∈ l, ∀ m ∈ y.msgs, m.text.size ≤ 9223372036854775807) (g1 : m.name.size ≤ 9223372036854775807) (g2 : m.text.size ≤ 9223372036854775807) (hap : ¬ AppliesP (l.map PBox.box) m) :
    Calls Tryz.prog 97 #[.slice a l.length c, .agg #[.int .i64 m.kind, .int .i64 m.validity, .int .i64 m.uid, .int .i64 m.flags, .string m.name, .string m.text]] w (AppPost 73 78 w (l.map PBox.box) false) := by
  obtain ⟨i0, hi0, hz0, hz1, hz2⟩ := info_parts info_Box
  obtain ⟨j0, hj0, hy0, hy1, hy2⟩ := info_parts info_Msg
  have HR := Lib.hid R
  have HM := Lib.hid M
  have HLM := Lib.hid hlm
  have HT : Hid (Tells false (AppliesP (l.map PBox.box) m)) := Lib.hid ⟨fun h => (by cases h), fun h => absurd h hap⟩
  have HGN := Lib.hid gn
  have HGT := Lib.hid gt
  obtain ⟨z, hz⟩ : ∃ z, boxWith m.validity (l.map PBox.box) = z := ⟨_, rfl⟩
  have HZ := Lib.hid hz
  clear R M hlm hap gn gt hz
  go_enter Tryz.func97, Tryz.ntmps97
  go_wp2_with (first | (go_at_call 80; refine (specCopies_any l a c _ (HR.out.ext bxt) (RdM.ext HM.out (show Below w.heap.size w _ from bxt)) (by omega) (fun y hy => by have := HLM.out y hy; omega)).mono ?_; rintro e w1 ⟨gb, q, zs, rfl, hown, hzb, hb1⟩; have cl0_0 : w1.cell? ⟨w.heap.size, 0, none⟩ = some (.int .i64 m.kind) := (hb1.cell (p := ⟨w.heap.size, 0, none⟩) smx).trans kpx; have cl0_1 : w1.cell? ⟨w.heap.size, 1, none⟩ = some (.int .i64 m.validity) := (hb1.cell (p := ⟨w.heap.size, 1, none⟩) smx).trans kpx; have cl0_2 : w1.cell? ⟨w.heap.size, 2, none⟩ = some (.int .i64 m.uid) := (hb1.cell (p := ⟨w.heap.size, 2, none⟩) smx).trans kpx; have cl0_3 : w1.cell? ⟨w.heap.size, 3, none⟩ = some (.int .i64 m.flags) := (hb1.cell (p := ⟨w.heap.size, 3, none⟩) smx).trans kpx; have cl0_4 : w1.cell? ⟨w.heap.size, 4, none⟩ = some (.string m.name) := (hb1.cell (p := ⟨w.heap.size, 4, none⟩) smx).trans kpx; have cl0_5 : w1.cell? ⟨w.heap.size, 5, none⟩ = some (.string m.text) := (hb1.cell (p := ⟨w.heap.size, 5, none⟩) smx).trans kpx; have sl0 : w.heap.size < w1.heap.size := (by have hss := hb1.size; first | omega | (simp at hss; omega)); have HO1 : Hid (OwnBs w1 (w.heap.size + 1) 73 78 (some ⟨gb, 0, none⟩) q zs) := OwnBs.le hown (by first | (simp; done) | (simp; omega)); have HO : Hid (OwnBs w1 w.heap.size 73 78 (some ⟨gb, 0, none⟩) q zs) := OwnBs.le HO1.out (by omega); have hs1 : w.heap.size + 1 ≤ w1.heap.size := (by have hss := hb1.size; first | omega | (simp at hss; omega)); have HZB := Lib.hid hzb; have HZL := Lib.hid (box_len hzb); have hzs : zs.length ≤ 1048576 := (by rw [HZL.out]; exact hl); clear hown hzb) | (go_at_call 120; refine (specApplies_any l a c m _ (HR.out.ext bxt) (RdM.ext HM.out (show Below w.heap.size w _ from bxt)) HGN.out HGT.out g1 g2 false HT).mono ?_; rintro e w2 ⟨rfl, hb2⟩; have cm0_0 : w2.cell? ⟨w.heap.size, 0, none⟩ = some (.int .i64 m.kind) := (hb2.cell (p := ⟨w.heap.size, 0, none⟩) smx).trans kpx; have cm0_1 : w2.cell? ⟨w.heap.size, 1, none⟩ = some (.int .i64 m.validity) := (hb2.cell (p := ⟨w.heap.size, 1, none⟩) smx).trans kpx; have cm0_2 : w2.cell? ⟨w.heap.size, 2, none⟩ = some (.int .i64 m.uid) := (hb2.cell (p := ⟨w.heap.size, 2, none⟩) smx).trans kpx; have cm0_3 : w2.cell? ⟨w.heap.size, 3, none⟩ = some (.int .i64 m.flags) := (hb2.cell (p := ⟨w.heap.size, 3, none⟩) smx).trans kpx; have cm0_4 : w2.cell? ⟨w.heap.size, 4, none⟩ = some (.string m.name) := (hb2.cell (p := ⟨w.heap.size, 4, none⟩) smx).trans kpx; have cm0_5 : w2.cell? ⟨w.heap.size, 5, none⟩ = some (.string m.text) := (hb2.cell (p := ⟨w.heap.size, 5, none⟩) smx).trans kpx; have sm0 : w.heap.size < w2.heap.size := (by have hss := hb2.size; first | omega | (simp at hss; omega))))
  refine bodyPost_ret (v := .tuple #[.slice (some ⟨gb, 0, none⟩) (zs).length q, .bool false]) (by simp [results, Tryz.results97, go_sem, *]) rfl ⟨(some ⟨gb, 0, none⟩), q, zs, rfl, OwnBs.ext HO.out (show Below w1.heap.size w1 _ from bxt), HZB.out, bxt⟩

theorem specApplied_any (l : List PBox) (a : Option Addr) (c : Nat) (m : DCommit) (w : World) (R : Rd w a c 4 l.length (l.flatMap PBox.cells)) (M : RdM w l) (hl : l.length ≤ 1048576) (hlm : ∀ y ∈ l, y.msgs.length ≤ 1048576) (gn : ∀ y ∈ l, y.name.size ≤ 9223372036854775807) (gt : ∀ y ∈ l, ∀ m ∈ y.msgs, m.text.size ≤ 9223372036854775807) (g1 : m.name.size ≤ 9223372036854775807) (g2 : m.text.size ≤ 9223372036854775807) (r : Bool) (Hr : Hid (Tells r (AppliesP (l.map PBox.box) m))) :
    Calls Tryz.prog 97 #[.slice a l.length c, .agg #[.int .i64 m.kind, .int .i64 m.validity, .int .i64 m.uid, .int .i64 m.flags, .string m.name, .string m.text]] w (AppPost 73 78 w (if r then appD (l.map PBox.box) m else l.map PBox.box) r) := by
  cases r with
  | false => exact specApplied0_any l a c m w R M hl hlm gn gt g1 g2 (fun h => absurd (Hr.out.2 h) (by simp))
  | true =>
    have hap := Hr.out.1 rfl
    have hap2 := hap
    obtain ⟨hb, hc, hf⟩ := hap2
    obtain ⟨hl4, hlm6⟩ := boxesP_len hb
    rw [if_pos rfl]
    unfold appD
    by_cases h1 : m.kind = 1
    · rw [if_pos h1]
      exact specApplied1_any l a c m w R M hl4 hlm6 gn gt g1 g2 hap h1
    obtain ⟨i, hi, hz, h3, h4, h5⟩ := hf.2 h1
    have hi' : i < l.length := by simpa using hi
    have ha : atD (l.map PBox.box) m = i := by unfold atD; omega
    have ht : theD (l.map PBox.box) i = ⟨l[i].name, l[i].validity, l[i].next, l[i].msgs⟩ := by rw [theD_of hi]; simp [PBox.box]
    have hnx : 1 ≤ l[i].next ∧ l[i].next ≤ 999999999 := by
      obtain ⟨h0, h6, -⟩ := hb.1 i hi
      simpa [PBox.box] using h6.2.2.1
    rw [if_neg h1, ha, ht]
    by_cases h2 : m.kind = 2
    · rw [if_pos h2]
      exact specApplied2_any l a c i m w R M hl4 hlm6 gn gt g1 g2 hap h2 hi' hz
    rw [if_neg h2]
    unfold newD
    by_cases h3k : m.kind = 3
    · rw [if_pos h3k, if_pos h3k]
      exact specApplied3_any l a c i m w R M hl4 hlm6 gn gt g1 g2 hap h3k hi' hz
    rw [if_neg h3k, if_neg h3k]
    by_cases h4k : m.kind = 4
    · rw [if_pos h4k]
      have h7 : m.uid = l[i].next := by simpa [PBox.box] using (h4 h4k).1
      have := specApplied4_any l a c i m w R M hl4 hlm6 gn gt g1 g2 hap h4k hi' hz (by omega)
      rwa [h7] at this ⊢
    rw [if_neg h4k]
    by_cases h5k : m.kind = 5
    · rw [if_pos h5k]
      have h7 : 0 ≤ placeOf m.uid l[i].msgs := by simpa [PBox.box] using h5 (Or.inl h5k)
      obtain ⟨h8, h9⟩ := place_of h7
      have := specApplied5_any l a c i m w R M hl4 hlm6 gn gt g1 g2 hap h5k hi' hz (pl m.uid l[i].msgs) h8 h9
      rwa [theM_of h8]
    rw [if_neg h5k]
    have h6k : m.kind = 6 := by have := kind_of hc; omega
    have h7 : 0 ≤ placeOf m.uid l[i].msgs := by simpa [PBox.box] using h5 (Or.inr h6k)
    obtain ⟨h8, h9⟩ := place_of h7
    exact specApplied6_any l a c i m w R M hl4 hlm6 gn gt g1 g2 hap h6k hi' hz (pl m.uid l[i].msgs) h8 h9
end Go.Proofs.YtmnalediohghiaaGreat
