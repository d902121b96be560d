/-
  Whether a commit applies: the program's function and the reference's.
-/
import Derived.Test.YtadjlfcdjkikgaaDoorWBoxesOk
import Derived.Test.YtadjlfcdjkikgaaDoorWCommitOk
namespace Go.Proofs.YtadjlfcdjkikgaaDoor
open Go.RowKit
set_option linter.unusedVariables false
set_option linter.unusedSimpArgs false

def FitsP (l : List DBox) (m : DCommit) : Prop :=
  (m.kind = 1 → l.length < 4 ∧ boxWith m.validity l < 0 ∧ boxNamed m.name l < 0) ∧
  (m.kind ≠ 1 → ∃ i : Nat, ∃ h : i < l.length, boxWith m.validity l = i ∧ (m.kind = 3 → boxNamed m.name l < 0) ∧ (m.kind = 4 → m.uid = l[i].next ∧ l[i].msgs.length < 6) ∧ (m.kind = 5 ∨ m.kind = 6 → 0 ≤ placeOf m.uid l[i].msgs))
def AppliesP (l : List DBox) (m : DCommit) : Prop := BoxesP l ∧ CommitP m ∧ FitsP l m
theorem fits_1 {l : List DBox} {m : DCommit} (hk : m.kind = 1) : FitsP l m ↔ (l.length < 4 ∧ boxWith m.validity l < 0 ∧ boxNamed m.name l < 0) := by simp [FitsP, hk]
theorem fits_neg {l : List DBox} {m : DCommit} (hk : m.kind ≠ 1) (hz : boxWith m.validity l < 0) : ¬ FitsP l m := by
  rintro ⟨_, h⟩
  obtain ⟨i, _, h1, _⟩ := h hk
  omega
theorem fits_at {l : List PBox} {m : DCommit} (hk : m.kind ≠ 1) (i : Nat) (h : i < l.length) (hz : boxWith m.validity (l.map PBox.box) = i) :
    FitsP (l.map PBox.box) m ↔ ((m.kind = 3 → boxNamed m.name (l.map PBox.box) < 0) ∧ (m.kind = 4 → m.uid = l[i].next ∧ l[i].msgs.length < 6) ∧ (m.kind = 5 ∨ m.kind = 6 → 0 ≤ placeOf m.uid l[i].msgs)) := by
  constructor
  · rintro ⟨_, h1⟩
    obtain ⟨j, hj, h2, h3, h4, h5⟩ := h1 hk
    obtain rfl : j = i := by omega
    simp only [List.getElem_map, PBox.box] at h4 h5
    exact ⟨h3, h4, h5⟩
  · rintro ⟨h3, h4, h5⟩
    refine ⟨fun h => absurd h hk, fun _ => ⟨i, by simpa using h, hz, h3, ?_, ?_⟩⟩
    · simpa only [List.getElem_map, PBox.box] using h4
    · simpa only [List.getElem_map, PBox.box] using h5
theorem ret_of {r b : Bool} {p : Prop} (h : Tells r p) (hb : b = true ↔ p) : Ending.returned (.bool b) = .returned (.bool r) := by
  have : b = r := by
    cases b <;> cases r <;> first | rfl | (exact absurd (h.2 (hb.1 rfl)) (by simp)) | (exact absurd (hb.2 (h.1 rfl)) (by simp))
  rw [this]
theorem boxWith_range (v : Int) (l : List PBox) : boxWith v (l.map PBox.box) < 0 ∨ ∃ i : Nat, i < l.length ∧ boxWith v (l.map PBox.box) = i := by
  have h := firstI_range (fun b : DBox => decide (b.validity = v)) (l.map PBox.box)
  simp only [List.length_map] at h
  unfold boxWith
  by_cases h0 : firstI (fun b : DBox => decide (b.validity = v)) (l.map PBox.box) < 0
  · exact Or.inl h0
  · exact Or.inr ⟨(firstI (fun b : DBox => decide (b.validity = v)) (l.map PBox.box)).toNat, by omega, by omega⟩

set_option maxRecDepth 100000 in
set_option maxHeartbeats 8000000 in
theorem specApplies_any (l : List PBox) (a : Option Addr) (c : Nat) (m : DCommit) (w : World) (R : Rd w a c 4 l.length (l.flatMap PBox.cells)) (M : RdM w l) (gn : ∀ y ∈ l, y.name.size ≤ 9223372036854775807) (gt : ∀ y ∈ l, ∀ m ∈ y.msgs, m.text.size ≤ 9223372036854775807) (g1 : m.name.size ≤ 9223372036854775807) (g2 : m.text.size ≤ 9223372036854775807) (r : Bool) (Hr : Hid (Tells r (AppliesP (l.map PBox.box) m))) :
    Calls Tryd.prog 97 #[.slice a l.length c, .agg #[.int .i64 m.kind, .int .i64 m.validity, .int .i64 m.uid, .int .i64 m.flags, .string m.name, .string m.text]] w fun e w' => e = .returned (.bool r) ∧ Ext w w' := by
  have hnc := R.nc
  have hcm := R.cm
  have HR := Lib.hid R
  have HM := Lib.hid M
  clear R M
  have HGN := Lib.hid gn
  have HGT := Lib.hid gt
  clear gn gt
  obtain ⟨d1, hd1⟩ := boolOf (BoxesP (l.map PBox.box))
  have HD1 := Lib.hid hd1
  obtain ⟨d2, hd2⟩ := boolOf (CommitP m)
  have HD2 := Lib.hid hd2
  clear hd1 hd2
  cases d1 with
  | false =>
    go_enter Tryd.func97, Tryd.ntmps97
    go_wp2_with (first | (go_at_call 117; refine (specBoxesOk_any l _ _ _ (HR.out.ext bxt) (HM.out.ext bxt) HGN.out HGT.out false HD1).mono ?_; rintro e w1 ⟨rfl, hb1⟩; have cl0_0 : w1.cell? ⟨w.heap.size, 0, none⟩ = some (.int .i64 m.kind) := (hb1.cell (p := ⟨w.heap.size, 0, none⟩) smx).trans kpx; have cl0_1 : w1.cell? ⟨w.heap.size, 1, none⟩ = some (.int .i64 m.validity) := (hb1.cell (p := ⟨w.heap.size, 1, none⟩) smx).trans kpx; have cl0_2 : w1.cell? ⟨w.heap.size, 2, none⟩ = some (.int .i64 m.uid) := (hb1.cell (p := ⟨w.heap.size, 2, none⟩) smx).trans kpx; have cl0_3 : w1.cell? ⟨w.heap.size, 3, none⟩ = some (.int .i64 m.flags) := (hb1.cell (p := ⟨w.heap.size, 3, none⟩) smx).trans kpx; have cl0_4 : w1.cell? ⟨w.heap.size, 4, none⟩ = some (.string m.name) := (hb1.cell (p := ⟨w.heap.size, 4, none⟩) smx).trans kpx; have cl0_5 : w1.cell? ⟨w.heap.size, 5, none⟩ = some (.string m.text) := (hb1.cell (p := ⟨w.heap.size, 5, none⟩) smx).trans kpx; have sl0 : w.heap.size < w1.heap.size := (by have hss := hb1.size; first | omega | (simp at hss; omega))) | (go_at_call 105; refine (specCommitOk_any m _ g1 g2 d2 HD2).mono ?_; rintro e w2 ⟨rfl, hb2⟩; have cl0_0 : w2.cell? ⟨w.heap.size, 0, none⟩ = some (.int .i64 m.kind) := (hb2.cell (p := ⟨w.heap.size, 0, none⟩) smx).trans kpx; have cl0_1 : w2.cell? ⟨w.heap.size, 1, none⟩ = some (.int .i64 m.validity) := (hb2.cell (p := ⟨w.heap.size, 1, none⟩) smx).trans kpx; have cl0_2 : w2.cell? ⟨w.heap.size, 2, none⟩ = some (.int .i64 m.uid) := (hb2.cell (p := ⟨w.heap.size, 2, none⟩) smx).trans kpx; have cl0_3 : w2.cell? ⟨w.heap.size, 3, none⟩ = some (.int .i64 m.flags) := (hb2.cell (p := ⟨w.heap.size, 3, none⟩) smx).trans kpx; have cl0_4 : w2.cell? ⟨w.heap.size, 4, none⟩ = some (.string m.name) := (hb2.cell (p := ⟨w.heap.size, 4, none⟩) smx).trans kpx; have cl0_5 : w2.cell? ⟨w.heap.size, 5, none⟩ = some (.string m.text) := (hb2.cell (p := ⟨w.heap.size, 5, none⟩) smx).trans kpx; have sl0 : w.heap.size < w2.heap.size := (by have hss := hb2.size; first | omega | (simp at hss; omega))))
    go_ret
    exact ⟨ret_no Hr.out (fun h => no_of HD1.out h.1), bxt⟩
  | true =>
    cases d2 with
    | false =>
      go_enter Tryd.func97, Tryd.ntmps97
      go_wp2_with (first | (go_at_call 117; refine (specBoxesOk_any l _ _ _ (HR.out.ext bxt) (HM.out.ext bxt) HGN.out HGT.out true HD1).mono ?_; rintro e w1 ⟨rfl, hb1⟩; have cl0_0 : w1.cell? ⟨w.heap.size, 0, none⟩ = some (.int .i64 m.kind) := (hb1.cell (p := ⟨w.heap.size, 0, none⟩) smx).trans kpx; have cl0_1 : w1.cell? ⟨w.heap.size, 1, none⟩ = some (.int .i64 m.validity) := (hb1.cell (p := ⟨w.heap.size, 1, none⟩) smx).trans kpx; have cl0_2 : w1.cell? ⟨w.heap.size, 2, none⟩ = some (.int .i64 m.uid) := (hb1.cell (p := ⟨w.heap.size, 2, none⟩) smx).trans kpx; have cl0_3 : w1.cell? ⟨w.heap.size, 3, none⟩ = some (.int .i64 m.flags) := (hb1.cell (p := ⟨w.heap.size, 3, none⟩) smx).trans kpx; have cl0_4 : w1.cell? ⟨w.heap.size, 4, none⟩ = some (.string m.name) := (hb1.cell (p := ⟨w.heap.size, 4, none⟩) smx).trans kpx; have cl0_5 : w1.cell? ⟨w.heap.size, 5, none⟩ = some (.string m.text) := (hb1.cell (p := ⟨w.heap.size, 5, none⟩) smx).trans kpx; have sl0 : w.heap.size < w1.heap.size := (by have hss := hb1.size; first | omega | (simp at hss; omega))) | (go_at_call 105; refine (specCommitOk_any m _ g1 g2 false HD2).mono ?_; rintro e w2 ⟨rfl, hb2⟩; have cl0_0 : w2.cell? ⟨w.heap.size, 0, none⟩ = some (.int .i64 m.kind) := (hb2.cell (p := ⟨w.heap.size, 0, none⟩) smx).trans kpx; have cl0_1 : w2.cell? ⟨w.heap.size, 1, none⟩ = some (.int .i64 m.validity) := (hb2.cell (p := ⟨w.heap.size, 1, none⟩) smx).trans kpx; have cl0_2 : w2.cell? ⟨w.heap.size, 2, none⟩ = some (.int .i64 m.uid) := (hb2.cell (p := ⟨w.heap.size, 2, none⟩) smx).trans kpx; have cl0_3 : w2.cell? ⟨w.heap.size, 3, none⟩ = some (.int .i64 m.flags) := (hb2.cell (p := ⟨w.heap.size, 3, none⟩) smx).trans kpx; have cl0_4 : w2.cell? ⟨w.heap.size, 4, none⟩ = some (.string m.name) := (hb2.cell (p := ⟨w.heap.size, 4, none⟩) smx).trans kpx; have cl0_5 : w2.cell? ⟨w.heap.size, 5, none⟩ = some (.string m.text) := (hb2.cell (p := ⟨w.heap.size, 5, none⟩) smx).trans kpx; have sl0 : w.heap.size < w2.heap.size := (by have hss := hb2.size; first | omega | (simp at hss; omega))))
      go_ret
      exact ⟨ret_no Hr.out (fun h => no_of HD2.out h.2.1), bxt⟩
    | true =>
      have HR2 : Hid (Tells r (FitsP (l.map PBox.box) m)) := ⟨fun h => (Hr.out.1 h).2.2, fun h => Hr.out.2 ⟨yes_of HD1.out, yes_of HD2.out, h⟩⟩
      clear Hr
      have Hr := HR2
      clear HR2
      obtain ⟨y, hy⟩ : ∃ y, boxNamed m.name (l.map PBox.box) = y := ⟨_, rfl⟩
      have HY := Lib.hid hy
      clear hy
      obtain ⟨dy, hdy⟩ : ∃ d, decide (0 ≤ y) = d := ⟨_, rfl⟩
      have y2 : decide (y < 0) = !dy := by (rw [← hdy, ← decide_not]; exact decide_eq_decide.2 (by omega))
      have HDY : Hid ((!dy) = true ↔ boxNamed m.name (l.map PBox.box) < 0) := by (rw [HY.out, ← y2]; simp [Hid])
      by_cases hk1 : m.kind = 1
      · have k1 : (m.kind == 1) = true := beq_iff_eq.2 hk1
        have HFI : Hid (FitsP (l.map PBox.box) m ↔ _) := fits_1 hk1
        clear hk1
        obtain ⟨z, hz⟩ : ∃ z, boxWith m.validity (l.map PBox.box) = z := ⟨_, rfl⟩
        have HZ := Lib.hid hz
        clear hz
        by_cases h4 : l.length < 4
        rotate_left
        · have n4 : decide ((l.length : Int) < 4) = false := decide_eq_false (by omega)
          have n4n : decide (l.length < 4) = false := decide_eq_false h4
          have H4 := Lib.hid h4
          clear h4
          go_enter Tryd.func97, Tryd.ntmps97
          go_wp2_with (first | (go_at_call 117; refine (specBoxesOk_any l _ _ _ (HR.out.ext bxt) (HM.out.ext bxt) HGN.out HGT.out true HD1).mono ?_; rintro e w1 ⟨rfl, hb1⟩; have cl0_0 : w1.cell? ⟨w.heap.size, 0, none⟩ = some (.int .i64 m.kind) := (hb1.cell (p := ⟨w.heap.size, 0, none⟩) smx).trans kpx; have cl0_1 : w1.cell? ⟨w.heap.size, 1, none⟩ = some (.int .i64 m.validity) := (hb1.cell (p := ⟨w.heap.size, 1, none⟩) smx).trans kpx; have cl0_2 : w1.cell? ⟨w.heap.size, 2, none⟩ = some (.int .i64 m.uid) := (hb1.cell (p := ⟨w.heap.size, 2, none⟩) smx).trans kpx; have cl0_3 : w1.cell? ⟨w.heap.size, 3, none⟩ = some (.int .i64 m.flags) := (hb1.cell (p := ⟨w.heap.size, 3, none⟩) smx).trans kpx; have cl0_4 : w1.cell? ⟨w.heap.size, 4, none⟩ = some (.string m.name) := (hb1.cell (p := ⟨w.heap.size, 4, none⟩) smx).trans kpx; have cl0_5 : w1.cell? ⟨w.heap.size, 5, none⟩ = some (.string m.text) := (hb1.cell (p := ⟨w.heap.size, 5, none⟩) smx).trans kpx; have sl0 : w.heap.size < w1.heap.size := (by have hss := hb1.size; first | omega | (simp at hss; omega))) | (go_at_call 105; refine (specCommitOk_any m _ g1 g2 true HD2).mono ?_; rintro e w2 ⟨rfl, hb2⟩; have cl0_0 : w2.cell? ⟨w.heap.size, 0, none⟩ = some (.int .i64 m.kind) := (hb2.cell (p := ⟨w.heap.size, 0, none⟩) smx).trans kpx; have cl0_1 : w2.cell? ⟨w.heap.size, 1, none⟩ = some (.int .i64 m.validity) := (hb2.cell (p := ⟨w.heap.size, 1, none⟩) smx).trans kpx; have cl0_2 : w2.cell? ⟨w.heap.size, 2, none⟩ = some (.int .i64 m.uid) := (hb2.cell (p := ⟨w.heap.size, 2, none⟩) smx).trans kpx; have cl0_3 : w2.cell? ⟨w.heap.size, 3, none⟩ = some (.int .i64 m.flags) := (hb2.cell (p := ⟨w.heap.size, 3, none⟩) smx).trans kpx; have cl0_4 : w2.cell? ⟨w.heap.size, 4, none⟩ = some (.string m.name) := (hb2.cell (p := ⟨w.heap.size, 4, none⟩) smx).trans kpx; have cl0_5 : w2.cell? ⟨w.heap.size, 5, none⟩ = some (.string m.text) := (hb2.cell (p := ⟨w.heap.size, 5, none⟩) smx).trans kpx; have sl0 : w.heap.size < w2.heap.size := (by have hss := hb2.size; first | omega | (simp at hss; omega))) | (go_at_call 98; refine (specBoxWith_any l _ _ m.validity _ (HR.out.ext bxt) z HZ).mono ?_; rintro e wx ⟨rfl, hwx⟩; subst wx) | (go_at_call 118; refine (specBoxNamed_any l _ _ m.name _ (HR.out.ext bxt) y HY).mono ?_; rintro e wx ⟨rfl, hwx⟩; subst wx))
          go_ret
          exact ⟨ret_of Hr.out (iff_of_false (by simp) (fun h => H4.out (by simpa using (HFI.out.1 h).1))), bxt⟩
        have n4 : decide ((l.length : Int) < 4) = true := decide_eq_true (by omega)
        have n4n : decide (l.length < 4) = true := decide_eq_true h4
        have H4 := Lib.hid h4
        clear h4
        by_cases hz0 : z < 0
        rotate_left
        · have z0 : decide (z < 0) = false := decide_eq_false hz0
          have HZ0 := Lib.hid hz0
          clear hz0
          go_enter Tryd.func97, Tryd.ntmps97
          go_wp2_with (first | (go_at_call 117; refine (specBoxesOk_any l _ _ _ (HR.out.ext bxt) (HM.out.ext bxt) HGN.out HGT.out true HD1).mono ?_; rintro e w1 ⟨rfl, hb1⟩; have cl0_0 : w1.cell? ⟨w.heap.size, 0, none⟩ = some (.int .i64 m.kind) := (hb1.cell (p := ⟨w.heap.size, 0, none⟩) smx).trans kpx; have cl0_1 : w1.cell? ⟨w.heap.size, 1, none⟩ = some (.int .i64 m.validity) := (hb1.cell (p := ⟨w.heap.size, 1, none⟩) smx).trans kpx; have cl0_2 : w1.cell? ⟨w.heap.size, 2, none⟩ = some (.int .i64 m.uid) := (hb1.cell (p := ⟨w.heap.size, 2, none⟩) smx).trans kpx; have cl0_3 : w1.cell? ⟨w.heap.size, 3, none⟩ = some (.int .i64 m.flags) := (hb1.cell (p := ⟨w.heap.size, 3, none⟩) smx).trans kpx; have cl0_4 : w1.cell? ⟨w.heap.size, 4, none⟩ = some (.string m.name) := (hb1.cell (p := ⟨w.heap.size, 4, none⟩) smx).trans kpx; have cl0_5 : w1.cell? ⟨w.heap.size, 5, none⟩ = some (.string m.text) := (hb1.cell (p := ⟨w.heap.size, 5, none⟩) smx).trans kpx; have sl0 : w.heap.size < w1.heap.size := (by have hss := hb1.size; first | omega | (simp at hss; omega))) | (go_at_call 105; refine (specCommitOk_any m _ g1 g2 true HD2).mono ?_; rintro e w2 ⟨rfl, hb2⟩; have cl0_0 : w2.cell? ⟨w.heap.size, 0, none⟩ = some (.int .i64 m.kind) := (hb2.cell (p := ⟨w.heap.size, 0, none⟩) smx).trans kpx; have cl0_1 : w2.cell? ⟨w.heap.size, 1, none⟩ = some (.int .i64 m.validity) := (hb2.cell (p := ⟨w.heap.size, 1, none⟩) smx).trans kpx; have cl0_2 : w2.cell? ⟨w.heap.size, 2, none⟩ = some (.int .i64 m.uid) := (hb2.cell (p := ⟨w.heap.size, 2, none⟩) smx).trans kpx; have cl0_3 : w2.cell? ⟨w.heap.size, 3, none⟩ = some (.int .i64 m.flags) := (hb2.cell (p := ⟨w.heap.size, 3, none⟩) smx).trans kpx; have cl0_4 : w2.cell? ⟨w.heap.size, 4, none⟩ = some (.string m.name) := (hb2.cell (p := ⟨w.heap.size, 4, none⟩) smx).trans kpx; have cl0_5 : w2.cell? ⟨w.heap.size, 5, none⟩ = some (.string m.text) := (hb2.cell (p := ⟨w.heap.size, 5, none⟩) smx).trans kpx; have sl0 : w.heap.size < w2.heap.size := (by have hss := hb2.size; first | omega | (simp at hss; omega))) | (go_at_call 98; refine (specBoxWith_any l _ _ m.validity _ (HR.out.ext bxt) z HZ).mono ?_; rintro e wx ⟨rfl, hwx⟩; subst wx) | (go_at_call 118; refine (specBoxNamed_any l _ _ m.name _ (HR.out.ext bxt) y HY).mono ?_; rintro e wx ⟨rfl, hwx⟩; subst wx))
          go_ret
          exact ⟨ret_of Hr.out (iff_of_false (by simp) (fun h => by (have h5 := (HFI.out.1 h).2.1; have h6 := HZ0.out; have h7 := HZ.out; omega))), bxt⟩
        have z0 : decide (z < 0) = true := decide_eq_true hz0
        have HZ0 := Lib.hid hz0
        clear hz0
        go_enter Tryd.func97, Tryd.ntmps97
        go_wp2_with (first | (go_at_call 117; refine (specBoxesOk_any l _ _ _ (HR.out.ext bxt) (HM.out.ext bxt) HGN.out HGT.out true HD1).mono ?_; rintro e w1 ⟨rfl, hb1⟩; have cl0_0 : w1.cell? ⟨w.heap.size, 0, none⟩ = some (.int .i64 m.kind) := (hb1.cell (p := ⟨w.heap.size, 0, none⟩) smx).trans kpx; have cl0_1 : w1.cell? ⟨w.heap.size, 1, none⟩ = some (.int .i64 m.validity) := (hb1.cell (p := ⟨w.heap.size, 1, none⟩) smx).trans kpx; have cl0_2 : w1.cell? ⟨w.heap.size, 2, none⟩ = some (.int .i64 m.uid) := (hb1.cell (p := ⟨w.heap.size, 2, none⟩) smx).trans kpx; have cl0_3 : w1.cell? ⟨w.heap.size, 3, none⟩ = some (.int .i64 m.flags) := (hb1.cell (p := ⟨w.heap.size, 3, none⟩) smx).trans kpx; have cl0_4 : w1.cell? ⟨w.heap.size, 4, none⟩ = some (.string m.name) := (hb1.cell (p := ⟨w.heap.size, 4, none⟩) smx).trans kpx; have cl0_5 : w1.cell? ⟨w.heap.size, 5, none⟩ = some (.string m.text) := (hb1.cell (p := ⟨w.heap.size, 5, none⟩) smx).trans kpx; have sl0 : w.heap.size < w1.heap.size := (by have hss := hb1.size; first | omega | (simp at hss; omega))) | (go_at_call 105; refine (specCommitOk_any m _ g1 g2 true HD2).mono ?_; rintro e w2 ⟨rfl, hb2⟩; have cl0_0 : w2.cell? ⟨w.heap.size, 0, none⟩ = some (.int .i64 m.kind) := (hb2.cell (p := ⟨w.heap.size, 0, none⟩) smx).trans kpx; have cl0_1 : w2.cell? ⟨w.heap.size, 1, none⟩ = some (.int .i64 m.validity) := (hb2.cell (p := ⟨w.heap.size, 1, none⟩) smx).trans kpx; have cl0_2 : w2.cell? ⟨w.heap.size, 2, none⟩ = some (.int .i64 m.uid) := (hb2.cell (p := ⟨w.heap.size, 2, none⟩) smx).trans kpx; have cl0_3 : w2.cell? ⟨w.heap.size, 3, none⟩ = some (.int .i64 m.flags) := (hb2.cell (p := ⟨w.heap.size, 3, none⟩) smx).trans kpx; have cl0_4 : w2.cell? ⟨w.heap.size, 4, none⟩ = some (.string m.name) := (hb2.cell (p := ⟨w.heap.size, 4, none⟩) smx).trans kpx; have cl0_5 : w2.cell? ⟨w.heap.size, 5, none⟩ = some (.string m.text) := (hb2.cell (p := ⟨w.heap.size, 5, none⟩) smx).trans kpx; have sl0 : w.heap.size < w2.heap.size := (by have hss := hb2.size; first | omega | (simp at hss; omega))) | (go_at_call 98; refine (specBoxWith_any l _ _ m.validity _ (HR.out.ext bxt) z HZ).mono ?_; rintro e wx ⟨rfl, hwx⟩; subst wx) | (go_at_call 118; refine (specBoxNamed_any l _ _ m.name _ (HR.out.ext bxt) y HY).mono ?_; rintro e wx ⟨rfl, hwx⟩; subst wx))
        go_ret
        exact ⟨ret_of Hr.out (HDY.out.trans ⟨fun h => HFI.out.2 ⟨by simpa using H4.out, by rw [HZ.out]; exact HZ0.out, h⟩, fun h => (HFI.out.1 h).2.2⟩), bxt⟩
      have k1 : (m.kind == 1) = false := beq_eq_false_iff_ne.2 hk1
      rcases boxWith_range m.validity l with hz | ⟨i, hi, hz⟩
      · obtain ⟨z, hz2⟩ : ∃ z, boxWith m.validity (l.map PBox.box) = z := ⟨_, rfl⟩
        have HFI : Hid (¬ FitsP (l.map PBox.box) m) := fits_neg hk1 hz
        rw [hz2] at hz
        have z0 : decide (z < 0) = true := decide_eq_true hz
        have HZ := Lib.hid hz2
        clear hz hz2 hk1
        go_enter Tryd.func97, Tryd.ntmps97
        go_wp2_with (first | (go_at_call 117; refine (specBoxesOk_any l _ _ _ (HR.out.ext bxt) (HM.out.ext bxt) HGN.out HGT.out true HD1).mono ?_; rintro e w1 ⟨rfl, hb1⟩; have cl0_0 : w1.cell? ⟨w.heap.size, 0, none⟩ = some (.int .i64 m.kind) := (hb1.cell (p := ⟨w.heap.size, 0, none⟩) smx).trans kpx; have cl0_1 : w1.cell? ⟨w.heap.size, 1, none⟩ = some (.int .i64 m.validity) := (hb1.cell (p := ⟨w.heap.size, 1, none⟩) smx).trans kpx; have cl0_2 : w1.cell? ⟨w.heap.size, 2, none⟩ = some (.int .i64 m.uid) := (hb1.cell (p := ⟨w.heap.size, 2, none⟩) smx).trans kpx; have cl0_3 : w1.cell? ⟨w.heap.size, 3, none⟩ = some (.int .i64 m.flags) := (hb1.cell (p := ⟨w.heap.size, 3, none⟩) smx).trans kpx; have cl0_4 : w1.cell? ⟨w.heap.size, 4, none⟩ = some (.string m.name) := (hb1.cell (p := ⟨w.heap.size, 4, none⟩) smx).trans kpx; have cl0_5 : w1.cell? ⟨w.heap.size, 5, none⟩ = some (.string m.text) := (hb1.cell (p := ⟨w.heap.size, 5, none⟩) smx).trans kpx; have sl0 : w.heap.size < w1.heap.size := (by have hss := hb1.size; first | omega | (simp at hss; omega))) | (go_at_call 105; refine (specCommitOk_any m _ g1 g2 true HD2).mono ?_; rintro e w2 ⟨rfl, hb2⟩; have cl0_0 : w2.cell? ⟨w.heap.size, 0, none⟩ = some (.int .i64 m.kind) := (hb2.cell (p := ⟨w.heap.size, 0, none⟩) smx).trans kpx; have cl0_1 : w2.cell? ⟨w.heap.size, 1, none⟩ = some (.int .i64 m.validity) := (hb2.cell (p := ⟨w.heap.size, 1, none⟩) smx).trans kpx; have cl0_2 : w2.cell? ⟨w.heap.size, 2, none⟩ = some (.int .i64 m.uid) := (hb2.cell (p := ⟨w.heap.size, 2, none⟩) smx).trans kpx; have cl0_3 : w2.cell? ⟨w.heap.size, 3, none⟩ = some (.int .i64 m.flags) := (hb2.cell (p := ⟨w.heap.size, 3, none⟩) smx).trans kpx; have cl0_4 : w2.cell? ⟨w.heap.size, 4, none⟩ = some (.string m.name) := (hb2.cell (p := ⟨w.heap.size, 4, none⟩) smx).trans kpx; have cl0_5 : w2.cell? ⟨w.heap.size, 5, none⟩ = some (.string m.text) := (hb2.cell (p := ⟨w.heap.size, 5, none⟩) smx).trans kpx; have sl0 : w.heap.size < w2.heap.size := (by have hss := hb2.size; first | omega | (simp at hss; omega))) | (go_at_call 98; refine (specBoxWith_any l _ _ m.validity _ (HR.out.ext bxt) z HZ).mono ?_; rintro e wx ⟨rfl, hwx⟩; subst wx) | (go_at_call 118; refine (specBoxNamed_any l _ _ m.name _ (HR.out.ext bxt) y HY).mono ?_; rintro e wx ⟨rfl, hwx⟩; subst wx))
        go_ret
        exact ⟨ret_of Hr.out (iff_of_false (by simp) HFI.out), bxt⟩
      have HFI : Hid (FitsP (l.map PBox.box) m ↔ _) := fits_at hk1 i hi hz
      have HZ := Lib.hid hz
      clear hz hk1
      have z0 : decide ((i : Int) < 0) = false := decide_eq_false (by omega)
      have hi2 : (i : Int) < (l.length : Int) := by omega
      have hi3 : (0 : Int) ≤ (i : Int) := by omega
      obtain ⟨b, ofs, rfl, hbb, hat⟩ := HR.out.ptr (by omega)
      have HAT := Lib.hid hat
      clear hat
      by_cases hk3 : m.kind = 3
      · have k3 : (m.kind == 3) = true := beq_iff_eq.2 hk3
        have k4 : (m.kind == 4) = false := by simp [hk3]
        have k5 : (m.kind == 5) = false := by simp [hk3]
        have k6 : (m.kind == 6) = false := by simp [hk3]
        have HK := Lib.hid hk3
        clear hk3
        go_enter Tryd.func97, Tryd.ntmps97
        go_wp2_with (first | (go_at_call 117; refine (specBoxesOk_any l _ _ _ (HR.out.ext bxt) (HM.out.ext bxt) HGN.out HGT.out true HD1).mono ?_; rintro e w1 ⟨rfl, hb1⟩; have cl0_0 : w1.cell? ⟨w.heap.size, 0, none⟩ = some (.int .i64 m.kind) := (hb1.cell (p := ⟨w.heap.size, 0, none⟩) smx).trans kpx; have cl0_1 : w1.cell? ⟨w.heap.size, 1, none⟩ = some (.int .i64 m.validity) := (hb1.cell (p := ⟨w.heap.size, 1, none⟩) smx).trans kpx; have cl0_2 : w1.cell? ⟨w.heap.size, 2, none⟩ = some (.int .i64 m.uid) := (hb1.cell (p := ⟨w.heap.size, 2, none⟩) smx).trans kpx; have cl0_3 : w1.cell? ⟨w.heap.size, 3, none⟩ = some (.int .i64 m.flags) := (hb1.cell (p := ⟨w.heap.size, 3, none⟩) smx).trans kpx; have cl0_4 : w1.cell? ⟨w.heap.size, 4, none⟩ = some (.string m.name) := (hb1.cell (p := ⟨w.heap.size, 4, none⟩) smx).trans kpx; have cl0_5 : w1.cell? ⟨w.heap.size, 5, none⟩ = some (.string m.text) := (hb1.cell (p := ⟨w.heap.size, 5, none⟩) smx).trans kpx; have sl0 : w.heap.size < w1.heap.size := (by have hss := hb1.size; first | omega | (simp at hss; omega))) | (go_at_call 105; refine (specCommitOk_any m _ g1 g2 true HD2).mono ?_; rintro e w2 ⟨rfl, hb2⟩; have cl0_0 : w2.cell? ⟨w.heap.size, 0, none⟩ = some (.int .i64 m.kind) := (hb2.cell (p := ⟨w.heap.size, 0, none⟩) smx).trans kpx; have cl0_1 : w2.cell? ⟨w.heap.size, 1, none⟩ = some (.int .i64 m.validity) := (hb2.cell (p := ⟨w.heap.size, 1, none⟩) smx).trans kpx; have cl0_2 : w2.cell? ⟨w.heap.size, 2, none⟩ = some (.int .i64 m.uid) := (hb2.cell (p := ⟨w.heap.size, 2, none⟩) smx).trans kpx; have cl0_3 : w2.cell? ⟨w.heap.size, 3, none⟩ = some (.int .i64 m.flags) := (hb2.cell (p := ⟨w.heap.size, 3, none⟩) smx).trans kpx; have cl0_4 : w2.cell? ⟨w.heap.size, 4, none⟩ = some (.string m.name) := (hb2.cell (p := ⟨w.heap.size, 4, none⟩) smx).trans kpx; have cl0_5 : w2.cell? ⟨w.heap.size, 5, none⟩ = some (.string m.text) := (hb2.cell (p := ⟨w.heap.size, 5, none⟩) smx).trans kpx; have sl0 : w.heap.size < w2.heap.size := (by have hss := hb2.size; first | omega | (simp at hss; omega))) | (go_at_call 98; refine (specBoxWith_any l _ _ m.validity _ (HR.out.ext bxt) (i : Int) HZ).mono ?_; rintro e wx ⟨rfl, hwx⟩; subst wx) | (go_at_call 118; refine (specBoxNamed_any l _ _ m.name _ (HR.out.ext bxt) y HY).mono ?_; rintro e wx ⟨rfl, hwx⟩; subst wx))
        go_ret
        exact ⟨ret_of Hr.out (HDY.out.trans ⟨fun h => HFI.out.2 ⟨fun _ => h, fun h => by (rw [HK.out] at h; omega), fun h => by (rw [HK.out] at h; omega)⟩, fun h => (HFI.out.1 h).1 HK.out⟩), bxt⟩
      have k3 : (m.kind == 3) = false := beq_eq_false_iff_ne.2 hk3
      by_cases hk4 : m.kind = 4
      · have k4 : (m.kind == 4) = true := beq_iff_eq.2 hk4
        have k5 : (m.kind == 5) = false := by simp [hk4]
        have k6 : (m.kind == 6) = false := by simp [hk4]
        have HK := Lib.hid hk4
        clear hk4
        obtain ⟨u1, hd1⟩ : ∃ d, (m.uid == l[i].next) = d := ⟨_, rfl⟩
        have hd1b : (l[i].next == m.uid) = u1 := by (rw [← hd1]; exact Bool.eq_iff_iff.2 ⟨fun h => by simp at h ⊢; exact h.symm, fun h => by simp at h ⊢; exact h.symm⟩)
        have HU1 : Hid (u1 = true ↔ m.uid = l[i].next) := by (rw [← hd1]; simp [Hid])
        obtain ⟨u2, hd2⟩ : ∃ d, decide ((l[i].msgs.length : Int) < 6) = d := ⟨_, rfl⟩
        have hd2n : decide (l[i].msgs.length < 6) = u2 := by (rw [← hd2]; exact decide_eq_decide.2 (by omega))
        have HU2 : Hid (u2 = true ↔ l[i].msgs.length < 6) := by (rw [← hd2n]; simp [Hid])
        cases u1 with
        | false =>
          go_enter Tryd.func97, Tryd.ntmps97
          go_wp2_with (first | (go_at_call 117; refine (specBoxesOk_any l _ _ _ (HR.out.ext bxt) (HM.out.ext bxt) HGN.out HGT.out true HD1).mono ?_; rintro e w1 ⟨rfl, hb1⟩; have cl0_0 : w1.cell? ⟨w.heap.size, 0, none⟩ = some (.int .i64 m.kind) := (hb1.cell (p := ⟨w.heap.size, 0, none⟩) smx).trans kpx; have cl0_1 : w1.cell? ⟨w.heap.size, 1, none⟩ = some (.int .i64 m.validity) := (hb1.cell (p := ⟨w.heap.size, 1, none⟩) smx).trans kpx; have cl0_2 : w1.cell? ⟨w.heap.size, 2, none⟩ = some (.int .i64 m.uid) := (hb1.cell (p := ⟨w.heap.size, 2, none⟩) smx).trans kpx; have cl0_3 : w1.cell? ⟨w.heap.size, 3, none⟩ = some (.int .i64 m.flags) := (hb1.cell (p := ⟨w.heap.size, 3, none⟩) smx).trans kpx; have cl0_4 : w1.cell? ⟨w.heap.size, 4, none⟩ = some (.string m.name) := (hb1.cell (p := ⟨w.heap.size, 4, none⟩) smx).trans kpx; have cl0_5 : w1.cell? ⟨w.heap.size, 5, none⟩ = some (.string m.text) := (hb1.cell (p := ⟨w.heap.size, 5, none⟩) smx).trans kpx; have sl0 : w.heap.size < w1.heap.size := (by have hss := hb1.size; first | omega | (simp at hss; omega))) | (go_at_call 105; refine (specCommitOk_any m _ g1 g2 true HD2).mono ?_; rintro e w2 ⟨rfl, hb2⟩; have cl0_0 : w2.cell? ⟨w.heap.size, 0, none⟩ = some (.int .i64 m.kind) := (hb2.cell (p := ⟨w.heap.size, 0, none⟩) smx).trans kpx; have cl0_1 : w2.cell? ⟨w.heap.size, 1, none⟩ = some (.int .i64 m.validity) := (hb2.cell (p := ⟨w.heap.size, 1, none⟩) smx).trans kpx; have cl0_2 : w2.cell? ⟨w.heap.size, 2, none⟩ = some (.int .i64 m.uid) := (hb2.cell (p := ⟨w.heap.size, 2, none⟩) smx).trans kpx; have cl0_3 : w2.cell? ⟨w.heap.size, 3, none⟩ = some (.int .i64 m.flags) := (hb2.cell (p := ⟨w.heap.size, 3, none⟩) smx).trans kpx; have cl0_4 : w2.cell? ⟨w.heap.size, 4, none⟩ = some (.string m.name) := (hb2.cell (p := ⟨w.heap.size, 4, none⟩) smx).trans kpx; have cl0_5 : w2.cell? ⟨w.heap.size, 5, none⟩ = some (.string m.text) := (hb2.cell (p := ⟨w.heap.size, 5, none⟩) smx).trans kpx; have sl0 : w.heap.size < w2.heap.size := (by have hss := hb2.size; first | omega | (simp at hss; omega))) | (go_at_call 98; refine (specBoxWith_any l _ _ m.validity _ (HR.out.ext bxt) (i : Int) HZ).mono ?_; rintro e wx ⟨rfl, hwx⟩; subst wx) | (go_at_call 118; refine (specBoxNamed_any l _ _ m.name _ (HR.out.ext bxt) y HY).mono ?_; rintro e wx ⟨rfl, hwx⟩; subst wx))
          have hbel : Below w.heap.size w w2 := bxt
          obtain ⟨e0, e1, e2, e3⟩ := PBox.at (HAT.out.ext hbb hbel) i hi
          have hbb1 : b < w2.heap.size := by (have := hbel.size; omega)
          clear hbel
          go_quiet (fail)
          go_wp2_with fail
          go_ret
          exact ⟨ret_of Hr.out (iff_of_false (by simp) (fun h => absurd (HU1.out.2 ((HFI.out.1 h).2.1 HK.out).1) (by simp))), bxt⟩
        | true =>
          go_enter Tryd.func97, Tryd.ntmps97
          go_wp2_with (first | (go_at_call 117; refine (specBoxesOk_any l _ _ _ (HR.out.ext bxt) (HM.out.ext bxt) HGN.out HGT.out true HD1).mono ?_; rintro e w1 ⟨rfl, hb1⟩; have cl0_0 : w1.cell? ⟨w.heap.size, 0, none⟩ = some (.int .i64 m.kind) := (hb1.cell (p := ⟨w.heap.size, 0, none⟩) smx).trans kpx; have cl0_1 : w1.cell? ⟨w.heap.size, 1, none⟩ = some (.int .i64 m.validity) := (hb1.cell (p := ⟨w.heap.size, 1, none⟩) smx).trans kpx; have cl0_2 : w1.cell? ⟨w.heap.size, 2, none⟩ = some (.int .i64 m.uid) := (hb1.cell (p := ⟨w.heap.size, 2, none⟩) smx).trans kpx; have cl0_3 : w1.cell? ⟨w.heap.size, 3, none⟩ = some (.int .i64 m.flags) := (hb1.cell (p := ⟨w.heap.size, 3, none⟩) smx).trans kpx; have cl0_4 : w1.cell? ⟨w.heap.size, 4, none⟩ = some (.string m.name) := (hb1.cell (p := ⟨w.heap.size, 4, none⟩) smx).trans kpx; have cl0_5 : w1.cell? ⟨w.heap.size, 5, none⟩ = some (.string m.text) := (hb1.cell (p := ⟨w.heap.size, 5, none⟩) smx).trans kpx; have sl0 : w.heap.size < w1.heap.size := (by have hss := hb1.size; first | omega | (simp at hss; omega))) | (go_at_call 105; refine (specCommitOk_any m _ g1 g2 true HD2).mono ?_; rintro e w2 ⟨rfl, hb2⟩; have cl0_0 : w2.cell? ⟨w.heap.size, 0, none⟩ = some (.int .i64 m.kind) := (hb2.cell (p := ⟨w.heap.size, 0, none⟩) smx).trans kpx; have cl0_1 : w2.cell? ⟨w.heap.size, 1, none⟩ = some (.int .i64 m.validity) := (hb2.cell (p := ⟨w.heap.size, 1, none⟩) smx).trans kpx; have cl0_2 : w2.cell? ⟨w.heap.size, 2, none⟩ = some (.int .i64 m.uid) := (hb2.cell (p := ⟨w.heap.size, 2, none⟩) smx).trans kpx; have cl0_3 : w2.cell? ⟨w.heap.size, 3, none⟩ = some (.int .i64 m.flags) := (hb2.cell (p := ⟨w.heap.size, 3, none⟩) smx).trans kpx; have cl0_4 : w2.cell? ⟨w.heap.size, 4, none⟩ = some (.string m.name) := (hb2.cell (p := ⟨w.heap.size, 4, none⟩) smx).trans kpx; have cl0_5 : w2.cell? ⟨w.heap.size, 5, none⟩ = some (.string m.text) := (hb2.cell (p := ⟨w.heap.size, 5, none⟩) smx).trans kpx; have sl0 : w.heap.size < w2.heap.size := (by have hss := hb2.size; first | omega | (simp at hss; omega))) | (go_at_call 98; refine (specBoxWith_any l _ _ m.validity _ (HR.out.ext bxt) (i : Int) HZ).mono ?_; rintro e wx ⟨rfl, hwx⟩; subst wx) | (go_at_call 118; refine (specBoxNamed_any l _ _ m.name _ (HR.out.ext bxt) y HY).mono ?_; rintro e wx ⟨rfl, hwx⟩; subst wx))
          have hbel : Below w.heap.size w w2 := bxt
          obtain ⟨e0, e1, e2, e3⟩ := PBox.at (HAT.out.ext hbb hbel) i hi
          have hbb1 : b < w2.heap.size := by (have := hbel.size; omega)
          clear hbel
          go_quiet (fail)
          go_wp2_with fail
          go_ret
          exact ⟨ret_of Hr.out (HU2.out.trans ⟨fun h => HFI.out.2 ⟨fun h => by (rw [HK.out] at h; omega), fun _ => ⟨by first | exact HU1.out.1 rfl | exact HU1.out.1 trivial, h⟩, fun h => by (rw [HK.out] at h; omega)⟩, fun h => ((HFI.out.1 h).2.1 HK.out).2⟩), bxt⟩
      have k4 : (m.kind == 4) = false := beq_eq_false_iff_ne.2 hk4
      by_cases hk5 : m.kind = 5
      · have k5 : (m.kind == 5) = true := beq_iff_eq.2 hk5
        have k6 : (m.kind == 6) = false := by simp [hk5]
        have HK := Lib.hid hk5
        clear hk5
        obtain ⟨p, hp⟩ : ∃ p, placeOf m.uid l[i].msgs = p := ⟨_, rfl⟩
        have HPL := Lib.hid hp
        clear hp
        go_enter Tryd.func97, Tryd.ntmps97
        go_wp2_with (first | (go_at_call 117; refine (specBoxesOk_any l _ _ _ (HR.out.ext bxt) (HM.out.ext bxt) HGN.out HGT.out true HD1).mono ?_; rintro e w1 ⟨rfl, hb1⟩; have cl0_0 : w1.cell? ⟨w.heap.size, 0, none⟩ = some (.int .i64 m.kind) := (hb1.cell (p := ⟨w.heap.size, 0, none⟩) smx).trans kpx; have cl0_1 : w1.cell? ⟨w.heap.size, 1, none⟩ = some (.int .i64 m.validity) := (hb1.cell (p := ⟨w.heap.size, 1, none⟩) smx).trans kpx; have cl0_2 : w1.cell? ⟨w.heap.size, 2, none⟩ = some (.int .i64 m.uid) := (hb1.cell (p := ⟨w.heap.size, 2, none⟩) smx).trans kpx; have cl0_3 : w1.cell? ⟨w.heap.size, 3, none⟩ = some (.int .i64 m.flags) := (hb1.cell (p := ⟨w.heap.size, 3, none⟩) smx).trans kpx; have cl0_4 : w1.cell? ⟨w.heap.size, 4, none⟩ = some (.string m.name) := (hb1.cell (p := ⟨w.heap.size, 4, none⟩) smx).trans kpx; have cl0_5 : w1.cell? ⟨w.heap.size, 5, none⟩ = some (.string m.text) := (hb1.cell (p := ⟨w.heap.size, 5, none⟩) smx).trans kpx; have sl0 : w.heap.size < w1.heap.size := (by have hss := hb1.size; first | omega | (simp at hss; omega))) | (go_at_call 105; refine (specCommitOk_any m _ g1 g2 true HD2).mono ?_; rintro e w2 ⟨rfl, hb2⟩; have cl0_0 : w2.cell? ⟨w.heap.size, 0, none⟩ = some (.int .i64 m.kind) := (hb2.cell (p := ⟨w.heap.size, 0, none⟩) smx).trans kpx; have cl0_1 : w2.cell? ⟨w.heap.size, 1, none⟩ = some (.int .i64 m.validity) := (hb2.cell (p := ⟨w.heap.size, 1, none⟩) smx).trans kpx; have cl0_2 : w2.cell? ⟨w.heap.size, 2, none⟩ = some (.int .i64 m.uid) := (hb2.cell (p := ⟨w.heap.size, 2, none⟩) smx).trans kpx; have cl0_3 : w2.cell? ⟨w.heap.size, 3, none⟩ = some (.int .i64 m.flags) := (hb2.cell (p := ⟨w.heap.size, 3, none⟩) smx).trans kpx; have cl0_4 : w2.cell? ⟨w.heap.size, 4, none⟩ = some (.string m.name) := (hb2.cell (p := ⟨w.heap.size, 4, none⟩) smx).trans kpx; have cl0_5 : w2.cell? ⟨w.heap.size, 5, none⟩ = some (.string m.text) := (hb2.cell (p := ⟨w.heap.size, 5, none⟩) smx).trans kpx; have sl0 : w.heap.size < w2.heap.size := (by have hss := hb2.size; first | omega | (simp at hss; omega))) | (go_at_call 98; refine (specBoxWith_any l _ _ m.validity _ (HR.out.ext bxt) (i : Int) HZ).mono ?_; rintro e wx ⟨rfl, hwx⟩; subst wx) | (go_at_call 118; refine (specBoxNamed_any l _ _ m.name _ (HR.out.ext bxt) y HY).mono ?_; rintro e wx ⟨rfl, hwx⟩; subst wx))
        have hbel : Below w.heap.size w w2 := bxt
        obtain ⟨e0, e1, e2, e3⟩ := PBox.at (HAT.out.ext hbb hbel) i hi
        have hbb1 : b < w2.heap.size := by (have := hbel.size; omega)
        clear hbel
        go_region_held3 (fun w' => Below w2.heap.size w2 w' ∧ (∀ b o, b < w2.heap.size → w'.cell? ⟨b, o, none⟩ = w2.cell? ⟨b, o, none⟩)) (first | with_reducible exact sBeg _ | with_reducible exact sExt (by assumption) (by assumption)) ((go_at_call 101; refine (specPlaceOf_any l[i].name l[i].validity l[i].next l[i].msgs _ _ m.uid _ ((HM.out.at i hi).ext bxt) p HPL).mono ?_; rintro e w3 ⟨rfl, hb3⟩))
        go_wp2_with fail
        go_ret
        exact ⟨ret_of Hr.out ⟨fun h => HFI.out.2 ⟨fun h => by (rw [HK.out] at h; omega), fun h => by (rw [HK.out] at h; omega), fun _ => by (rw [HPL.out]; exact of_decide_eq_true h)⟩, fun h => decide_eq_true (by (rw [← HPL.out]; exact (HFI.out.1 h).2.2 (by rw [HK.out]; omega)))⟩, bxt⟩
      have k5 : (m.kind == 5) = false := beq_eq_false_iff_ne.2 hk5
      by_cases hk6 : m.kind = 6
      · have k6 : (m.kind == 6) = true := beq_iff_eq.2 hk6
        have HK := Lib.hid hk6
        clear hk6
        obtain ⟨p, hp⟩ : ∃ p, placeOf m.uid l[i].msgs = p := ⟨_, rfl⟩
        have HPL := Lib.hid hp
        clear hp
        go_enter Tryd.func97, Tryd.ntmps97
        go_wp2_with (first | (go_at_call 117; refine (specBoxesOk_any l _ _ _ (HR.out.ext bxt) (HM.out.ext bxt) HGN.out HGT.out true HD1).mono ?_; rintro e w1 ⟨rfl, hb1⟩; have cl0_0 : w1.cell? ⟨w.heap.size, 0, none⟩ = some (.int .i64 m.kind) := (hb1.cell (p := ⟨w.heap.size, 0, none⟩) smx).trans kpx; have cl0_1 : w1.cell? ⟨w.heap.size, 1, none⟩ = some (.int .i64 m.validity) := (hb1.cell (p := ⟨w.heap.size, 1, none⟩) smx).trans kpx; have cl0_2 : w1.cell? ⟨w.heap.size, 2, none⟩ = some (.int .i64 m.uid) := (hb1.cell (p := ⟨w.heap.size, 2, none⟩) smx).trans kpx; have cl0_3 : w1.cell? ⟨w.heap.size, 3, none⟩ = some (.int .i64 m.flags) := (hb1.cell (p := ⟨w.heap.size, 3, none⟩) smx).trans kpx; have cl0_4 : w1.cell? ⟨w.heap.size, 4, none⟩ = some (.string m.name) := (hb1.cell (p := ⟨w.heap.size, 4, none⟩) smx).trans kpx; have cl0_5 : w1.cell? ⟨w.heap.size, 5, none⟩ = some (.string m.text) := (hb1.cell (p := ⟨w.heap.size, 5, none⟩) smx).trans kpx; have sl0 : w.heap.size < w1.heap.size := (by have hss := hb1.size; first | omega | (simp at hss; omega))) | (go_at_call 105; refine (specCommitOk_any m _ g1 g2 true HD2).mono ?_; rintro e w2 ⟨rfl, hb2⟩; have cl0_0 : w2.cell? ⟨w.heap.size, 0, none⟩ = some (.int .i64 m.kind) := (hb2.cell (p := ⟨w.heap.size, 0, none⟩) smx).trans kpx; have cl0_1 : w2.cell? ⟨w.heap.size, 1, none⟩ = some (.int .i64 m.validity) := (hb2.cell (p := ⟨w.heap.size, 1, none⟩) smx).trans kpx; have cl0_2 : w2.cell? ⟨w.heap.size, 2, none⟩ = some (.int .i64 m.uid) := (hb2.cell (p := ⟨w.heap.size, 2, none⟩) smx).trans kpx; have cl0_3 : w2.cell? ⟨w.heap.size, 3, none⟩ = some (.int .i64 m.flags) := (hb2.cell (p := ⟨w.heap.size, 3, none⟩) smx).trans kpx; have cl0_4 : w2.cell? ⟨w.heap.size, 4, none⟩ = some (.string m.name) := (hb2.cell (p := ⟨w.heap.size, 4, none⟩) smx).trans kpx; have cl0_5 : w2.cell? ⟨w.heap.size, 5, none⟩ = some (.string m.text) := (hb2.cell (p := ⟨w.heap.size, 5, none⟩) smx).trans kpx; have sl0 : w.heap.size < w2.heap.size := (by have hss := hb2.size; first | omega | (simp at hss; omega))) | (go_at_call 98; refine (specBoxWith_any l _ _ m.validity _ (HR.out.ext bxt) (i : Int) HZ).mono ?_; rintro e wx ⟨rfl, hwx⟩; subst wx) | (go_at_call 118; refine (specBoxNamed_any l _ _ m.name _ (HR.out.ext bxt) y HY).mono ?_; rintro e wx ⟨rfl, hwx⟩; subst wx))
        have hbel : Below w.heap.size w w2 := bxt
        obtain ⟨e0, e1, e2, e3⟩ := PBox.at (HAT.out.ext hbb hbel) i hi
        have hbb1 : b < w2.heap.size := by (have := hbel.size; omega)
        clear hbel
        go_region_held3 (fun w' => Below w2.heap.size w2 w' ∧ (∀ b o, b < w2.heap.size → w'.cell? ⟨b, o, none⟩ = w2.cell? ⟨b, o, none⟩)) (first | with_reducible exact sBeg _ | with_reducible exact sExt (by assumption) (by assumption)) ((go_at_call 101; refine (specPlaceOf_any l[i].name l[i].validity l[i].next l[i].msgs _ _ m.uid _ ((HM.out.at i hi).ext bxt) p HPL).mono ?_; rintro e w3 ⟨rfl, hb3⟩))
        go_wp2_with fail
        go_ret
        exact ⟨ret_of Hr.out ⟨fun h => HFI.out.2 ⟨fun h => by (rw [HK.out] at h; omega), fun h => by (rw [HK.out] at h; omega), fun _ => by (rw [HPL.out]; exact of_decide_eq_true h)⟩, fun h => decide_eq_true (by (rw [← HPL.out]; exact (HFI.out.1 h).2.2 (by rw [HK.out]; omega)))⟩, bxt⟩
      have k6 : (m.kind == 6) = false := beq_eq_false_iff_ne.2 hk6
      have HK : Hid (m.kind ≠ 3 ∧ m.kind ≠ 4 ∧ m.kind ≠ 5 ∧ m.kind ≠ 6) := ⟨hk3, hk4, hk5, hk6⟩
      clear hk3 hk4 hk5 hk6
      go_enter Tryd.func97, Tryd.ntmps97
      go_wp2_with (first | (go_at_call 117; refine (specBoxesOk_any l _ _ _ (HR.out.ext bxt) (HM.out.ext bxt) HGN.out HGT.out true HD1).mono ?_; rintro e w1 ⟨rfl, hb1⟩; have cl0_0 : w1.cell? ⟨w.heap.size, 0, none⟩ = some (.int .i64 m.kind) := (hb1.cell (p := ⟨w.heap.size, 0, none⟩) smx).trans kpx; have cl0_1 : w1.cell? ⟨w.heap.size, 1, none⟩ = some (.int .i64 m.validity) := (hb1.cell (p := ⟨w.heap.size, 1, none⟩) smx).trans kpx; have cl0_2 : w1.cell? ⟨w.heap.size, 2, none⟩ = some (.int .i64 m.uid) := (hb1.cell (p := ⟨w.heap.size, 2, none⟩) smx).trans kpx; have cl0_3 : w1.cell? ⟨w.heap.size, 3, none⟩ = some (.int .i64 m.flags) := (hb1.cell (p := ⟨w.heap.size, 3, none⟩) smx).trans kpx; have cl0_4 : w1.cell? ⟨w.heap.size, 4, none⟩ = some (.string m.name) := (hb1.cell (p := ⟨w.heap.size, 4, none⟩) smx).trans kpx; have cl0_5 : w1.cell? ⟨w.heap.size, 5, none⟩ = some (.string m.text) := (hb1.cell (p := ⟨w.heap.size, 5, none⟩) smx).trans kpx; have sl0 : w.heap.size < w1.heap.size := (by have hss := hb1.size; first | omega | (simp at hss; omega))) | (go_at_call 105; refine (specCommitOk_any m _ g1 g2 true HD2).mono ?_; rintro e w2 ⟨rfl, hb2⟩; have cl0_0 : w2.cell? ⟨w.heap.size, 0, none⟩ = some (.int .i64 m.kind) := (hb2.cell (p := ⟨w.heap.size, 0, none⟩) smx).trans kpx; have cl0_1 : w2.cell? ⟨w.heap.size, 1, none⟩ = some (.int .i64 m.validity) := (hb2.cell (p := ⟨w.heap.size, 1, none⟩) smx).trans kpx; have cl0_2 : w2.cell? ⟨w.heap.size, 2, none⟩ = some (.int .i64 m.uid) := (hb2.cell (p := ⟨w.heap.size, 2, none⟩) smx).trans kpx; have cl0_3 : w2.cell? ⟨w.heap.size, 3, none⟩ = some (.int .i64 m.flags) := (hb2.cell (p := ⟨w.heap.size, 3, none⟩) smx).trans kpx; have cl0_4 : w2.cell? ⟨w.heap.size, 4, none⟩ = some (.string m.name) := (hb2.cell (p := ⟨w.heap.size, 4, none⟩) smx).trans kpx; have cl0_5 : w2.cell? ⟨w.heap.size, 5, none⟩ = some (.string m.text) := (hb2.cell (p := ⟨w.heap.size, 5, none⟩) smx).trans kpx; have sl0 : w.heap.size < w2.heap.size := (by have hss := hb2.size; first | omega | (simp at hss; omega))) | (go_at_call 98; refine (specBoxWith_any l _ _ m.validity _ (HR.out.ext bxt) (i : Int) HZ).mono ?_; rintro e wx ⟨rfl, hwx⟩; subst wx) | (go_at_call 118; refine (specBoxNamed_any l _ _ m.name _ (HR.out.ext bxt) y HY).mono ?_; rintro e wx ⟨rfl, hwx⟩; subst wx))
      go_ret
      exact ⟨ret_of Hr.out (iff_of_true rfl (HFI.out.2 ⟨fun h => absurd h HK.out.1, fun h => absurd h HK.out.2.1, fun h => h.elim (fun h => absurd h HK.out.2.2.1) (fun h => absurd h HK.out.2.2.2)⟩)), bxt⟩

end Go.Proofs.YtadjlfcdjkikgaaDoor
