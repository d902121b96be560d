/-
  BoxesAt: the program's function and the reference's.
-/
import Derived.Test.YtjcnhkmhcfmoeaaGreatWAll
import Derived.Test.YtjcnhkmhcfmoeaaGreatWComS
namespace Go.Proofs.YtjcnhkmhcfmoeaaGreat
open Go.RowKit
set_option linter.unusedVariables false
set_option linter.unusedSimpArgs false

def atN (l : List DCommit) (x : Int) : Nat := (min (max x 0) l.length).toNat
theorem atN_le (l : List DCommit) (x : Int) : atN l x ≤ l.length := by unfold atN; omega
/-- the mailboxes behind the first commits -/
noncomputable def boxesAtD (l : List DCommit) (x : Int) : List DBox := (allD [] (l.take (atN l x))).1
def BoxesRel (s : DStore) (x : Int) (rr : List DBox) : Prop := boxesAtD s.log x = rr
theorem boxesRel_ex (s : DStore) (x : Int) : ∃ rr, BoxesRel s x rr := ⟨_, rfl⟩
theorem boxesRel_cnt {s : DStore} {x : Int} {rr : List DBox} (h : BoxesRel s x rr) : cntD rr ≤ 3145728 := allRel_cnt (l := []) (log := s.log.take (atN s.log x)) (rok := (allD [] (s.log.take (atN s.log x))).2) (by unfold AllRel; unfold BoxesRel boxesAtD at h; rw [← h]) (by simp [cntD])

theorem implAllNil (l : List DCommit) (la : Option Addr) (lc n : Nat) (w : World) (RL : Rd w la lc 6 l.length (l.flatMap DCommit.cells)) (hll : l.length ≤ 1048576) (gl : ∀ y ∈ l, y.name.size ≤ 9223372036854775807 ∧ y.text.size ≤ 9223372036854775807) (hm : MaxLen w) (hn : n ≤ l.length) :
    Calls Tryz.prog 71 #[.slice none 0 0, .slice la n lc] w fun e w' => ∃ g q l' rok, e = .returned (.tuple #[.slice g l'.length q, .bool rok]) ∧ OwnBs w' w.heap.size 49 66 g q l' ∧ l'.map PBox.box = (allD [] (l.take n)).1 ∧ Ext w w' := by
  have h := implAppliedAll_law [] none 0 (l.take n) la lc w ⟨by simp, Nat.le_refl _, by omega, fun h => by simp at h⟩ (fun y hy => by cases hy) (by simp) (fun y hy => by cases hy) (fun y hy => by cases hy) (fun y hy => by cases hy) (RL.pre DCommit.cells_len n hn) (by simp; omega) (fun y hy => gl y (List.mem_of_mem_take hy)) hm (allD [] (l.take n)).1 (allD [] (l.take n)).2 (Lib.hid rfl)
  have hl : (l.take n).length = n := by simp; omega
  rw [hl] at h
  exact h.mono fun e w' ⟨g, q, l', he, ho, hd, hx⟩ => ⟨g, q, l', _, he, ho, hd, hx⟩

theorem specAllNil (l : List DCommit) (la : Option Addr) (lc n : Nat) (w : World) (RL : Rd w la lc 6 l.length (l.flatMap DCommit.cells)) (hll : l.length ≤ 1048576) (gl : ∀ y ∈ l, y.name.size ≤ 9223372036854775807 ∧ y.text.size ≤ 9223372036854775807) (hn : n ≤ l.length) :
    Calls Tryz.prog 76 #[.slice none 0 0, .slice la n lc] w fun e w' => ∃ g q l' rok, e = .returned (.tuple #[.slice g l'.length q, .bool rok]) ∧ OwnBs w' w.heap.size 49 66 g q l' ∧ l'.map PBox.box = (allD [] (l.take n)).1 ∧ Ext w w' := by
  have h := specAppliedAll_law [] none 0 (l.take n) la lc w ⟨by simp, Nat.le_refl _, by omega, fun h => by simp at h⟩ (fun y hy => by cases hy) (by simp) (fun y hy => by cases hy) (fun y hy => by cases hy) (fun y hy => by cases hy) (RL.pre DCommit.cells_len n hn) (by simp; omega) (fun y hy => gl y (List.mem_of_mem_take hy)) (allD [] (l.take n)).1 (allD [] (l.take n)).2 (Lib.hid rfl)
  have hl : (l.take n).length = n := by simp; omega
  rw [hl] at h
  exact h.mono fun e w' ⟨g, q, l', he, ho, hd, hx⟩ => ⟨g, q, l', _, he, ho, hd, hx⟩

set_option maxRecDepth 100000 in
set_option maxHeartbeats 8000000 in
theorem implBoxesAt_c (b : List PBox) (ba : Option Addr) (bc : Nat) (l : List DCommit) (la : Option Addr) (lc : Nat) (gv : Int) (x : Int) (w : World) (RL : Rd w la lc 6 l.length (l.flatMap DCommit.cells)) (hll : l.length ≤ 1048576) (gl : ∀ y ∈ l, y.name.size ≤ 9223372036854775807 ∧ y.text.size ≤ 9223372036854775807) (hm : MaxLen w) (rr : List DBox) (H : Hid (boxesAtD l x = rr)) :
    Calls Tryz.prog 21 #[.agg #[.slice ba b.length bc, .slice la l.length lc, .int .i64 gv], .int .i64 x] w fun e w' => ∃ g q l', e = .returned (.slice g l'.length q) ∧ OwnBs w' w.heap.size 49 66 g q l' ∧ l'.map PBox.box = rr ∧ Ext w w' := by
  have HRL := Lib.hid RL
  have HGL := Lib.hid gl
  have HMX := Lib.hid hm
  have hH := H.out
  obtain ⟨n, hn⟩ : ∃ n, atN l x = n := ⟨_, rfl⟩
  have hn2 : min (max x 0) (l.length : Int) = (n : Int) := by unfold atN at hn; omega
  have hnl : n ≤ l.length := by rw [← hn]; exact atN_le l x
  have HN := Lib.hid hn
  have hnc := RL.nc
  have hcm := RL.cm
  have i1 : (0 : Int) ≤ (n : Int) := by omega
  have i2 : (n : Int) ≤ (lc : Int) := by omega
  clear RL hm gl hn
  go_enter Tryz.func21, Tryz.ntmps21
  go_wp2_with (go_at_call 71; refine (implAllNil l la lc n _ (HRL.out.ext bxt) hll HGL.out (HMX.out.ext bxt) hnl).mono ?_; rintro e w4 ⟨g4, q4, l4, rok, rfl, ho4, hd4, hb4⟩; have HO4 := Lib.hid ho4; have HD4 := Lib.hid hd4; clear ho4 hd4)
  go_ret
  exact ⟨g4, q4, l4, rfl, OwnBs.le HO4.out smx, by rw [HD4.out, ← HN.out]; exact H.out, bxt⟩
set_option maxHeartbeats 1000000 in
theorem specMin_any (x y r : Int) (w : World) (Hr : Hid ((if x < y then x else y) = r)) :
    Calls Tryz.prog 79 #[.int .i64 x, .int .i64 y] w fun e w' => e = .returned (.int .i64 r) ∧ w' = w := by
  by_cases h : x < y
  · have h1 : decide (x < y) = true := decide_eq_true h
    go_enter Tryz.func79, Tryz.ntmps79
    go_wp2
    go_ret
    exact ⟨ret_int (by rw [← Hr.out, if_pos h]), rfl⟩
  · have h1 : decide (x < y) = false := decide_eq_false h
    go_enter Tryz.func79, Tryz.ntmps79
    go_wp2
    go_ret
    exact ⟨ret_int (by rw [← Hr.out, if_neg (by omega)]), rfl⟩
theorem sMk4 {W w : World} (h3 : Below W.heap.size W w) : Below W.heap.size W w ∧ (∀ b o, b < W.heap.size → w.cell? ⟨b, o, none⟩ = W.cell? ⟨b, o, none⟩) := ⟨h3, (bcell h3).1⟩
set_option maxRecDepth 100000 in
set_option maxHeartbeats 8000000 in
theorem specBoxesAt_c (b : List PBox) (ba : Option Addr) (bc : Nat) (l : List DCommit) (la : Option Addr) (lc : Nat) (gv : Int) (x : Int) (w : World) (RL : Rd w la lc 6 l.length (l.flatMap DCommit.cells)) (hll : l.length ≤ 1048576) (gl : ∀ y ∈ l, y.name.size ≤ 9223372036854775807 ∧ y.text.size ≤ 9223372036854775807) (rr : List DBox) (H : Hid (boxesAtD l x = rr)) :
    Calls Tryz.prog 22 #[.agg #[.slice ba b.length bc, .slice la l.length lc, .int .i64 gv], .int .i64 x] w fun e w' => ∃ g q l', e = .returned (.slice g l'.length q) ∧ OwnBs w' w.heap.size 49 66 g q l' ∧ l'.map PBox.box = rr ∧ Ext w w' := by
  have HRL := Lib.hid RL
  have HGL := Lib.hid gl
  have hH := H.out
  obtain ⟨n, hn⟩ : ∃ n, atN l x = n := ⟨_, rfl⟩
  obtain ⟨mz, hmz⟩ : ∃ z, (if x < (l.length : Int) then x else (l.length : Int)) = z := ⟨_, rfl⟩
  have hn2 : (if mz < 0 then (0 : Int) else mz) = (n : Int) := by unfold atN at hn; split at hmz <;> split <;> omega
  have hnl : n ≤ l.length := by rw [← hn]; exact atN_le l x
  have HN := Lib.hid hn
  have HMZ := Lib.hid hmz
  have HN2 := Lib.hid hn2
  have hnc := RL.nc
  have hcm := RL.cm
  have i1 : (0 : Int) ≤ (n : Int) := by omega
  have i2 : (n : Int) ≤ (lc : Int) := by omega
  clear RL gl hn hmz hn2
  go_enter Tryz.func22, Tryz.ntmps22
  go_wp2_with fail
  refine wp_world (fun W hW => ?_)
  have hwW : Below w.heap.size w W := by (rw [hW]; exact bxt)
  have bx0 : W.cell? ⟨w.heap.size, 0, none⟩ = some (.slice ba b.length bc) := by (rw [hW]; simp [go_sem])
  have bx1 : W.cell? ⟨w.heap.size, 1, none⟩ = some (.slice la l.length lc) := by (rw [hW]; simp [go_sem])
  have bx2 : W.cell? ⟨w.heap.size, 2, none⟩ = some (.int .i64 gv) := by (rw [hW]; simp [go_sem])
  have sW : w.heap.size < W.heap.size := by (rw [hW]; simp)
  clear hW
  go_region_held3 (fun w' => Below W.heap.size W w' ∧ (∀ b o, b < W.heap.size → w'.cell? ⟨b, o, none⟩ = W.cell? ⟨b, o, none⟩)) (first | with_reducible exact sBeg _ | with_reducible exact sExt (by assumption) (by assumption) | (refine sMk4 ?_; exact bxt)) ((first | (go_at_call 79; refine (specMin_any x l.length mz _ HMZ).mono ?_; rintro e wx ⟨rfl, hwx⟩; subst wx) | (go_at_call 78; refine (specMax_any 0 mz n _ HN2).mono ?_; rintro e wx ⟨rfl, hwx⟩; subst wx) | (go_at_call 76; refine (specAllNil l la lc n _ (HRL.out.ext bxt) hll HGL.out hnl).mono ?_; rintro e w4 ⟨g4, q4, l4, rok, rfl, ho4, hd4, hb4⟩; have HO4 := Lib.hid ho4; have HD4 := Lib.hid hd4; clear ho4 hd4)))
  go_wp2_with fail
  go_ret
  have hbW4 : Below W.heap.size W w4 := bxt
  exact ⟨g4, q4, l4, rfl, OwnBs.le HO4.out smx, by rw [HD4.out, ← HN.out]; exact H.out, Below.ext hwW hbW4⟩
theorem implBoxesAt_law (b : List PBox) (ba : Option Addr) (bc : Nat) (l : List DCommit) (la : Option Addr) (lc : Nat) (gv : Int) (x : Int) (w : World) (R : Rd w ba bc 4 b.length (b.flatMap PBox.cells)) (M : RdM w b) (RL : Rd w la lc 6 l.length (l.flatMap DCommit.cells)) (hl : b.length ≤ 1048576) (hlm : ∀ y ∈ b, y.msgs.length ≤ 1048576) (hll : l.length ≤ 1048576) (gn : ∀ y ∈ b, y.name.size ≤ 9223372036854775807) (gt : ∀ y ∈ b, ∀ m ∈ y.msgs, m.text.size ≤ 9223372036854775807) (gl : ∀ y ∈ l, y.name.size ≤ 9223372036854775807 ∧ y.text.size ≤ 9223372036854775807) (hm : MaxLen w) (rr : List DBox) (H : Hid (BoxesRel ⟨b.map PBox.box, l, gv⟩ x rr)) :
    Calls Tryz.prog 21 #[.agg #[.slice ba b.length bc, .slice la l.length lc, .int .i64 gv], .int .i64 x] w fun e w' => ∃ g q l', e = .returned (.slice g l'.length q) ∧ OwnBs w' w.heap.size 49 66 g q l' ∧ l'.map PBox.box = rr ∧ Ext w w' := implBoxesAt_c b ba bc l la lc gv x w RL hll gl hm rr H
theorem specBoxesAt_law (b : List PBox) (ba : Option Addr) (bc : Nat) (l : List DCommit) (la : Option Addr) (lc : Nat) (gv : Int) (x : Int) (w : World) (R : Rd w ba bc 4 b.length (b.flatMap PBox.cells)) (M : RdM w b) (RL : Rd w la lc 6 l.length (l.flatMap DCommit.cells)) (hl : b.length ≤ 1048576) (hlm : ∀ y ∈ b, y.msgs.length ≤ 1048576) (hll : l.length ≤ 1048576) (gn : ∀ y ∈ b, y.name.size ≤ 9223372036854775807) (gt : ∀ y ∈ b, ∀ m ∈ y.msgs, m.text.size ≤ 9223372036854775807) (gl : ∀ y ∈ l, y.name.size ≤ 9223372036854775807 ∧ y.text.size ≤ 9223372036854775807) (rr : List DBox) (H : Hid (BoxesRel ⟨b.map PBox.box, l, gv⟩ x rr)) :
    Calls Tryz.prog 22 #[.agg #[.slice ba b.length bc, .slice la l.length lc, .int .i64 gv], .int .i64 x] w fun e w' => ∃ g q l', e = .returned (.slice g l'.length q) ∧ OwnBs w' w.heap.size 49 66 g q l' ∧ l'.map PBox.box = rr ∧ Ext w w' := specBoxesAt_c b ba bc l la lc gv x w RL hll gl rr H
end Go.Proofs.YtjcnhkmhcfmoeaaGreat
