/-
  The indices of the commits that change a mailbox's contents: the program's function and the reference's.
-/
import Derived.Test.YtdigkaddmpdeoaaCSmall
import Derived.Test.YtdigkaddmpdeoaaFamStore
import Derived.IntWalk
namespace Go.Proofs.Ytdigkaddmpdeoaa
open Go.RowKit
set_option linter.unusedVariables false
set_option linter.unusedSimpArgs false

theorem info_int2 : (Try.prog.info? 3).map (fun i => (i.zero, i.size, i.bytes)) = some (some (.int .i64 0), 1, 8) := by kernel_rfl
def comB (m : DCommit) (v : Int) : Bool := (m.validity == v) && (decide (4 ≤ m.kind) && decide (m.kind ≤ 6))
def comAt (l : List DCommit) (v f : Int) (k : Nat) : Bool := decide (f ≤ (k : Int)) && (match l[k]? with | some m => comB m v | none => false)
def comTo (l : List DCommit) (v f : Int) : Nat → List Int
  | 0 => []
  | k + 1 => if comAt l v f k = true then comTo l v f k ++ [(k : Int)] else comTo l v f k
theorem comTo_hit (l : List DCommit) (v f : Int) (k : Nat) (h : comAt l v f k = true) : comTo l v f (k + 1) = comTo l v f k ++ [(k : Int)] := by simp [comTo, h]
theorem comTo_skip (l : List DCommit) (v f : Int) (k : Nat) (h : comAt l v f k = false) : comTo l v f (k + 1) = comTo l v f k := by simp [comTo, h]
theorem comTo_len (l : List DCommit) (v f : Int) : ∀ k, (comTo l v f k).length ≤ k
  | 0 => by simp [comTo]
  | k + 1 => by
    have := comTo_len l v f k
    unfold comTo
    split
    · simp; omega
    · omega
theorem comAt_eq (l : List DCommit) (v f : Int) (k : Nat) (hk : k < l.length) : comAt l v f k = (decide (f ≤ (k : Int)) && comB l[k] v) := by simp [comAt, hk]
theorem comTo_below (l : List DCommit) (v f : Int) : ∀ k : Nat, (k : Int) ≤ f → comTo l v f k = []
  | 0, _ => rfl
  | k + 1, h => by
    have h1 : comAt l v f k = false := by
      unfold comAt
      rw [decide_eq_false (by omega)]; rfl
    rw [comTo_skip l v f k h1]
    exact comTo_below l v f k (by omega)
def ComRel (E : Nat) (out : Nat → List Int) (N : Nat) (W : World) (v i : Value) (wr : World) : Prop :=
  ∃ (k : Nat) (g : Option Addr) (q : Nat), k ≤ N ∧ i = .int .i64 k ∧ v = .slice g (out k).length q ∧ Hid (Own wr W.heap.size E 1 (.slice g (out k).length q) (out k).length ((out k).flatMap intCells)) ∧ Below W.heap.size W wr
theorem ComRel.hit {E N k q : Nat} {g : Option Addr} {l : List DCommit} {vv f : Int} {W w2 : World} (hk : k < N) (hc : comAt l vv f k = true) (h : Own w2 W.heap.size E 1 (.slice g ((comTo l vv f k).length + 1) q) ((comTo l vv f k).length + 1) ((comTo l vv f k).flatMap intCells ++ [.int .i64 (k : Int)])) (hb : Below W.heap.size W w2) :
    ComRel E (comTo l vv f) N W (.slice g ((comTo l vv f k).length + 1) q) (.int .i64 ((k : Int) + 1)) w2 := by
  have e := comTo_hit l vv f k hc
  have e2 : (comTo l vv f (k + 1)).length = (comTo l vv f k).length + 1 := by simp [e]
  refine ⟨k + 1, g, q, hk, by simp, by rw [e2], ?_, hb⟩
  unfold Hid
  rw [e2, e, List.flatMap_append]
  simpa [intCells] using h
theorem ComRel.skip {E N k q : Nat} {g : Option Addr} {l : List DCommit} {vv f : Int} {W w2 : World} (hk : k < N) (hc : comAt l vv f k = false) (h : Own w2 W.heap.size E 1 (.slice g (comTo l vv f k).length q) (comTo l vv f k).length ((comTo l vv f k).flatMap intCells)) (hb : Below W.heap.size W w2) :
    ComRel E (comTo l vv f) N W (.slice g (comTo l vv f k).length q) (.int .i64 ((k : Int) + 1)) w2 := by
  have e := comTo_skip l vv f k hc
  exact ⟨k + 1, g, q, hk, by simp, by rw [e], by unfold Hid; rw [e]; exact h, hb⟩
set_option maxHeartbeats 1000000 in
theorem isContent_any (m : DCommit) (v : Int) (w : World) :
    Calls Try.prog 49 #[.agg #[.int .i64 m.kind, .int .i64 m.validity, .int .i64 m.uid, .int .i64 m.flags, .string m.name, .string m.text], .int .i64 v] w fun e w' => e = .returned (.bool (comB m v)) ∧ Ext w w' := by
  by_cases hv : m.validity = v
  · have h1 : (m.validity == v) = true := beq_iff_eq.2 hv
    clear hv
    go_enter Try.func49, Try.ntmps49
    go_wp2_with ((go_at_call 80; refine (within_dec _ _ _ _).mono ?_; rintro e w1 ⟨rfl, rfl⟩))
    go_ret
    exact ⟨by simp [comB, h1], by repeat' (first | with_reducible exact Below.refl _ _ | with_reducible assumption | with_reducible refine Below.alloc ?_ ?_ _ | with_reducible refine Below.setCell ?_ ?_ _ | with_reducible refine Below.drew ?_ | with_reducible refine Below.drewN ?_ _ | with_reducible refine Below.ext ?_ (by assumption) | (simp <;> omega) | omega)⟩
  · have h1 : (m.validity == v) = false := beq_eq_false_iff_ne.2 hv
    clear hv
    go_enter Try.func49, Try.ntmps49
    go_wp2_with fail
    go_ret
    exact ⟨by simp [comB, h1], by repeat' (first | with_reducible exact Below.refl _ _ | with_reducible assumption | with_reducible refine Below.alloc ?_ ?_ _ | with_reducible refine Below.setCell ?_ ?_ _ | with_reducible refine Below.drew ?_ | with_reducible refine Below.drewN ?_ _ | with_reducible refine Below.ext ?_ (by assumption) | (simp <;> omega) | omega)⟩

set_option maxRecDepth 100000 in
set_option maxHeartbeats 4000000 in
theorem implCommits_c (ba : Option Addr) (bn bc : Nat) (l : List DCommit) (a : Option Addr) (c : Nat) (g0 v f : Int) (w : World) (R : Rd w a c 6 l.length (l.flatMap DCommit.cells)) (hl : l.length ≤ 1048576) :
    Calls Try.prog 16 #[.agg #[.slice ba bn bc, .slice a l.length c, .int .i64 g0], .int .i64 v, .int .i64 f] w fun e w' => ∃ g q, e = .returned (.slice g (comTo l v f l.length).length q) ∧ Own w' w.heap.size 3 1 (.slice g (comTo l v f l.length).length q) (comTo l v f l.length).length ((comTo l v f l.length).flatMap intCells) ∧ Ext w w' := by
  obtain ⟨i0, hi0, hz0, hz1, hz2⟩ := info_parts info_int2
  have HR := Lib.hid R
  clear R
  go_enter Try.func16, Try.ntmps16
  go_wp2_with fail
  go_loopw [7, 14] (ComRel 3 (comTo l v f) l.length (w.alloc (.cells #[.slice ba bn bc, .slice a l.length c, .int .i64 g0] 31))) (fun _ i _ => l.length - (intOf i).toNat)
  case atStart => exact ⟨0, some ⟨w.heap.size + 1, 0, none⟩, 0, Nat.zero_le _, rfl, rfl, Own.none0 _, (Below.refl _ _).alloc (by simp) _⟩
  case round =>
    obtain ⟨k, g, q, hk, rfl, rfl, HO, hb⟩ := hrel
    rw [heap_alloc_size] at HO hb
    have hlen := comTo_len l v f k
    have hbs : w.heap.size + 1 ≤ wr.heap.size := by (have := hb.size; simpa using this)
    have hw0 : Below w.heap.size w wr := Below.extB ((Below.refl _ _).alloc (Nat.le_refl _) _) hb (by omega)
    have c0 : wr.cell? ⟨w.heap.size, 0, none⟩ = some (.slice ba bn bc) := (hb.cell (p := ⟨w.heap.size, 0, none⟩) (by simp)).trans (by simp [go_sem])
    have c1 : wr.cell? ⟨w.heap.size, 1, none⟩ = some (.slice a l.length c) := (hb.cell (p := ⟨w.heap.size, 1, none⟩) (by simp)).trans (by simp [go_sem])
    have c2 : wr.cell? ⟨w.heap.size, 2, none⟩ = some (.int .i64 g0) := (hb.cell (p := ⟨w.heap.size, 2, none⟩) (by simp)).trans (by simp [go_sem])
    have sw0 : w.heap.size < wr.heap.size := by omega
    by_cases hlt : k < l.length
    rotate_left
    · obtain rfl : k = l.length := by omega
      go_wp2_with fail
      go_ret
      exact ⟨g, q, rfl, HO.out.le (by omega), hw0⟩
    · obtain ⟨b, o, rfl, hbb, hat⟩ := HR.out.ptr (by omega)
      obtain ⟨x0, x1, x2, x3, x4, x5⟩ := DCommit.at (hat.ext hbb hw0) k hlt
      have HA := Lib.hid hat
      have hbw : b < wr.heap.size := by omega
      have hbw1 : b < wr.heap.size + 1 := by omega
      clear hat
      by_cases hf : f ≤ (k : Int)
      · have hf1 : decide (f ≤ (k : Int)) = true := decide_eq_true hf
        clear hf
        go_wp2_with fail
        refine (isContent_any l[k] v _).mono ?_
        rintro e w1 ⟨rfl, hb1⟩
        have hzz : wr.heap.size ≤ w1.heap.size := by (have h9 := hb1.size; simp at h9; omega)
        cases hd : comB l[k] v with
        | false =>
          have HC : Hid (comAt l v f k = false) := by (unfold Hid; rw [comAt_eq l v f k hlt, hf1, hd]; rfl)
          go_wp2_with fail
          go_roundw
          case rel => exact ComRel.skip hlt HC.out (by rw [heap_alloc_size]; exact (by repeat' (first | with_reducible exact HO.out | with_reducible refine Own.set_below ?_ (by first | (simp; done) | (simp; omega) | omega) _ | with_reducible refine Own.alloc1 ?_ _ | with_reducible refine Own.drew1 ?_ | with_reducible refine Own.drewN1 ?_ | with_reducible refine Own.ext ?_ (by assumption)))) (by rw [heap_alloc_size]; repeat' (first | with_reducible assumption | with_reducible refine Below.alloc ?_ (by first | omega | (simp; omega)) _ | with_reducible refine Below.setCell ?_ (by first | omega | (simp; omega)) _ | with_reducible refine Below.extB ?_ (by assumption) (by first | omega | (simp; omega))))
          case measure => simp [intOf]; omega
        | true =>
          have HC : Hid (comAt l v f k = true) := by (unfold Hid; rw [comAt_eq l v f k hlt, hf1, hd]; rfl)
          go_wp2_with (go_loud (at_builtin; refine wpList_app (B := w.heap.size + 1) (v := .slice g (comTo l v f k).length q) (n := (comTo l v f k).length) (xs := (comTo l v f k).flatMap intCells) (s := 1) rfl _ _ _ rfl 3 i0 _ _ Try.underlying34 hi0 hz0 hz1 hz2 rfl (by decide) rfl (by repeat' (first | with_reducible exact HO.out | with_reducible refine Own.set_below ?_ (by first | (simp; done) | (simp; omega) | omega) _ | with_reducible refine Own.alloc1 ?_ _ | with_reducible refine Own.drew1 ?_ | with_reducible refine Own.drewN1 ?_ | with_reducible refine Own.ext ?_ (by assumption))) (some ⟨w1.heap.size, 0, none⟩) 1 1 [.int .i64 (k : Int)] rfl (Rd.lit _ _ _ 1 1 _ (by first | rfl | simp) rfl (by omega)) (by simp [Value.oneCell']) (by omega) (by omega) (by first | (simp; done) | (simp; omega) | omega) ?_; intro g2 q2 w2 hown hg; have hb2 : Below (w.heap.size + 1) (w.alloc (.cells #[.slice ba bn bc, .slice (some ⟨b, o, none⟩) l.length c, .int .i64 g0] 31)) w2 := below_foot (show Below (w.heap.size + 1) (w.alloc (.cells #[.slice ba bn bc, .slice (some ⟨b, o, none⟩) l.length c, .int .i64 g0] 31)) _ from by (repeat' (first | with_reducible assumption | with_reducible refine Below.alloc ?_ (by first | omega | (simp; omega)) _ | with_reducible refine Below.setCell ?_ (by first | omega | (simp; omega)) _ | with_reducible refine Below.extB ?_ (by assumption) (by first | omega | (simp; omega))))) (show Own _ (w.heap.size + 1) 3 1 (.slice g (comTo l v f k).length q) (comTo l v f k).length ((comTo l v f k).flatMap intCells) from (by repeat' (first | with_reducible exact HO.out | with_reducible refine Own.set_below ?_ (by first | (simp; done) | (simp; omega) | omega) _ | with_reducible refine Own.alloc1 ?_ _ | with_reducible refine Own.drew1 ?_ | with_reducible refine Own.drewN1 ?_ | with_reducible refine Own.ext ?_ (by assumption)))) (Nat.le_refl _) (by first | omega | (simp; omega)) hg; have HN := Lib.hid hown; clear hown hg))
          go_roundw
          case rel => exact ComRel.hit hlt HC.out (by rw [heap_alloc_size]; exact HN.out) (by rw [heap_alloc_size]; exact hb2)
          case measure => simp [intOf]; omega
      · have hf1 : decide (f ≤ (k : Int)) = false := decide_eq_false hf
        have HC : Hid (comAt l v f k = false) := by (unfold Hid; rw [comAt_eq l v f k hlt, hf1]; rfl)
        clear hf
        go_wp2_with fail
        go_roundw
        case rel => exact ComRel.skip hlt HC.out (by rw [heap_alloc_size]; exact (by repeat' (first | with_reducible exact HO.out | with_reducible refine Own.set_below ?_ (by first | (simp; done) | (simp; omega) | omega) _ | with_reducible refine Own.alloc1 ?_ _ | with_reducible refine Own.drew1 ?_ | with_reducible refine Own.drewN1 ?_ | with_reducible refine Own.ext ?_ (by assumption)))) (by rw [heap_alloc_size]; repeat' (first | with_reducible assumption | with_reducible refine Below.alloc ?_ (by first | omega | (simp; omega)) _ | with_reducible refine Below.setCell ?_ (by first | omega | (simp; omega)) _ | with_reducible refine Below.extB ?_ (by assumption) (by first | omega | (simp; omega))))
        case measure => simp [intOf]; omega

set_option maxHeartbeats 1000000 in
theorem l1Max_any (x y r : Int) (w : World) (Hr : Hid ((if y < x then x else y) = r)) :
    Calls Try.prog 47 #[.int .i64 x, .int .i64 y] w fun e w' => e = .returned (.int .i64 r) ∧ w' = w := by
  by_cases h : y < x
  · have h1 : decide (y < x) = true := decide_eq_true h
    go_enter Try.func47, Try.ntmps47
    go_wp2
    go_ret
    exact ⟨ret_int (by rw [← Hr.out, if_pos h]), rfl⟩
  · have h1 : decide (y < x) = false := decide_eq_false h
    go_enter Try.func47, Try.ntmps47
    go_wp2
    go_ret
    exact ⟨ret_int (by rw [← Hr.out, if_neg (by omega)]), rfl⟩

set_option maxRecDepth 100000 in
set_option maxHeartbeats 4000000 in
theorem specCommits_c (ba : Option Addr) (bn bc : Nat) (l : List DCommit) (a : Option Addr) (c : Nat) (g0 v f : Int) (w : World) (R : Rd w a c 6 l.length (l.flatMap DCommit.cells)) (hl : l.length ≤ 1048576) :
    Calls Try.prog 15 #[.agg #[.slice ba bn bc, .slice a l.length c, .int .i64 g0], .int .i64 v, .int .i64 f] w fun e w' => ∃ g q, e = .returned (.slice g (comTo l v f l.length).length q) ∧ Own w' w.heap.size 3 1 (.slice g (comTo l v f l.length).length q) (comTo l v f l.length).length ((comTo l v f l.length).flatMap intCells) ∧ Ext w w' := by
  obtain ⟨i0, hi0, hz0, hz1, hz2⟩ := info_parts info_int2
  have HR := Lib.hid R
  clear R
  obtain ⟨K0, hK0⟩ : ∃ n : Nat, f.toNat = n := ⟨_, rfl⟩
  have HZ : Hid ((if f < 0 then (0 : Int) else f) = (K0 : Int)) := by (unfold Hid; split <;> omega)
  have HK0 := Lib.hid hK0
  clear hK0
  by_cases hov : l.length < K0
  · have h1 : decide ((K0 : Int) < (l.length : Int)) = false := decide_eq_false (by omega)
    have h1n : decide (K0 < l.length) = false := decide_eq_false (by omega)
    have hE := comTo_below l v f l.length (by have := HK0.out; omega)
    have HE := Lib.hid hE
    clear hE hov
    go_enter Try.func15, Try.ntmps15
    go_wp2_with (go_at_call 47; refine (l1Max_any _ _ _ _ HZ).mono ?_; rintro e wm ⟨rfl, hwm⟩; subst wm)
    go_loopw [7, 8] (fun vv i wr => vv = .slice (some ⟨w.heap.size + 1, 0, none⟩) 0 0 ∧ i = .int .i64 (K0 : Int) ∧ Below (w.heap.size + 1) (w.alloc (.cells #[.slice ba bn bc, .slice a l.length c, .int .i64 g0] 31)) wr) (fun _ i _ => 0)
    case atStart => exact ⟨rfl, rfl, (Below.refl _ _).alloc (by simp) _⟩
    case round =>
      obtain ⟨rfl, rfl, hb⟩ := hrel
      have hw0 : Below w.heap.size w wr := Below.extB ((Below.refl _ _).alloc (Nat.le_refl _) _) hb (by omega)
      have c0 : wr.cell? ⟨w.heap.size, 0, none⟩ = some (.slice ba bn bc) := (hb.cell (p := ⟨w.heap.size, 0, none⟩) (by simp)).trans (by simp [go_sem])
      have c1 : wr.cell? ⟨w.heap.size, 1, none⟩ = some (.slice a l.length c) := (hb.cell (p := ⟨w.heap.size, 1, none⟩) (by simp)).trans (by simp [go_sem])
      have c2 : wr.cell? ⟨w.heap.size, 2, none⟩ = some (.int .i64 g0) := (hb.cell (p := ⟨w.heap.size, 2, none⟩) (by simp)).trans (by simp [go_sem])
      have hs0 : w.heap.size + 1 ≤ wr.heap.size := by (have := hb.size; simpa using this)
      have sw0 : w.heap.size < wr.heap.size := by omega
      go_wp2_with fail
      go_ret
      rw [HE.out]
      exact ⟨_, _, rfl, Own.none0 _, hw0⟩
  have hz0' := HZ.out
  go_enter Try.func15, Try.ntmps15
  go_wp2_with (go_at_call 47; refine (l1Max_any _ _ _ _ HZ).mono ?_; rintro e wm ⟨rfl, hwm⟩; subst wm)
  go_loopw [7, 8] (fun vv i wr => ComRel 3 (comTo l v f) l.length (w.alloc (.cells #[.slice ba bn bc, .slice a l.length c, .int .i64 g0] 31)) vv i wr ∧ ∃ k : Nat, i = .int .i64 k ∧ f ≤ (k : Int)) (fun _ i _ => l.length - (intOf i).toNat)
  case atStart =>
    have hk0 := HK0.out
    refine ⟨⟨K0, some ⟨w.heap.size + 1, 0, none⟩, 0, by omega, rfl, ?_, ?_, (Below.refl _ _).alloc (by simp) _⟩, K0, rfl, by omega⟩
    · by_cases h0 : f ≤ 0
      · rw [show K0 = 0 from by omega]; rfl
      · rw [comTo_below l v f K0 (by omega)]; rfl
    · by_cases h0 : f ≤ 0
      · rw [show K0 = 0 from by omega]; exact Own.none0 _
      · rw [comTo_below l v f K0 (by omega)]; exact Own.none0 _
  case round =>
    obtain ⟨⟨k, g, q, hk, rfl, rfl, HO, hb⟩, k', hkk, hfk⟩ := hrel
    obtain rfl : k = k' := by (have h9 := hkk; simp at h9; omega)
    clear hkk
    rw [heap_alloc_size] at HO hb
    have hlen := comTo_len l v f k
    have hbs : w.heap.size + 1 ≤ wr.heap.size := by (have := hb.size; simpa using this)
    have hw0 : Below w.heap.size w wr := Below.extB ((Below.refl _ _).alloc (Nat.le_refl _) _) hb (by omega)
    have c0 : wr.cell? ⟨w.heap.size, 0, none⟩ = some (.slice ba bn bc) := (hb.cell (p := ⟨w.heap.size, 0, none⟩) (by simp)).trans (by simp [go_sem])
    have c1 : wr.cell? ⟨w.heap.size, 1, none⟩ = some (.slice a l.length c) := (hb.cell (p := ⟨w.heap.size, 1, none⟩) (by simp)).trans (by simp [go_sem])
    have c2 : wr.cell? ⟨w.heap.size, 2, none⟩ = some (.int .i64 g0) := (hb.cell (p := ⟨w.heap.size, 2, none⟩) (by simp)).trans (by simp [go_sem])
    have sw0 : w.heap.size < wr.heap.size := by omega
    by_cases hlt : k < l.length
    rotate_left
    · obtain rfl : k = l.length := by omega
      go_wp2_with fail
      go_ret
      exact ⟨g, q, rfl, HO.out.le (by omega), hw0⟩
    · obtain ⟨b, o, rfl, hbb, hat⟩ := HR.out.ptr (by omega)
      obtain ⟨x0, x1, x2, x3, x4, x5⟩ := DCommit.at (hat.ext hbb hw0) k hlt
      have HA := Lib.hid hat
      have hbw : b < wr.heap.size := by omega
      have hbw1 : b < wr.heap.size + 1 := by omega
      clear hat
      have hf1 : decide (f ≤ (k : Int)) = true := decide_eq_true hfk
      clear hfk
      by_cases hv : l[k].validity = v
      rotate_left
      · have h1 : (l[k].validity == v) = false := beq_eq_false_iff_ne.2 hv
        have HC : Hid (comAt l v f k = false) := by (unfold Hid; rw [comAt_eq l v f k hlt, hf1]; simp [comB, h1])
        have HF := Lib.hid (of_decide_eq_true hf1)
        clear hv
        go_wp2_with fail
        go_roundw
        case rel => exact ⟨ComRel.skip hlt HC.out (by rw [heap_alloc_size]; exact (by repeat' (first | with_reducible exact HO.out | with_reducible refine Own.set_below ?_ (by first | (simp; done) | (simp; omega) | omega) _ | with_reducible refine Own.alloc1 ?_ _ | with_reducible refine Own.drew1 ?_ | with_reducible refine Own.drewN1 ?_ | with_reducible refine Own.ext ?_ (by assumption)))) (by rw [heap_alloc_size]; repeat' (first | with_reducible assumption | with_reducible refine Below.alloc ?_ (by first | omega | (simp; omega)) _ | with_reducible refine Below.setCell ?_ (by first | omega | (simp; omega)) _ | with_reducible refine Below.extB ?_ (by assumption) (by first | omega | (simp; omega)))), k + 1, by go_num, by (have := HF.out; omega)⟩
        case measure => simp [intOf]; omega
      have h1 : (l[k].validity == v) = true := beq_iff_eq.2 hv
      clear hv
      have HF := Lib.hid (of_decide_eq_true hf1)
      obtain ⟨d, hd⟩ : ∃ d, (decide (4 ≤ l[k].kind) && decide (l[k].kind ≤ 6)) = d := ⟨_, rfl⟩
      have HCD : Hid (comAt l v f k = d) := by (unfold Hid; rw [comAt_eq l v f k hlt, hf1]; simp [comB, h1, ← hd])
      have HD := Lib.hid hd
      clear hd
      cases d with
      | false =>
        go_wp2_with fail
        refine (l1In_dec _ _ _ _).mono ?_
        rintro e wm ⟨rfl, hwm⟩
        subst wm
        rw [HD.out]
        go_wp2_with fail
        go_roundw
        case rel => exact ⟨ComRel.skip hlt HCD.out (by rw [heap_alloc_size]; exact (by repeat' (first | with_reducible exact HO.out | with_reducible refine Own.set_below ?_ (by first | (simp; done) | (simp; omega) | omega) _ | with_reducible refine Own.alloc1 ?_ _ | with_reducible refine Own.drew1 ?_ | with_reducible refine Own.drewN1 ?_ | with_reducible refine Own.ext ?_ (by assumption)))) (by rw [heap_alloc_size]; repeat' (first | with_reducible assumption | with_reducible refine Below.alloc ?_ (by first | omega | (simp; omega)) _ | with_reducible refine Below.setCell ?_ (by first | omega | (simp; omega)) _ | with_reducible refine Below.extB ?_ (by assumption) (by first | omega | (simp; omega)))), k + 1, by go_num, by (have := HF.out; omega)⟩
        case measure => simp [intOf]; omega
      | true =>
        go_wp2_with fail
        refine (l1In_dec _ _ _ _).mono ?_
        rintro e wm ⟨rfl, hwm⟩
        subst wm
        rw [HD.out]
        go_wp2_with (go_loud (at_builtin; refine wpList_app (B := w.heap.size + 1) (v := .slice g (comTo l v f k).length q) (n := (comTo l v f k).length) (xs := (comTo l v f k).flatMap intCells) (s := 1) rfl _ _ _ rfl 3 i0 _ _ Try.underlying34 hi0 hz0 hz1 hz2 rfl (by decide) rfl (by repeat' (first | with_reducible exact HO.out | with_reducible refine Own.set_below ?_ (by first | (simp; done) | (simp; omega) | omega) _ | with_reducible refine Own.alloc1 ?_ _ | with_reducible refine Own.drew1 ?_ | with_reducible refine Own.drewN1 ?_ | with_reducible refine Own.ext ?_ (by assumption))) (some ⟨wr.heap.size, 0, none⟩) 1 1 [.int .i64 (k : Int)] rfl (Rd.lit _ _ _ 1 1 _ (by first | rfl | simp) rfl (by omega)) (by simp [Value.oneCell']) (by omega) (by omega) (by first | (simp; done) | (simp; omega) | omega) ?_; intro g2 q2 w2 hown hg; have hb2 : Below (w.heap.size + 1) (w.alloc (.cells #[.slice ba bn bc, .slice (some ⟨b, o, none⟩) l.length c, .int .i64 g0] 31)) w2 := below_foot (show Below (w.heap.size + 1) (w.alloc (.cells #[.slice ba bn bc, .slice (some ⟨b, o, none⟩) l.length c, .int .i64 g0] 31)) _ from by (repeat' (first | with_reducible assumption | with_reducible refine Below.alloc ?_ (by first | omega | (simp; omega)) _ | with_reducible refine Below.setCell ?_ (by first | omega | (simp; omega)) _ | with_reducible refine Below.extB ?_ (by assumption) (by first | omega | (simp; omega))))) (show Own _ (w.heap.size + 1) 3 1 (.slice g (comTo l v f k).length q) (comTo l v f k).length ((comTo l v f k).flatMap intCells) from (by repeat' (first | with_reducible exact HO.out | with_reducible refine Own.set_below ?_ (by first | (simp; done) | (simp; omega) | omega) _ | with_reducible refine Own.alloc1 ?_ _ | with_reducible refine Own.drew1 ?_ | with_reducible refine Own.drewN1 ?_ | with_reducible refine Own.ext ?_ (by assumption)))) (Nat.le_refl _) (by first | omega | (simp; omega)) hg; have HN := Lib.hid hown; clear hown hg))
        go_roundw
        case rel => exact ⟨ComRel.hit hlt HCD.out (by rw [heap_alloc_size]; exact HN.out) (by rw [heap_alloc_size]; exact hb2), k + 1, by go_num, by (have := HF.out; omega)⟩
        case measure => simp [intOf]; omega

theorem implCommitsOf_any (xb : List PBox) (xbA : Option Addr) (xbC : Nat) (l : List DCommit) (a : Option Addr) (c : Nat) (g0 v f : Int) (w : World) (RB : Rd w xbA xbC 4 xb.length (xb.flatMap PBox.cells)) (RM : RdM w xb) (R : Rd w a c 6 l.length (l.flatMap DCommit.cells)) (hl : l.length ≤ 1048576) (rr : List Int) (Hrr : Hid (comTo l v f l.length = rr)) :
    Calls Try.prog 16 #[.agg #[.slice xbA xb.length xbC, .slice a l.length c, .int .i64 g0], .int .i64 v, .int .i64 f] w fun e w' => ∃ g q, e = .returned (.slice g rr.length q) ∧ Own w' w.heap.size 3 1 (.slice g rr.length q) rr.length (rr.flatMap intCells) ∧ Ext w w' := by
  obtain rfl := Hrr.out
  exact implCommits_c xbA xb.length xbC l a c g0 v f w R hl

theorem specCommitsOf_any (xb : List PBox) (xbA : Option Addr) (xbC : Nat) (l : List DCommit) (a : Option Addr) (c : Nat) (g0 v f : Int) (w : World) (RB : Rd w xbA xbC 4 xb.length (xb.flatMap PBox.cells)) (RM : RdM w xb) (R : Rd w a c 6 l.length (l.flatMap DCommit.cells)) (hl : l.length ≤ 1048576) (rr : List Int) (Hrr : Hid (comTo l v f l.length = rr)) :
    Calls Try.prog 15 #[.agg #[.slice xbA xb.length xbC, .slice a l.length c, .int .i64 g0], .int .i64 v, .int .i64 f] w fun e w' => ∃ g q, e = .returned (.slice g rr.length q) ∧ Own w' w.heap.size 3 1 (.slice g rr.length q) rr.length (rr.flatMap intCells) ∧ Ext w w' := by
  obtain rfl := Hrr.out
  exact specCommits_c xbA xb.length xbC l a c g0 v f w R hl
end Go.Proofs.Ytdigkaddmpdeoaa
