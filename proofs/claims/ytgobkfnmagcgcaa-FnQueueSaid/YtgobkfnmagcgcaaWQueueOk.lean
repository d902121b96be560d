/-
  What a valid queue is: the program's function and the reference's.
-/
import Derived.Test.YtgobkfnmagcgcaaWNoteOk
import Derived.Test.YtgobkfnmagcgcaaFamQueue
import Derived.Test.YtgobkfnmagcgcaaXOwn
import Derived.IntWalk
namespace Go.Proofs.Ytgobkfnmagcgcaa
open Go.RowKit
set_option linter.unusedVariables false
set_option linter.unusedSimpArgs false

theorem any_of_none {α : Type} {p : α → Bool} {l : List α} (h : NoneTo p l l.length) : l.any p = false := by
  rw [Bool.eq_false_iff]
  intro hh
  obtain ⟨x, hx, hp⟩ := List.any_eq_true.1 hh
  obtain ⟨i, hi, rfl⟩ := List.getElem_of_mem hx
  exact Bool.false_ne_true ((h i hi hi).symm.trans hp)
theorem any_of_hit {α : Type} {p : α → Bool} {l : List α} {k : Nat} (hk : k < l.length) (h : p l[k] = true) : l.any p = true := List.any_eq_true.2 ⟨_, List.getElem_mem hk, h⟩
theorem firstI_any {α : Type} (p : α → Bool) (l : List α) : decide (0 ≤ firstI p l) = l.any p := by
  unfold firstI
  cases h : l.findIdx? p with
  | none =>
    have := List.findIdx?_eq_none_iff.1 h
    have h2 : l.any p = false := by rw [Bool.eq_false_iff]; intro hh; obtain ⟨x, hx, hp⟩ := List.any_eq_true.1 hh; have := this x hx; simp_all
    rw [h2]; rfl
  | some i =>
    have h2 : l.any p = true := by
      obtain ⟨hi, hp, _⟩ := List.findIdx?_eq_some_iff_getElem.1 h
      exact any_of_hit hi hp
    rw [h2]; simp
/-- a box's note that is not below n -/
def boxIn (n : Int) (x : DNote) : Bool := (x.kind == 1) && decide (n ≤ x.n)
def statusIn (nm : ByteArray) (x : DNote) : Bool := (x.kind == 2) && decide (x.name = nm)
def lastBox (l : List DNote) : Int := l.foldl (fun m x => if x.kind = 1 then max m x.n else m) (-1)
theorem lastBox_go (l : List DNote) : ∀ m n : Int, n ≤ l.foldl (fun m x => if x.kind = 1 then max m x.n else m) m ↔ n ≤ m ∨ l.any (boxIn n) = true := by
  induction l with
  | nil => intro m n; simp
  | cons x l ih =>
    intro m n
    rw [List.foldl_cons, ih, List.any_cons]
    by_cases h : x.kind = 1
    · rw [if_pos h]; simp only [boxIn, h, beq_self_eq_true, Bool.true_and, Bool.or_eq_true, decide_eq_true_eq]; rw [show (n ≤ max m x.n ↔ n ≤ m ∨ n ≤ x.n) from by omega, or_assoc]
    · rw [if_neg h]; simp [boxIn, h]
theorem lastBox_le (l : List DNote) (n : Int) (h : 0 ≤ n) : decide (n ≤ lastBox l) = l.any (boxIn n) := by
  have := lastBox_go l (-1) n
  unfold lastBox
  cases hb : l.any (boxIn n) with
  | true => exact decide_eq_true (this.2 (Or.inr hb))
  | false => exact decide_eq_false (fun hh => by rcases this.1 hh with h2 | h2; omega; rw [hb] at h2; cases h2)
theorem lastBox_ge (l : List DNote) : -1 ≤ lastBox l := (lastBox_go l (-1) (-1)).2 (Or.inl (by omega))
theorem lastBox_succ (l : List DNote) (k : Nat) (hk : k < l.length) : lastBox (l.take (k + 1)) = if l[k].kind = 1 then max (lastBox (l.take k)) l[k].n else lastBox (l.take k) := by
  unfold lastBox
  rw [List.take_succ_eq_append_getElem hk, List.foldl_append]; rfl

theorem isBoxNote_any (x : DNote) (w : World) (r : Bool) (Hr : Hid ((x.kind == 1) = r)) :
    Calls Try.prog 60 #[.agg #[.int .i64 x.kind, .int .i64 x.n, .int .i64 x.uid, .string x.name]] w fun e w' => e = .returned (.bool r) ∧ Ext w w' := by
  go_enter Try.func60, Try.ntmps60
  go_wp2
  go_ret
  exact ⟨ret_bool Hr.out, bxt⟩
theorem isOtherNote_any (x : DNote) (w : World) (r : Bool) (Hr : Hid ((x.kind != 1) = r)) :
    Calls Try.prog 62 #[.agg #[.int .i64 x.kind, .int .i64 x.n, .int .i64 x.uid, .string x.name]] w fun e w' => e = .returned (.bool r) ∧ Ext w w' := by
  go_enter Try.func62, Try.ntmps62
  go_wp2
  go_ret
  exact ⟨ret_bool Hr.out, bxt⟩
set_option maxHeartbeats 4000000 in
theorem l16Above_any (l : List DNote) (a : Option Addr) (c : Nat) (rb rc : Bool) (n : Int) (w : World) (R : Rd w a c 4 l.length (l.flatMap DNote.cells)) (r : Bool) (Hr : Hid (l.any (boxIn n) = !r)) :
    Calls Try.prog 57 #[.agg #[.slice a l.length c, .bool rb, .bool rc], .int .i64 n] w fun e w' => e = .returned (.bool r) ∧ Ext w w' := by
  have hl : l.length ≤ 9223372036854775807 := Nat.le_trans R.nc R.cm
  have HR := Lib.hid R
  clear R
  go_enter Try.func57, Try.ntmps57
  go_wp2_with fail
  go_loopw [5] (fun i wr => ∃ k : Nat, k ≤ l.length ∧ i = .int .i64 k ∧ Hid (NoneTo (boxIn n) l k) ∧ Ext (w.alloc (.cells #[.slice a l.length c, .bool rb, .bool rc] 34)) wr) (fun i _ => l.length - (intOf i).toNat)
  case atStart => exact ⟨0, Nat.zero_le _, rfl, NoneTo.zero, Below.refl _ _⟩
  case round =>
    obtain ⟨k, hk, rfl, HP, hbe⟩ := hrel
    by_cases hlt : k < l.length
    · obtain ⟨b, o, rfl, hb, hat⟩ := HR.out.ptr (by omega)
      have c0 : wr.cell? ⟨w.heap.size, 0, none⟩ = some (.slice (some ⟨b, o, none⟩) l.length c) := (hbe.cell (p := ⟨w.heap.size, 0, none⟩) (by simp)).trans (by simp [go_sem])
      have c1 : wr.cell? ⟨w.heap.size, 1, none⟩ = some (.bool rb) := (hbe.cell (p := ⟨w.heap.size, 1, none⟩) (by simp)).trans (by simp [go_sem])
      have c2 : wr.cell? ⟨w.heap.size, 2, none⟩ = some (.bool rc) := (hbe.cell (p := ⟨w.heap.size, 2, none⟩) (by simp)).trans (by simp [go_sem])
      have hws : w.heap.size < wr.heap.size := by (have hss := hbe.size; simp at hss; omega)
      have hbw : Ext w wr := bxt
      obtain ⟨hx0, hx1, hx2, hx3⟩ := DNote.at (hat.ext hb hbw) k hlt
      have HA := Lib.hid hat
      clear hat
      have hbr : b < wr.heap.size := by omega
      have hk1 : (k : Int) < (l.length : Int) := by omega
      by_cases hbx : l[k].kind = 1
      · have e1 : (l[k].kind == 1) = true := by simp [hbx]
        by_cases hn : n ≤ l[k].n
        · have e2 : decide (n ≤ l[k].n) = true := decide_eq_true hn
          have HX : Hid (boxIn n l[k] = true) := by simp [Hid, boxIn, hbx, hn]
          clear hbx hn
          go_wp2_with fail
          go_ret
          refine ⟨ret_bool ?_, bxt⟩
          have := Hr.out; rw [any_of_hit hlt HX.out] at this; simpa using this
        · have e2 : decide (n ≤ l[k].n) = false := decide_eq_false hn
          have HX : Hid (boxIn n l[k] = false) := by simp [Hid, boxIn]; omega
          clear hbx hn
          go_wp2_with fail
          go_roundw
          case rel => exact ⟨k + 1, by omega, by go_num, NoneTo.succ HP.out hlt HX.out, bxt⟩
          case measure => simp [intOf]; omega
      · have e1 : (l[k].kind == 1) = false := by simp [hbx]
        have HX : Hid (boxIn n l[k] = false) := by simp [Hid, boxIn, hbx]
        clear hbx
        go_wp2_with fail
        go_roundw
        case rel => exact ⟨k + 1, by omega, by go_num, NoneTo.succ HP.out hlt HX.out, bxt⟩
        case measure => simp [intOf]; omega
    · have HK : Hid (NoneTo (boxIn n) l l.length) := by (have := HP.out; have e : k = l.length := by omega); rw [e] at this; exact this
      have c0 : wr.cell? ⟨w.heap.size, 0, none⟩ = some (.slice a l.length c) := (hbe.cell (p := ⟨w.heap.size, 0, none⟩) (by simp)).trans (by simp [go_sem])
      have c1 : wr.cell? ⟨w.heap.size, 1, none⟩ = some (.bool rb) := (hbe.cell (p := ⟨w.heap.size, 1, none⟩) (by simp)).trans (by simp [go_sem])
      have c2 : wr.cell? ⟨w.heap.size, 2, none⟩ = some (.bool rc) := (hbe.cell (p := ⟨w.heap.size, 2, none⟩) (by simp)).trans (by simp [go_sem])
      have hws : w.heap.size < wr.heap.size := by (have hss := hbe.size; simp at hss; omega)
      go_wp2_with fail
      go_ret
      refine ⟨ret_bool ?_, bxt⟩
      have := Hr.out; rw [any_of_none HK.out] at this; simpa using this

theorem l16Above_of (l : List DNote) (a : Option Addr) (c : Nat) (rb rc : Bool) (n : Int) (m : Nat) (hm : l.length = m) (w : World) (R : Rd w a c 4 m (l.flatMap DNote.cells)) (r : Bool) (Hr : Hid (l.any (boxIn n) = !r)) :
    Calls Try.prog 57 #[.agg #[.slice a m c, .bool rb, .bool rc], .int .i64 n] w fun e w' => e = .returned (.bool r) ∧ Ext w w' := by
  subst hm
  exact l16Above_any l a c rb rc n w R r Hr
theorem str_eq (s t : ByteArray) : (s.toList == t.toList) = decide (s = t) := by
  rw [ByteArray.toList_eq, ByteArray.toList_eq]
  by_cases e : s = t
  · subst e; simp
  · rw [decide_eq_false e]
    apply beq_false_of_ne
    intro e2
    apply e
    exact WideShapes.bytes_inj e2
set_option maxHeartbeats 4000000 in
theorem l16Status_any (l : List DNote) (a : Option Addr) (c : Nat) (rb rc : Bool) (nm : ByteArray) (w : World) (R : Rd w a c 4 l.length (l.flatMap DNote.cells)) (r : Bool) (Hr : Hid (l.any (statusIn nm) = r)) :
    Calls Try.prog 59 #[.agg #[.slice a l.length c, .bool rb, .bool rc], .string nm] w fun e w' => e = .returned (.bool r) ∧ Ext w w' := by
  have hl : l.length ≤ 9223372036854775807 := Nat.le_trans R.nc R.cm
  have HR := Lib.hid R
  clear R
  go_enter Try.func59, Try.ntmps59
  go_wp2_with fail
  go_loopw [5] (fun i wr => ∃ k : Nat, k ≤ l.length ∧ i = .int .i64 k ∧ Hid (NoneTo (statusIn nm) l k) ∧ Ext (w.alloc (.cells #[.slice a l.length c, .bool rb, .bool rc] 34)) wr) (fun i _ => l.length - (intOf i).toNat)
  case atStart => exact ⟨0, Nat.zero_le _, rfl, NoneTo.zero, Below.refl _ _⟩
  case round =>
    obtain ⟨k, hk, rfl, HP, hbe⟩ := hrel
    by_cases hlt : k < l.length
    · obtain ⟨b, o, rfl, hb, hat⟩ := HR.out.ptr (by omega)
      have c0 : wr.cell? ⟨w.heap.size, 0, none⟩ = some (.slice (some ⟨b, o, none⟩) l.length c) := (hbe.cell (p := ⟨w.heap.size, 0, none⟩) (by simp)).trans (by simp [go_sem])
      have c1 : wr.cell? ⟨w.heap.size, 1, none⟩ = some (.bool rb) := (hbe.cell (p := ⟨w.heap.size, 1, none⟩) (by simp)).trans (by simp [go_sem])
      have c2 : wr.cell? ⟨w.heap.size, 2, none⟩ = some (.bool rc) := (hbe.cell (p := ⟨w.heap.size, 2, none⟩) (by simp)).trans (by simp [go_sem])
      have hws : w.heap.size < wr.heap.size := by (have hss := hbe.size; simp at hss; omega)
      have hbw : Ext w wr := bxt
      obtain ⟨hx0, hx1, hx2, hx3⟩ := DNote.at (hat.ext hb hbw) k hlt
      have HA := Lib.hid hat
      clear hat
      have hbr : b < wr.heap.size := by omega
      have hk1 : (k : Int) < (l.length : Int) := by omega
      by_cases hbx : l[k].kind = 2
      · have e1 : (l[k].kind == 2) = true := by simp [hbx]
        by_cases hn : l[k].name = nm
        · have e2 : (l[k].name.toList == nm.toList) = true := (str_eq _ _).trans (decide_eq_true hn)
          have HX : Hid (statusIn nm l[k] = true) := by simp [Hid, statusIn, hbx, hn]
          clear hbx hn
          go_wp2_with fail
          go_ret
          refine ⟨ret_bool ?_, bxt⟩
          have := Hr.out; rw [any_of_hit hlt HX.out] at this; simpa using this
        · have e2 : (l[k].name.toList == nm.toList) = false := (str_eq _ _).trans (decide_eq_false hn)
          have HX : Hid (statusIn nm l[k] = false) := by simp [Hid, statusIn, hn]
          clear hbx hn
          go_wp2_with fail
          go_roundw
          case rel => exact ⟨k + 1, by omega, by go_num, NoneTo.succ HP.out hlt HX.out, bxt⟩
          case measure => simp [intOf]; omega
      · have e1 : (l[k].kind == 2) = false := by simp [hbx]
        have HX : Hid (statusIn nm l[k] = false) := by simp [Hid, statusIn, hbx]
        clear hbx
        go_wp2_with fail
        go_roundw
        case rel => exact ⟨k + 1, by omega, by go_num, NoneTo.succ HP.out hlt HX.out, bxt⟩
        case measure => simp [intOf]; omega
    · have HK : Hid (NoneTo (statusIn nm) l l.length) := by (have := HP.out; have e : k = l.length := by omega); rw [e] at this; exact this
      have c0 : wr.cell? ⟨w.heap.size, 0, none⟩ = some (.slice a l.length c) := (hbe.cell (p := ⟨w.heap.size, 0, none⟩) (by simp)).trans (by simp [go_sem])
      have c1 : wr.cell? ⟨w.heap.size, 1, none⟩ = some (.bool rb) := (hbe.cell (p := ⟨w.heap.size, 1, none⟩) (by simp)).trans (by simp [go_sem])
      have c2 : wr.cell? ⟨w.heap.size, 2, none⟩ = some (.bool rc) := (hbe.cell (p := ⟨w.heap.size, 2, none⟩) (by simp)).trans (by simp [go_sem])
      have hws : w.heap.size < wr.heap.size := by (have hss := hbe.size; simp at hss; omega)
      go_wp2_with fail
      go_ret
      refine ⟨ret_bool ?_, bxt⟩
      have := Hr.out; rw [any_of_none HK.out] at this; simpa using this

theorem l16Status_of (l : List DNote) (a : Option Addr) (c : Nat) (rb rc : Bool) (nm : ByteArray) (m : Nat) (hm : l.length = m) (w : World) (R : Rd w a c 4 m (l.flatMap DNote.cells)) (r : Bool) (Hr : Hid (l.any (statusIn nm) = r)) :
    Calls Try.prog 59 #[.agg #[.slice a m c, .bool rb, .bool rc], .string nm] w fun e w' => e = .returned (.bool r) ∧ Ext w w' := by
  subst hm
  exact l16Status_any l a c rb rc nm w R r Hr
set_option maxHeartbeats 4000000 in
theorem lastBox_any (l : List DNote) (a : Option Addr) (c : Nat) (rb rc : Bool)  (w : World) (R : Rd w a c 4 l.length (l.flatMap DNote.cells)) (r : Int) (Hr : Hid (lastBox l = r)) :
    Calls Try.prog 61 #[.agg #[.slice a l.length c, .bool rb, .bool rc]] w fun e w' => e = .returned (.int .i64 r) ∧ Ext w w' := by
  have hl : l.length ≤ 9223372036854775807 := Nat.le_trans R.nc R.cm
  have HR := Lib.hid R
  clear R
  go_enter Try.func61, Try.ntmps61
  go_wp2_with fail
  go_loopw [3, 9] (fun m i wr => ∃ k : Nat, k ≤ l.length ∧ i = .int .i64 k ∧ m = .int .i64 (lastBox (l.take k)) ∧ Ext (w.alloc (.cells #[.slice a l.length c, .bool rb, .bool rc] 34)) wr) (fun m i _ => l.length - (intOf i).toNat)
  case atStart => exact ⟨0, Nat.zero_le _, rfl, by simp [lastBox], Below.refl _ _⟩
  case round =>
    obtain ⟨k, hk, rfl, rfl, hbe⟩ := hrel
    by_cases hlt : k < l.length
    · obtain ⟨b, o, rfl, hb, hat⟩ := HR.out.ptr (by omega)
      have c0 : wr.cell? ⟨w.heap.size, 0, none⟩ = some (.slice (some ⟨b, o, none⟩) l.length c) := (hbe.cell (p := ⟨w.heap.size, 0, none⟩) (by simp)).trans (by simp [go_sem])
      have c1 : wr.cell? ⟨w.heap.size, 1, none⟩ = some (.bool rb) := (hbe.cell (p := ⟨w.heap.size, 1, none⟩) (by simp)).trans (by simp [go_sem])
      have c2 : wr.cell? ⟨w.heap.size, 2, none⟩ = some (.bool rc) := (hbe.cell (p := ⟨w.heap.size, 2, none⟩) (by simp)).trans (by simp [go_sem])
      have hws : w.heap.size < wr.heap.size := by (have hss := hbe.size; simp at hss; omega)
      have hbw : Ext w wr := bxt
      obtain ⟨hx0, hx1, hx2, hx3⟩ := DNote.at (hat.ext hb hbw) k hlt
      have HA := Lib.hid hat
      clear hat
      have hbr : b < wr.heap.size := by omega
      have hk1 : (k : Int) < (l.length : Int) := by omega
      have HS := Lib.hid (lastBox_succ l k hlt)
      obtain ⟨m, hm⟩ : ∃ m, lastBox (l.take k) = m := ⟨_, rfl⟩
      rw [hm] at HS ⊢
      obtain ⟨d, hd⟩ : ∃ d, (l[k].kind == 1) = d := ⟨_, rfl⟩
      have HD := Lib.hid hd
      clear hd hm
      cases d
      all_goals go_wp2_with ((go_at_call 60; refine (isBoxNote_any l[k] _ _ HD).mono ?_; rintro e w1 ⟨rfl, hb1⟩; obtain ⟨hcb1, hfb1⟩ := bcell hb1; have hsz1 := hb1.size; (try simp at hsz1); have hsz2 : wr.heap.size < w1.heap.size := by omega))
      all_goals go_roundw
      all_goals first
        | (refine ⟨k + 1, by omega, by go_num, ?_, bxt⟩; first | (rw [HS.out, if_pos (by simpa using HD.out)]) | (rw [HS.out, if_neg (by simpa using HD.out)]))
        | (simp [intOf]; omega)
    · have e : k = l.length := by omega
      have HK : Hid (lastBox (l.take k) = r) := by (rw [e, List.take_length]); exact Hr
      have c0 : wr.cell? ⟨w.heap.size, 0, none⟩ = some (.slice a l.length c) := (hbe.cell (p := ⟨w.heap.size, 0, none⟩) (by simp)).trans (by simp [go_sem])
      have c1 : wr.cell? ⟨w.heap.size, 1, none⟩ = some (.bool rb) := (hbe.cell (p := ⟨w.heap.size, 1, none⟩) (by simp)).trans (by simp [go_sem])
      have c2 : wr.cell? ⟨w.heap.size, 2, none⟩ = some (.bool rc) := (hbe.cell (p := ⟨w.heap.size, 2, none⟩) (by simp)).trans (by simp [go_sem])
      have hws : w.heap.size < wr.heap.size := by (have hss := hbe.size; simp at hss; omega)
      go_wp2_with fail
      go_ret
      refine ⟨?_, bxt⟩
      rw [← HK.out]
      rfl

theorem lastBox_of (l : List DNote) (a : Option Addr) (c : Nat) (rb rc : Bool)  (m : Nat) (hm : l.length = m) (w : World) (R : Rd w a c 4 m (l.flatMap DNote.cells)) (r : Int) (Hr : Hid (lastBox l = r)) :
    Calls Try.prog 61 #[.agg #[.slice a m c, .bool rb, .bool rc]] w fun e w' => e = .returned (.int .i64 r) ∧ Ext w w' := by
  subst hm
  exact lastBox_any l a c rb rc  w R r Hr
set_option maxHeartbeats 4000000 in
theorem noteIndex_any (l : List DNote) (a : Option Addr) (c : Nat) (v : DNote) (w : World) (R : Rd w a c 4 l.length (l.flatMap DNote.cells)) (r : Int) (Hr : Hid (firstI (fun x => decide (v = x)) l = r)) :
    Calls Try.prog 99 #[.slice a l.length c, .agg #[.int .i64 v.kind, .int .i64 v.n, .int .i64 v.uid, .string v.name]] w fun e w' => e = .returned (.int .i64 r) ∧ Ext w w' := by
  have hl : l.length ≤ 9223372036854775807 := Nat.le_trans R.nc R.cm
  have HR := Lib.hid R
  clear R
  go_enter Try.func99, Try.ntmps99
  go_wp2_with fail
  go_loopw [8] (fun i wr => ∃ k : Nat, k ≤ l.length ∧ i = .int .i64 k ∧ Hid (NoneTo (fun x => decide (v = x)) l k) ∧ Ext (w.alloc (.cells #[.int .i64 v.kind, .int .i64 v.n, .int .i64 v.uid, .string v.name] 36)) wr) (fun i _ => l.length - (intOf i).toNat)
  case atStart => exact ⟨0, Nat.zero_le _, rfl, NoneTo.zero, Below.refl _ _⟩
  case round =>
    obtain ⟨k, hk, rfl, HP, hbe⟩ := hrel
    by_cases hlt : k < l.length
    · obtain ⟨b, o, rfl, hb, hat⟩ := HR.out.ptr (by omega)
      have c0 : wr.cell? ⟨w.heap.size, 0, none⟩ = some (.int .i64 v.kind) := (hbe.cell (p := ⟨w.heap.size, 0, none⟩) (by simp)).trans (by simp [go_sem])
      have c1 : wr.cell? ⟨w.heap.size, 1, none⟩ = some (.int .i64 v.n) := (hbe.cell (p := ⟨w.heap.size, 1, none⟩) (by simp)).trans (by simp [go_sem])
      have c2 : wr.cell? ⟨w.heap.size, 2, none⟩ = some (.int .i64 v.uid) := (hbe.cell (p := ⟨w.heap.size, 2, none⟩) (by simp)).trans (by simp [go_sem])
      have c3 : wr.cell? ⟨w.heap.size, 3, none⟩ = some (.string v.name) := (hbe.cell (p := ⟨w.heap.size, 3, none⟩) (by simp)).trans (by simp [go_sem])
      have hws : w.heap.size < wr.heap.size := by (have hss := hbe.size; simp at hss; omega)
      have hbw : Ext w wr := bxt
      obtain ⟨hx0, hx1, hx2, hx3⟩ := DNote.at (hat.ext hb hbw) k hlt
      have HA := Lib.hid hat
      clear hat
      have hbr : b < wr.heap.size := by omega
      have hk1 : (k : Int) < (l.length : Int) := by omega
      have hG := eqNoteG
      obtain ⟨d, hd⟩ : ∃ d, decide (v = l[k]) = d := ⟨_, rfl⟩
      have HD := Lib.hid hd
      have hq := fun w => eqNoteB v l[k] d hd w
      clear hd
      cases d
      · go_wp2_with fail
        go_quiet (fail)
        go_wp2_with fail
        go_roundw
        case rel => exact ⟨k + 1, by omega, by go_num, NoneTo.succ HP.out hlt HD.out, bxt⟩
        case measure => simp [intOf]; omega
      · go_wp2_with fail
        go_quiet (fail)
        go_wp2_with fail
        go_ret
        refine ⟨?_, bxt⟩
        have := Hr.out; rw [firstI_hit hlt HD.out (fun j hj hjk => HP.out j hj hjk)] at this; rw [← this]; rfl
    · have HK : Hid (NoneTo (fun x => decide (v = x)) l l.length) := by (have := HP.out; have e : k = l.length := by omega); rw [e] at this; exact this
      go_wp2_with fail
      go_ret
      refine ⟨?_, bxt⟩
      have := Hr.out; rw [firstI_miss (fun j hj => HK.out j hj hj)] at this; rw [← this]; rfl

theorem noteIndex_of (l : List DNote) (a : Option Addr) (c : Nat) (v : DNote) (m : Nat) (hm : l.length = m) (w : World) (R : Rd w a c 4 m (l.flatMap DNote.cells)) (r : Int) (Hr : Hid (firstI (fun x => decide (v = x)) l = r)) :
    Calls Try.prog 99 #[.slice a m c, .agg #[.int .i64 v.kind, .int .i64 v.n, .int .i64 v.uid, .string v.name]] w fun e w' => e = .returned (.int .i64 r) ∧ Ext w w' := by
  subst hm
  exact noteIndex_any l a c v w R r Hr
theorem noteContains_of (l : List DNote) (a : Option Addr) (c : Nat) (v : DNote) (m : Nat) (hm : l.length = m) (w : World) (R : Rd w a c 4 m (l.flatMap DNote.cells)) (r : Bool) (Hr : Hid (l.any (fun x => decide (v = x)) = r)) :
    Calls Try.prog 63 #[.slice a m c, .agg #[.int .i64 v.kind, .int .i64 v.n, .int .i64 v.uid, .string v.name]] w fun e w' => e = .returned (.bool r) ∧ Ext w w' := by
  have HR := Lib.hid R
  clear R
  obtain ⟨z, hz⟩ : ∃ z, firstI (fun x => decide (v = x)) l = z := ⟨_, rfl⟩
  have HZ := Lib.hid hz
  clear hz
  go_enter Try.func63, Try.ntmps63
  go_wp2_with ((go_at_call 99; refine (noteIndex_of l a c v m hm _ (HR.out.ext bxt) z HZ).mono ?_; rintro e w1 ⟨rfl, hb1⟩))
  go_ret
  refine ⟨ret_bool ?_, bxt⟩
  rw [← Hr.out, ← HZ.out]
  exact firstI_any _ _
def NoteAt (rb rc : Bool) (l : List DNote) (i : Nat) : Prop := ∃ h : i < l.length, NoteP l[i] ∧ (l[i].kind = 1 → rb = false ∧ (l.take i).any (boxIn l[i].n) = false) ∧ (l[i].kind ≠ 1 → rc = false) ∧ (l[i].kind = 2 → (l.take i).any (statusIn l[i].name) = false)
def QueueP (l : List DNote) (rb rc : Bool) : Prop := (∀ i, i < l.length → NoteAt rb rc l i) ∧ l.length ≤ 6
theorem any_same {α : Type} {p q : α → Bool} {l : List α} (h : ∀ x ∈ l, p x = q x) : l.any p = l.any q := by
  induction l with
  | nil => rfl
  | cons x l ih => rw [List.any_cons, List.any_cons, h x (List.mem_cons_self ..), ih (fun y hy => h y (List.mem_cons_of_mem _ hy))]
theorem status_same (v x : DNote) (hv : NoteP v) (hx : NoteP x) (h2 : v.kind = 2) : decide (v = x) = statusIn v.name x := by
  have h3 := (noteP_oth v (by omega)).1 hv
  unfold statusIn
  by_cases hk : x.kind = 2
  · have h4 := (noteP_oth x (by omega)).1 hx
    have e : (x.kind == 2) = true := by simp [hk]
    rw [e, Bool.true_and]
    by_cases hn : x.name = v.name
    · rw [decide_eq_true hn]; apply decide_eq_true
      obtain ⟨a, b, c, d⟩ := v; obtain ⟨a', b', c', d'⟩ := x
      simp only at *
      simp only [DNote.mk.injEq]
      exact ⟨by omega, by omega, by omega, hn.symm⟩
    · rw [decide_eq_false hn]; apply decide_eq_false
      intro e; apply hn; rw [e]
  · have e : (x.kind == 2) = false := by simp [hk]
    rw [e, Bool.false_and]; apply decide_eq_false
    intro e; apply hk; rw [← e]; exact h2
theorem take_status {rb rc : Bool} {l : List DNote} {k : Nat} (hk : k < l.length) (h : ∀ j, j < k → NoteAt rb rc l j) (hv : NoteP l[k]) (h2 : l[k].kind = 2) : (l.take k).any (fun x => decide (l[k] = x)) = (l.take k).any (statusIn l[k].name) := by
  apply any_same
  intro x hx
  obtain ⟨j, hj, rfl⟩ := List.getElem_of_mem hx
  have hj2 : j < k := by rw [List.length_take] at hj; omega
  obtain ⟨h1, h3, _⟩ := h j hj2
  rw [List.getElem_take]
  exact status_same _ _ hv h3 h2
set_option maxRecDepth 20000 in
set_option maxHeartbeats 8000000 in
theorem specQueueOk_any (l : List DNote) (a : Option Addr) (c : Nat) (rb rc : Bool) (w : World) (R : Rd w a c 4 l.length (l.flatMap DNote.cells)) (hn : ∀ y ∈ l, y.name.size ≤ 9223372036854775807) (r : Bool) (Hr : Hid (Tells r (QueueP l rb rc))) :
    Calls Try.prog 20 #[.agg #[.slice a l.length c, .bool rb, .bool rc]] w fun e w' => e = .returned (.bool r) ∧ Ext w w' := by
  have hl : l.length ≤ 9223372036854775807 := Nat.le_trans R.nc R.cm
  have hcm := R.cm
  have hnc := R.nc
  have HR := Lib.hid R
  clear R
  have Hsz := Lib.hid hn
  clear hn
  go_enter Try.func20, Try.ntmps20
  go_wp2_with fail
  go_loopw [3] (fun i wr => ∃ k : Nat, k ≤ l.length ∧ i = .int .i64 k ∧ Hid (∀ j, j < k → NoteAt rb rc l j) ∧ Ext (w.alloc (.cells #[.slice a l.length c, .bool rb, .bool rc] 34)) wr) (fun i _ => l.length - (intOf i).toNat)
  case atStart => exact ⟨0, Nat.zero_le _, rfl, fun j hj => by omega, Below.refl _ _⟩
  case round =>
    obtain ⟨k, hk, rfl, HP, hbe⟩ := hrel
    by_cases hlt : k < l.length
    · obtain ⟨b, o, rfl, hb, hat⟩ := HR.out.ptr (by omega)
      have c0 : wr.cell? ⟨w.heap.size, 0, none⟩ = some (.slice (some ⟨b, o, none⟩) l.length c) := (hbe.cell (p := ⟨w.heap.size, 0, none⟩) (by simp)).trans (by simp [go_sem])
      have c1 : wr.cell? ⟨w.heap.size, 1, none⟩ = some (.bool rb) := (hbe.cell (p := ⟨w.heap.size, 1, none⟩) (by simp)).trans (by simp [go_sem])
      have c2 : wr.cell? ⟨w.heap.size, 2, none⟩ = some (.bool rc) := (hbe.cell (p := ⟨w.heap.size, 2, none⟩) (by simp)).trans (by simp [go_sem])
      have hws : w.heap.size < wr.heap.size := by (have hss := hbe.size; simp at hss; omega)
      have hbw : Ext w wr := bxt
      obtain ⟨hx0, hx1, hx2, hx3⟩ := DNote.at (hat.ext hb hbw) k hlt
      have HA := Lib.hid hat
      clear hat
      have hs := Hsz.out l[k] (List.getElem_mem hlt)
      have hbr : b < wr.heap.size := by omega
      have hk1 : (k : Int) < (l.length : Int) := by omega
      have hk2 : (0 : Int) ≤ (k : Int) := by omega
      have hk3 : (k : Int) ≤ (c : Int) := by omega
      have hk4 : (l.length : Int) ≤ (c : Int) := by omega
      have hk5 : (k : Int) ≤ (l.length : Int) := by omega
      have htl : (l.take k).length = k := by rw [List.length_take]; omega
      have HT := Lib.hid (HR.out.takeAt DNote.cells_len k (by omega))
      obtain ⟨dN, hN⟩ := boolOf (NoteP l[k])
      have HN := Lib.hid hN
      clear hN
      go_upto_region 7 with fail
      refine wp_world (fun W hW => ?_)
      have hbW : Ext wr W := by (rw [hW]; exact bxt)
      have q0 : W.cell? ⟨w.heap.size, 0, none⟩ = some (.slice (some ⟨b, o, none⟩) l.length c) := (hbW.cell (p := ⟨w.heap.size, 0, none⟩) hws).trans c0
      have q1 : W.cell? ⟨w.heap.size, 1, none⟩ = some (.bool rb) := (hbW.cell (p := ⟨w.heap.size, 1, none⟩) hws).trans c1
      have q2 : W.cell? ⟨w.heap.size, 2, none⟩ = some (.bool rc) := (hbW.cell (p := ⟨w.heap.size, 2, none⟩) hws).trans c2
      have n0 : W.cell? ⟨wr.heap.size, 0, none⟩ = some (.int .i64 l[k].kind) := by (rw [hW]; simp [go_sem])
      have n1 : W.cell? ⟨wr.heap.size, 1, none⟩ = some (.int .i64 l[k].n) := by (rw [hW]; simp [go_sem])
      have n2 : W.cell? ⟨wr.heap.size, 2, none⟩ = some (.int .i64 l[k].uid) := by (rw [hW]; simp [go_sem])
      have n3 : W.cell? ⟨wr.heap.size, 3, none⟩ = some (.string l[k].name) := by (rw [hW]; simp [go_sem])
      have b0 : W.cell? ⟨wr.heap.size + 1, 0, none⟩ = some (.slice (some ⟨b, o, none⟩) k c) := by (rw [hW]; simp [go_sem])
      have b1 : W.cell? ⟨wr.heap.size + 1, 1, none⟩ = some (.bool false) := by (rw [hW]; simp [go_sem])
      have b2 : W.cell? ⟨wr.heap.size + 1, 2, none⟩ = some (.bool false) := by (rw [hW]; simp [go_sem])
      have s0 : wr.heap.size + 1 < W.heap.size := by (rw [hW]; simp)
      have s1 : wr.heap.size < W.heap.size := by omega
      have s2 : w.heap.size < W.heap.size := by omega
      clear hW c0 c1 c2 hx0 hx1 hx2 hx3
      cases dN
      · skip
        go_wp2_with (first | (go_at_call 21; refine (specNoteOk_any l[k] _ hs _ HN).mono ?_; rintro e w1 ⟨rfl, hb1⟩; obtain ⟨hcb1, hfb1⟩ := bcell hb1; have hzz1 := hb1.size; (try simp at hzz1); have hzx1 : w.heap.size < w1.heap.size := (by omega); have hzy1 : wr.heap.size < w1.heap.size := (by omega); have hzw1 : wr.heap.size + 1 < w1.heap.size := (by omega)))
        go_ret
        exact ⟨ret_no Hr.out (fun hn => by obtain ⟨h0, h1, h2, h3, h4⟩ := hn.1 k hlt; exact no_of HN.out h1), bxt⟩
      · by_cases k1 : l[k].kind = 1
        · have hN1 := ((noteP_box _ k1).1 (yes_of HN.out)).1.1
          have HB1 : Hid ((l[k].kind == 1) = true) := by simp [Hid, k1]
          have HB2 : Hid ((l[k].kind != 1) = false) := by simp [Hid, k1]
          have e1 : (l[k].kind == 1) = true := by simp [k1]
          have e2 : (l[k].kind == 2) = false := by simp [k1]
          have HK := Lib.hid k1
          clear k1
          cases rb
          · obtain ⟨dB, hB⟩ : ∃ d, (l.take k).any (boxIn l[k].n) = d := ⟨_, rfl⟩
            have HBx := Lib.hid hB
            clear hB hN1
            cases dB
            all_goals (try have HZ : Hid ((l.take k).any (boxIn l[k].n) = !true) := HBx)
            all_goals (try have HZ : Hid ((l.take k).any (boxIn l[k].n) = !false) := HBx)
            · skip
              go_wp2_with (first | (go_at_call 21; refine (specNoteOk_any l[k] _ hs _ HN).mono ?_; rintro e w1 ⟨rfl, hb1⟩; obtain ⟨hcb1, hfb1⟩ := bcell hb1; have hzz1 := hb1.size; (try simp at hzz1); have hzx1 : w.heap.size < w1.heap.size := (by omega); have hzy1 : wr.heap.size < w1.heap.size := (by omega); have hzw1 : wr.heap.size + 1 < w1.heap.size := (by omega)) | (go_at_call 57; refine (l16Above_of (l.take k) (some ⟨b, o, none⟩) c false false l[k].n k htl _ (HT.out.ext bxt) _ HZ).mono ?_; rintro e w3 ⟨rfl, hb3⟩; obtain ⟨hcb3, hfb3⟩ := bcell hb3; have hzz3 := hb3.size; (try simp at hzz3); have hzx3 : w.heap.size < w3.heap.size := (by omega); have hzy3 : wr.heap.size < w3.heap.size := (by omega); have hzw3 : wr.heap.size + 1 < w3.heap.size := (by omega)))
              go_roundw
              case rel => exact ⟨k + 1, by omega, by go_num, fun j hj => (Nat.lt_or_ge j k).elim (HP.out j) (fun h => by obtain rfl : j = k := (by omega); exact ⟨hlt, yes_of HN.out, fun _ => ⟨rfl, HBx.out⟩, fun h => (h HK.out).elim, fun h => by (have := HK.out; omega)⟩), bxt⟩
              case measure => simp [intOf]; omega
            · skip
              go_wp2_with (first | (go_at_call 21; refine (specNoteOk_any l[k] _ hs _ HN).mono ?_; rintro e w1 ⟨rfl, hb1⟩; obtain ⟨hcb1, hfb1⟩ := bcell hb1; have hzz1 := hb1.size; (try simp at hzz1); have hzx1 : w.heap.size < w1.heap.size := (by omega); have hzy1 : wr.heap.size < w1.heap.size := (by omega); have hzw1 : wr.heap.size + 1 < w1.heap.size := (by omega)) | (go_at_call 57; refine (l16Above_of (l.take k) (some ⟨b, o, none⟩) c false false l[k].n k htl _ (HT.out.ext bxt) _ HZ).mono ?_; rintro e w3 ⟨rfl, hb3⟩; obtain ⟨hcb3, hfb3⟩ := bcell hb3; have hzz3 := hb3.size; (try simp at hzz3); have hzx3 : w.heap.size < w3.heap.size := (by omega); have hzy3 : wr.heap.size < w3.heap.size := (by omega); have hzw3 : wr.heap.size + 1 < w3.heap.size := (by omega)))
              go_ret
              exact ⟨ret_no Hr.out (fun hn => by obtain ⟨h0, h1, h2, h3, h4⟩ := hn.1 k hlt; exact Bool.false_ne_true ((h2 HK.out).2.symm.trans HBx.out)), bxt⟩
          · skip
            go_wp2_with (first | (go_at_call 21; refine (specNoteOk_any l[k] _ hs _ HN).mono ?_; rintro e w1 ⟨rfl, hb1⟩; obtain ⟨hcb1, hfb1⟩ := bcell hb1; have hzz1 := hb1.size; (try simp at hzz1); have hzx1 : w.heap.size < w1.heap.size := (by omega); have hzy1 : wr.heap.size < w1.heap.size := (by omega); have hzw1 : wr.heap.size + 1 < w1.heap.size := (by omega)))
            go_ret
            exact ⟨ret_no Hr.out (fun hn => by obtain ⟨h0, h1, h2, h3, h4⟩ := hn.1 k hlt; exact Bool.false_ne_true (h2 HK.out).1.symm), bxt⟩
        · have HB1 : Hid ((l[k].kind == 1) = false) := by simp [Hid, k1]
          have HB2 : Hid ((l[k].kind != 1) = true) := by simp [Hid, k1]
          have e1 : (l[k].kind == 1) = false := by simp [k1]
          have HK := Lib.hid k1
          clear k1
          cases rc
          · by_cases k2 : l[k].kind = 2
            · have hst := take_status hlt HP.out (yes_of HN.out) k2
              have e2 : (l[k].kind == 2) = true := by simp [k2]
              have HK2 := Lib.hid k2
              clear k2
              obtain ⟨dS, hS⟩ : ∃ d, (l.take k).any (statusIn l[k].name) = d := ⟨_, rfl⟩
              rw [hS] at hst
              have HSx := Lib.hid hS
              have HS := HSx
              clear hS hst
              cases dS
              · skip
                go_wp2_with (first | (go_at_call 21; refine (specNoteOk_any l[k] _ hs _ HN).mono ?_; rintro e w1 ⟨rfl, hb1⟩; obtain ⟨hcb1, hfb1⟩ := bcell hb1; have hzz1 := hb1.size; (try simp at hzz1); have hzx1 : w.heap.size < w1.heap.size := (by omega); have hzy1 : wr.heap.size < w1.heap.size := (by omega); have hzw1 : wr.heap.size + 1 < w1.heap.size := (by omega)) | (go_at_call 59; refine (l16Status_of (l.take k) (some ⟨b, o, none⟩) c false false l[k].name k htl _ (HT.out.ext bxt) _ HS).mono ?_; rintro e w5 ⟨rfl, hb5⟩; obtain ⟨hcb5, hfb5⟩ := bcell hb5; have hzz5 := hb5.size; (try simp at hzz5); have hzx5 : w.heap.size < w5.heap.size := (by omega); have hzy5 : wr.heap.size < w5.heap.size := (by omega); have hzw5 : wr.heap.size + 1 < w5.heap.size := (by omega)))
                go_roundw
                case rel => exact ⟨k + 1, by omega, by go_num, fun j hj => (Nat.lt_or_ge j k).elim (HP.out j) (fun h => by obtain rfl : j = k := (by omega); exact ⟨hlt, yes_of HN.out, fun h => (HK.out h).elim, fun _ => rfl, fun _ => HSx.out⟩), bxt⟩
                case measure => simp [intOf]; omega
              · skip
                go_wp2_with (first | (go_at_call 21; refine (specNoteOk_any l[k] _ hs _ HN).mono ?_; rintro e w1 ⟨rfl, hb1⟩; obtain ⟨hcb1, hfb1⟩ := bcell hb1; have hzz1 := hb1.size; (try simp at hzz1); have hzx1 : w.heap.size < w1.heap.size := (by omega); have hzy1 : wr.heap.size < w1.heap.size := (by omega); have hzw1 : wr.heap.size + 1 < w1.heap.size := (by omega)) | (go_at_call 59; refine (l16Status_of (l.take k) (some ⟨b, o, none⟩) c false false l[k].name k htl _ (HT.out.ext bxt) _ HS).mono ?_; rintro e w5 ⟨rfl, hb5⟩; obtain ⟨hcb5, hfb5⟩ := bcell hb5; have hzz5 := hb5.size; (try simp at hzz5); have hzx5 : w.heap.size < w5.heap.size := (by omega); have hzy5 : wr.heap.size < w5.heap.size := (by omega); have hzw5 : wr.heap.size + 1 < w5.heap.size := (by omega)))
                go_ret
                exact ⟨ret_no Hr.out (fun hn => by obtain ⟨h0, h1, h2, h3, h4⟩ := hn.1 k hlt; exact Bool.false_ne_true ((h4 HK2.out).symm.trans HSx.out)), bxt⟩
            · have e2 : (l[k].kind == 2) = false := by simp [k2]
              have HK2 := Lib.hid k2
              clear k2
              go_wp2_with (first | (go_at_call 21; refine (specNoteOk_any l[k] _ hs _ HN).mono ?_; rintro e w1 ⟨rfl, hb1⟩; obtain ⟨hcb1, hfb1⟩ := bcell hb1; have hzz1 := hb1.size; (try simp at hzz1); have hzx1 : w.heap.size < w1.heap.size := (by omega); have hzy1 : wr.heap.size < w1.heap.size := (by omega); have hzw1 : wr.heap.size + 1 < w1.heap.size := (by omega)))
              go_roundw
              case rel => exact ⟨k + 1, by omega, by go_num, fun j hj => (Nat.lt_or_ge j k).elim (HP.out j) (fun h => by obtain rfl : j = k := (by omega); exact ⟨hlt, yes_of HN.out, fun h => (HK.out h).elim, fun _ => rfl, fun h => (HK2.out h).elim⟩), bxt⟩
              case measure => simp [intOf]; omega
          · skip
            go_wp2_with (first | (go_at_call 21; refine (specNoteOk_any l[k] _ hs _ HN).mono ?_; rintro e w1 ⟨rfl, hb1⟩; obtain ⟨hcb1, hfb1⟩ := bcell hb1; have hzz1 := hb1.size; (try simp at hzz1); have hzx1 : w.heap.size < w1.heap.size := (by omega); have hzy1 : wr.heap.size < w1.heap.size := (by omega); have hzw1 : wr.heap.size + 1 < w1.heap.size := (by omega)))
            go_ret
            exact ⟨ret_no Hr.out (fun hn => by obtain ⟨h0, h1, h2, h3, h4⟩ := hn.1 k hlt; exact Bool.false_ne_true (h3 HK.out).symm), bxt⟩
    · have e : k = l.length := by omega
      have HK : Hid (∀ j, j < l.length → NoteAt rb rc l j) := by (rw [← e]); exact HP.out
      have c0 : wr.cell? ⟨w.heap.size, 0, none⟩ = some (.slice a l.length c) := (hbe.cell (p := ⟨w.heap.size, 0, none⟩) (by simp)).trans (by simp [go_sem])
      have c1 : wr.cell? ⟨w.heap.size, 1, none⟩ = some (.bool rb) := (hbe.cell (p := ⟨w.heap.size, 1, none⟩) (by simp)).trans (by simp [go_sem])
      have c2 : wr.cell? ⟨w.heap.size, 2, none⟩ = some (.bool rc) := (hbe.cell (p := ⟨w.heap.size, 2, none⟩) (by simp)).trans (by simp [go_sem])
      have hws : w.heap.size < wr.heap.size := by (have hss := hbe.size; simp at hss; omega)
      go_wp2_with fail
      go_ret
      refine ⟨ret_bool ?_, bxt⟩
      by_cases h6 : l.length ≤ 6
      · rw [Hr.out.eq_true ⟨HK.out, h6⟩]; simp; omega
      · rw [Hr.out.eq_false (fun hn => h6 hn.2)]; simp; omega
set_option maxRecDepth 20000 in
set_option maxHeartbeats 8000000 in
theorem implQueueOk_any (l : List DNote) (a : Option Addr) (c : Nat) (rb rc : Bool) (w : World) (R : Rd w a c 4 l.length (l.flatMap DNote.cells)) (hmx : MaxLen w) (hn : ∀ y ∈ l, y.name.size ≤ 9223372036854775807) (r : Bool) (Hr : Hid (Tells r (QueueP l rb rc))) :
    Calls Try.prog 19 #[.agg #[.slice a l.length c, .bool rb, .bool rc]] w fun e w' => e = .returned (.bool r) ∧ Ext w w' := by
  have hl : l.length ≤ 9223372036854775807 := Nat.le_trans R.nc R.cm
  have hcm := R.cm
  have hnc := R.nc
  have HR := Lib.hid R
  clear R
  have Hsz := Lib.hid hn
  clear hn
  have HM := Lib.hid hmx
  clear hmx
  go_enter Try.func19, Try.ntmps19
  go_wp2_with fail
  go_loopw [9] (fun i wr => ∃ k : Nat, k ≤ l.length ∧ i = .int .i64 k ∧ Hid (∀ j, j < k → NoteAt rb rc l j) ∧ Ext (w.alloc (.cells #[.slice a l.length c, .bool rb, .bool rc] 34)) wr) (fun i _ => l.length - (intOf i).toNat)
  case atStart => exact ⟨0, Nat.zero_le _, rfl, fun j hj => by omega, Below.refl _ _⟩
  case round =>
    obtain ⟨k, hk, rfl, HP, hbe⟩ := hrel
    by_cases hlt : k < l.length
    · obtain ⟨b, o, rfl, hb, hat⟩ := HR.out.ptr (by omega)
      have c0 : wr.cell? ⟨w.heap.size, 0, none⟩ = some (.slice (some ⟨b, o, none⟩) l.length c) := (hbe.cell (p := ⟨w.heap.size, 0, none⟩) (by simp)).trans (by simp [go_sem])
      have c1 : wr.cell? ⟨w.heap.size, 1, none⟩ = some (.bool rb) := (hbe.cell (p := ⟨w.heap.size, 1, none⟩) (by simp)).trans (by simp [go_sem])
      have c2 : wr.cell? ⟨w.heap.size, 2, none⟩ = some (.bool rc) := (hbe.cell (p := ⟨w.heap.size, 2, none⟩) (by simp)).trans (by simp [go_sem])
      have hws : w.heap.size < wr.heap.size := by (have hss := hbe.size; simp at hss; omega)
      have hbw : Ext w wr := bxt
      obtain ⟨hx0, hx1, hx2, hx3⟩ := DNote.at (hat.ext hb hbw) k hlt
      have HA := Lib.hid hat
      clear hat
      have hs := Hsz.out l[k] (List.getElem_mem hlt)
      have hbr : b < wr.heap.size := by omega
      have hk1 : (k : Int) < (l.length : Int) := by omega
      have hk2 : (0 : Int) ≤ (k : Int) := by omega
      have hk3 : (k : Int) ≤ (c : Int) := by omega
      have hk4 : (l.length : Int) ≤ (c : Int) := by omega
      have hk5 : (k : Int) ≤ (l.length : Int) := by omega
      have htl : (l.take k).length = k := by rw [List.length_take]; omega
      have HT := Lib.hid (HR.out.takeAt DNote.cells_len k (by omega))
      obtain ⟨dN, hN⟩ := boolOf (NoteP l[k])
      have HN := Lib.hid hN
      clear hN
      go_upto_region 5 with fail
      refine wp_world (fun W hW => ?_)
      have hbW : Ext wr W := by (rw [hW]; exact bxt)
      have q0 : W.cell? ⟨w.heap.size, 0, none⟩ = some (.slice (some ⟨b, o, none⟩) l.length c) := (hbW.cell (p := ⟨w.heap.size, 0, none⟩) hws).trans c0
      have q1 : W.cell? ⟨w.heap.size, 1, none⟩ = some (.bool rb) := (hbW.cell (p := ⟨w.heap.size, 1, none⟩) hws).trans c1
      have q2 : W.cell? ⟨w.heap.size, 2, none⟩ = some (.bool rc) := (hbW.cell (p := ⟨w.heap.size, 2, none⟩) hws).trans c2
      have n0 : W.cell? ⟨wr.heap.size, 0, none⟩ = some (.int .i64 l[k].kind) := by (rw [hW]; simp [go_sem])
      have n1 : W.cell? ⟨wr.heap.size, 1, none⟩ = some (.int .i64 l[k].n) := by (rw [hW]; simp [go_sem])
      have n2 : W.cell? ⟨wr.heap.size, 2, none⟩ = some (.int .i64 l[k].uid) := by (rw [hW]; simp [go_sem])
      have n3 : W.cell? ⟨wr.heap.size, 3, none⟩ = some (.string l[k].name) := by (rw [hW]; simp [go_sem])
      have b0 : W.cell? ⟨wr.heap.size + 1, 0, none⟩ = some (.slice (some ⟨b, o, none⟩) k c) := by (rw [hW]; simp [go_sem])
      have b1 : W.cell? ⟨wr.heap.size + 1, 1, none⟩ = some (.bool false) := by (rw [hW]; simp [go_sem])
      have b2 : W.cell? ⟨wr.heap.size + 1, 2, none⟩ = some (.bool false) := by (rw [hW]; simp [go_sem])
      have s0 : wr.heap.size + 1 < W.heap.size := by (rw [hW]; simp)
      have s1 : wr.heap.size < W.heap.size := by omega
      have s2 : w.heap.size < W.heap.size := by omega
      clear hW c0 c1 c2 hx0 hx1 hx2 hx3
      have xq0 := fun y : ExtW W => (y.h.cell (p := ⟨w.heap.size, 0, none⟩) s2).trans q0
      have xq1 := fun y : ExtW W => (y.h.cell (p := ⟨w.heap.size, 1, none⟩) s2).trans q1
      have xq2 := fun y : ExtW W => (y.h.cell (p := ⟨w.heap.size, 2, none⟩) s2).trans q2
      have xn0 := fun y : ExtW W => (y.h.cell (p := ⟨wr.heap.size, 0, none⟩) s1).trans n0
      have xn1 := fun y : ExtW W => (y.h.cell (p := ⟨wr.heap.size, 1, none⟩) s1).trans n1
      have xn2 := fun y : ExtW W => (y.h.cell (p := ⟨wr.heap.size, 2, none⟩) s1).trans n2
      have xn3 := fun y : ExtW W => (y.h.cell (p := ⟨wr.heap.size, 3, none⟩) s1).trans n3
      have xb0 := fun y : ExtW W => (y.h.cell (p := ⟨wr.heap.size + 1, 0, none⟩) s0).trans b0
      have xb1 := fun y : ExtW W => (y.h.cell (p := ⟨wr.heap.size + 1, 1, none⟩) s0).trans b1
      have xb2 := fun y : ExtW W => (y.h.cell (p := ⟨wr.heap.size + 1, 2, none⟩) s0).trans b2
      cases dN
      · skip
        refine wp_region_ext (by kernel_rfl) (by kernel_rfl) ?_
        repeat (go_big_quiet_step ((first | (go_at_call 54; refine (implNoteOk_any l[k] _ (HM.out.ext (ExtW.of (Below.ext hbw hbW) _)) hs _ HN).mono ?_; rintro e w1 ⟨rfl, hb1⟩; exact ⟨rfl, ExtW.on _ hb1⟩) | (go_at_call 60; refine (isBoxNote_any l[k] _ _ (Lib.hid rfl)).mono ?_; rintro e w2 ⟨rfl, hb2⟩; exact ⟨rfl, ExtW.on _ hb2⟩) | (go_at_call 62; refine (isOtherNote_any l[k] _ _ (Lib.hid rfl)).mono ?_; rintro e w4 ⟨rfl, hb4⟩; exact ⟨rfl, ExtW.on _ hb4⟩))))
        refine wpQuiet_nil ?_
        rintro _ ⟨⟨wq, hwq⟩, rfl⟩
        go_wp2_with fail
        go_ret
        exact ⟨ret_no Hr.out (fun hn => by obtain ⟨h0, h1, h2, h3, h4⟩ := hn.1 k hlt; exact no_of HN.out h1), bxt⟩
      · by_cases k1 : l[k].kind = 1
        · have hN1 := ((noteP_box _ k1).1 (yes_of HN.out)).1.1
          have HB1 : Hid ((l[k].kind == 1) = true) := by simp [Hid, k1]
          have HB2 : Hid ((l[k].kind != 1) = false) := by simp [Hid, k1]
          have e1 : (l[k].kind == 1) = true := by simp [k1]
          have e2 : (l[k].kind == 2) = false := by simp [k1]
          have HK := Lib.hid k1
          clear k1
          cases rb
          · obtain ⟨dB, hB⟩ : ∃ d, (l.take k).any (boxIn l[k].n) = d := ⟨_, rfl⟩
            have HBx := Lib.hid hB
            have hle := lastBox_le (l.take k) l[k].n hN1
            rw [hB] at hle
            obtain ⟨z, hz⟩ : ∃ z, lastBox (l.take k) = z := ⟨_, rfl⟩
            rw [hz] at hle
            have HZ := Lib.hid hz
            clear hz hB hN1
            cases dB
            · skip
              refine wp_region_ext (by kernel_rfl) (by kernel_rfl) ?_
              repeat (go_big_quiet_step ((first | (go_at_call 54; refine (implNoteOk_any l[k] _ (HM.out.ext (ExtW.of (Below.ext hbw hbW) _)) hs _ HN).mono ?_; rintro e w1 ⟨rfl, hb1⟩; exact ⟨rfl, ExtW.on _ hb1⟩) | (go_at_call 60; refine (isBoxNote_any l[k] _ _ HB1).mono ?_; rintro e w2 ⟨rfl, hb2⟩; exact ⟨rfl, ExtW.on _ hb2⟩) | (go_at_call 62; refine (isOtherNote_any l[k] _ _ HB2).mono ?_; rintro e w4 ⟨rfl, hb4⟩; exact ⟨rfl, ExtW.on _ hb4⟩) | (go_at_call 61; refine (lastBox_of (l.take k) (some ⟨b, o, none⟩) c false false k htl _ (HT.out.ext (ExtW.of (Below.ext hbw hbW) _)) z HZ).mono ?_; rintro e w3 ⟨rfl, hb3⟩; exact ⟨rfl, ExtW.on _ hb3⟩))))
              refine wpQuiet_nil ?_
              rintro _ ⟨⟨wq, hwq⟩, rfl⟩
              go_wp2_with fail
              go_roundw
              case rel => exact ⟨k + 1, by omega, by go_num, fun j hj => (Nat.lt_or_ge j k).elim (HP.out j) (fun h => by obtain rfl : j = k := (by omega); exact ⟨hlt, yes_of HN.out, fun _ => ⟨rfl, HBx.out⟩, fun h => (h HK.out).elim, fun h => by (have := HK.out; omega)⟩), bxt⟩
              case measure => simp [intOf]; omega
            · skip
              refine wp_region_ext (by kernel_rfl) (by kernel_rfl) ?_
              repeat (go_big_quiet_step ((first | (go_at_call 54; refine (implNoteOk_any l[k] _ (HM.out.ext (ExtW.of (Below.ext hbw hbW) _)) hs _ HN).mono ?_; rintro e w1 ⟨rfl, hb1⟩; exact ⟨rfl, ExtW.on _ hb1⟩) | (go_at_call 60; refine (isBoxNote_any l[k] _ _ HB1).mono ?_; rintro e w2 ⟨rfl, hb2⟩; exact ⟨rfl, ExtW.on _ hb2⟩) | (go_at_call 62; refine (isOtherNote_any l[k] _ _ HB2).mono ?_; rintro e w4 ⟨rfl, hb4⟩; exact ⟨rfl, ExtW.on _ hb4⟩) | (go_at_call 61; refine (lastBox_of (l.take k) (some ⟨b, o, none⟩) c false false k htl _ (HT.out.ext (ExtW.of (Below.ext hbw hbW) _)) z HZ).mono ?_; rintro e w3 ⟨rfl, hb3⟩; exact ⟨rfl, ExtW.on _ hb3⟩))))
              refine wpQuiet_nil ?_
              rintro _ ⟨⟨wq, hwq⟩, rfl⟩
              go_wp2_with fail
              go_ret
              exact ⟨ret_no Hr.out (fun hn => by obtain ⟨h0, h1, h2, h3, h4⟩ := hn.1 k hlt; exact Bool.false_ne_true ((h2 HK.out).2.symm.trans HBx.out)), bxt⟩
          · skip
            refine wp_region_ext (by kernel_rfl) (by kernel_rfl) ?_
            repeat (go_big_quiet_step ((first | (go_at_call 54; refine (implNoteOk_any l[k] _ (HM.out.ext (ExtW.of (Below.ext hbw hbW) _)) hs _ HN).mono ?_; rintro e w1 ⟨rfl, hb1⟩; exact ⟨rfl, ExtW.on _ hb1⟩) | (go_at_call 60; refine (isBoxNote_any l[k] _ _ HB1).mono ?_; rintro e w2 ⟨rfl, hb2⟩; exact ⟨rfl, ExtW.on _ hb2⟩) | (go_at_call 62; refine (isOtherNote_any l[k] _ _ HB2).mono ?_; rintro e w4 ⟨rfl, hb4⟩; exact ⟨rfl, ExtW.on _ hb4⟩))))
            refine wpQuiet_nil ?_
            rintro _ ⟨⟨wq, hwq⟩, rfl⟩
            go_wp2_with fail
            go_ret
            exact ⟨ret_no Hr.out (fun hn => by obtain ⟨h0, h1, h2, h3, h4⟩ := hn.1 k hlt; exact Bool.false_ne_true (h2 HK.out).1.symm), bxt⟩
        · have HB1 : Hid ((l[k].kind == 1) = false) := by simp [Hid, k1]
          have HB2 : Hid ((l[k].kind != 1) = true) := by simp [Hid, k1]
          have e1 : (l[k].kind == 1) = false := by simp [k1]
          have HK := Lib.hid k1
          clear k1
          cases rc
          · by_cases k2 : l[k].kind = 2
            · have hst := take_status hlt HP.out (yes_of HN.out) k2
              have e2 : (l[k].kind == 2) = true := by simp [k2]
              have HK2 := Lib.hid k2
              clear k2
              obtain ⟨dS, hS⟩ : ∃ d, (l.take k).any (statusIn l[k].name) = d := ⟨_, rfl⟩
              rw [hS] at hst
              have HSx := Lib.hid hS
              have HS := Lib.hid hst
              clear hS hst
              cases dS
              · skip
                refine wp_region_ext (by kernel_rfl) (by kernel_rfl) ?_
                repeat (go_big_quiet_step ((first | (go_at_call 54; refine (implNoteOk_any l[k] _ (HM.out.ext (ExtW.of (Below.ext hbw hbW) _)) hs _ HN).mono ?_; rintro e w1 ⟨rfl, hb1⟩; exact ⟨rfl, ExtW.on _ hb1⟩) | (go_at_call 60; refine (isBoxNote_any l[k] _ _ HB1).mono ?_; rintro e w2 ⟨rfl, hb2⟩; exact ⟨rfl, ExtW.on _ hb2⟩) | (go_at_call 62; refine (isOtherNote_any l[k] _ _ HB2).mono ?_; rintro e w4 ⟨rfl, hb4⟩; exact ⟨rfl, ExtW.on _ hb4⟩) | (go_at_call 63; refine (noteContains_of (l.take k) (some ⟨b, o, none⟩) c l[k] k htl _ (HT.out.ext (ExtW.of (Below.ext hbw hbW) _)) _ HS).mono ?_; rintro e w5 ⟨rfl, hb5⟩; exact ⟨rfl, ExtW.on _ hb5⟩))))
                refine wpQuiet_nil ?_
                rintro _ ⟨⟨wq, hwq⟩, rfl⟩
                go_wp2_with fail
                go_roundw
                case rel => exact ⟨k + 1, by omega, by go_num, fun j hj => (Nat.lt_or_ge j k).elim (HP.out j) (fun h => by obtain rfl : j = k := (by omega); exact ⟨hlt, yes_of HN.out, fun h => (HK.out h).elim, fun _ => rfl, fun _ => HSx.out⟩), bxt⟩
                case measure => simp [intOf]; omega
              · skip
                refine wp_region_ext (by kernel_rfl) (by kernel_rfl) ?_
                repeat (go_big_quiet_step ((first | (go_at_call 54; refine (implNoteOk_any l[k] _ (HM.out.ext (ExtW.of (Below.ext hbw hbW) _)) hs _ HN).mono ?_; rintro e w1 ⟨rfl, hb1⟩; exact ⟨rfl, ExtW.on _ hb1⟩) | (go_at_call 60; refine (isBoxNote_any l[k] _ _ HB1).mono ?_; rintro e w2 ⟨rfl, hb2⟩; exact ⟨rfl, ExtW.on _ hb2⟩) | (go_at_call 62; refine (isOtherNote_any l[k] _ _ HB2).mono ?_; rintro e w4 ⟨rfl, hb4⟩; exact ⟨rfl, ExtW.on _ hb4⟩) | (go_at_call 63; refine (noteContains_of (l.take k) (some ⟨b, o, none⟩) c l[k] k htl _ (HT.out.ext (ExtW.of (Below.ext hbw hbW) _)) _ HS).mono ?_; rintro e w5 ⟨rfl, hb5⟩; exact ⟨rfl, ExtW.on _ hb5⟩))))
                refine wpQuiet_nil ?_
                rintro _ ⟨⟨wq, hwq⟩, rfl⟩
                go_wp2_with fail
                go_ret
                exact ⟨ret_no Hr.out (fun hn => by obtain ⟨h0, h1, h2, h3, h4⟩ := hn.1 k hlt; exact Bool.false_ne_true ((h4 HK2.out).symm.trans HSx.out)), bxt⟩
            · have e2 : (l[k].kind == 2) = false := by simp [k2]
              have HK2 := Lib.hid k2
              clear k2
              refine wp_region_ext (by kernel_rfl) (by kernel_rfl) ?_
              repeat (go_big_quiet_step ((first | (go_at_call 54; refine (implNoteOk_any l[k] _ (HM.out.ext (ExtW.of (Below.ext hbw hbW) _)) hs _ HN).mono ?_; rintro e w1 ⟨rfl, hb1⟩; exact ⟨rfl, ExtW.on _ hb1⟩) | (go_at_call 60; refine (isBoxNote_any l[k] _ _ HB1).mono ?_; rintro e w2 ⟨rfl, hb2⟩; exact ⟨rfl, ExtW.on _ hb2⟩) | (go_at_call 62; refine (isOtherNote_any l[k] _ _ HB2).mono ?_; rintro e w4 ⟨rfl, hb4⟩; exact ⟨rfl, ExtW.on _ hb4⟩))))
              refine wpQuiet_nil ?_
              rintro _ ⟨⟨wq, hwq⟩, rfl⟩
              go_wp2_with fail
              go_roundw
              case rel => exact ⟨k + 1, by omega, by go_num, fun j hj => (Nat.lt_or_ge j k).elim (HP.out j) (fun h => by obtain rfl : j = k := (by omega); exact ⟨hlt, yes_of HN.out, fun h => (HK.out h).elim, fun _ => rfl, fun h => (HK2.out h).elim⟩), bxt⟩
              case measure => simp [intOf]; omega
          · skip
            refine wp_region_ext (by kernel_rfl) (by kernel_rfl) ?_
            repeat (go_big_quiet_step ((first | (go_at_call 54; refine (implNoteOk_any l[k] _ (HM.out.ext (ExtW.of (Below.ext hbw hbW) _)) hs _ HN).mono ?_; rintro e w1 ⟨rfl, hb1⟩; exact ⟨rfl, ExtW.on _ hb1⟩) | (go_at_call 60; refine (isBoxNote_any l[k] _ _ HB1).mono ?_; rintro e w2 ⟨rfl, hb2⟩; exact ⟨rfl, ExtW.on _ hb2⟩) | (go_at_call 62; refine (isOtherNote_any l[k] _ _ HB2).mono ?_; rintro e w4 ⟨rfl, hb4⟩; exact ⟨rfl, ExtW.on _ hb4⟩))))
            refine wpQuiet_nil ?_
            rintro _ ⟨⟨wq, hwq⟩, rfl⟩
            go_wp2_with fail
            go_ret
            exact ⟨ret_no Hr.out (fun hn => by obtain ⟨h0, h1, h2, h3, h4⟩ := hn.1 k hlt; exact Bool.false_ne_true (h3 HK.out).symm), bxt⟩
    · have e : k = l.length := by omega
      have HK : Hid (∀ j, j < l.length → NoteAt rb rc l j) := by (rw [← e]); exact HP.out
      have c0 : wr.cell? ⟨w.heap.size, 0, none⟩ = some (.slice a l.length c) := (hbe.cell (p := ⟨w.heap.size, 0, none⟩) (by simp)).trans (by simp [go_sem])
      have c1 : wr.cell? ⟨w.heap.size, 1, none⟩ = some (.bool rb) := (hbe.cell (p := ⟨w.heap.size, 1, none⟩) (by simp)).trans (by simp [go_sem])
      have c2 : wr.cell? ⟨w.heap.size, 2, none⟩ = some (.bool rc) := (hbe.cell (p := ⟨w.heap.size, 2, none⟩) (by simp)).trans (by simp [go_sem])
      have hws : w.heap.size < wr.heap.size := by (have hss := hbe.size; simp at hss; omega)
      go_wp2_with fail
      go_ret
      refine ⟨ret_bool ?_, bxt⟩
      by_cases h6 : l.length ≤ 6
      · rw [Hr.out.eq_true ⟨HK.out, h6⟩]; simp; omega
      · rw [Hr.out.eq_false (fun hn => h6 hn.2)]; simp; omega
end Go.Proofs.Ytgobkfnmagcgcaa
