/-
  The notes of one kind taken out of a row of the call's own: the library's DeleteFunc at the program's two tests.
-/
import Derived.Test.YtgobkfnmagcgcaaWOnly
namespace Go.Proofs.Ytgobkfnmagcgcaa
open Go.RowKit
set_option linter.unusedVariables false
set_option linter.unusedSimpArgs false

def outIs (keep : Bool) (x : DNote) : Bool := !(onlyIs keep x)
theorem zeroCells_one {z : Array Value} (n : Nat) (h0 : 0 < z.size) (h : ∀ u ∈ z.toList, u.oneCell' = true) : ∀ u ∈ (Builtin.zeroCells z n).toList, u.oneCell' = true := by
  intro u hu
  unfold Builtin.zeroCells at hu
  simp only [Array.toList_map, List.mem_map] at hu
  obtain ⟨i, _, rfl⟩ := hu
  have hlt : i % z.size < z.size := Nat.mod_lt _ h0
  apply h
  rw [getElem!_pos z _ hlt]
  exact Array.mem_toList_iff.2 (Array.getElem_mem hlt)
/-- the row while it is made shorter: what is kept, then what stood behind -/
def delRow (keep : Bool) (l : List DNote) (k : Nat) : List DNote := onlyTo keep l k ++ l.drop (onlyTo keep l k).length
theorem onlyTo_le (b : Bool) (l : List DNote) (k : Nat) : (onlyTo b l k).length ≤ k := by
  unfold onlyTo; exact Nat.le_trans (List.length_filter_le _ _) (by rw [List.length_take]; omega)
theorem delRow_len (keep : Bool) (l : List DNote) (k : Nat) (hk : k ≤ l.length) : (delRow keep l k).length = l.length := by
  have := onlyTo_len keep l k
  unfold delRow; rw [List.length_append, List.length_drop]; omega
theorem delRow_at (keep : Bool) (l : List DNote) (k : Nat) (hk : k < l.length) (h : k < (delRow keep l k).length) : (delRow keep l k)[k] = l[k] := by
  have h1 := onlyTo_le keep l k
  have e : delRow keep l k = onlyTo keep l k ++ l.drop (onlyTo keep l k).length := rfl
  simp only [e]
  rw [List.getElem_append_right h1, List.getElem_drop]
  congr 1; omega
theorem delRow_no {keep : Bool} {l : List DNote} {k : Nat} (hk : k < l.length) (h : onlyIs keep l[k] = false) : delRow keep l (k + 1) = delRow keep l k := by
  unfold delRow; rw [onlyTo_no hk h]
theorem delRow_yes {keep : Bool} {l : List DNote} {k : Nat} (hk : k < l.length) (h : onlyIs keep l[k] = true) : delRow keep l (k + 1) = (delRow keep l k).set (onlyTo keep l k).length l[k] := by
  have h1 := onlyTo_le keep l k
  unfold delRow
  rw [onlyTo_yes hk h, List.length_append, List.append_assoc]
  simp only [List.length_cons, List.length_nil, Nat.zero_add]
  rw [List.set_append_right _ _ (Nat.le_refl _), Nat.sub_self]
  congr 1
  have h2 : (onlyTo keep l k).length < l.length := by omega
  rw [List.drop_eq_getElem_cons h2, List.set_cons_zero]; rfl
theorem onlyTo_first {keep : Bool} {l : List DNote} {k : Nat} (hk : k < l.length) (hp : NoneTo (outIs keep) l k) : onlyTo keep l k = l.take k := by
  unfold onlyTo
  apply List.filter_eq_self.2
  intro x hx
  obtain ⟨j, hj, rfl⟩ := List.getElem_of_mem hx
  rw [List.length_take] at hj
  rw [List.getElem_take]
  have := hp j (by omega) (by omega)
  unfold outIs at this
  simpa using this
theorem filter_none {keep : Bool} {l : List DNote} (hp : NoneTo (outIs keep) l l.length) : l.filter (onlyIs keep) = l := by
  apply List.filter_eq_self.2
  intro x hx
  obtain ⟨j, hj, rfl⟩ := List.getElem_of_mem hx
  have := hp j hj hj
  unfold outIs at this
  simpa using this
theorem delRow_start {keep : Bool} {l : List DNote} {k : Nat} (hk : k < l.length) (hp : NoneTo (outIs keep) l k) (h : outIs keep l[k] = true) : delRow keep l (k + 1) = l ∧ (onlyTo keep l (k + 1)).length = k := by
  have h1 := onlyTo_first hk hp
  have h2 : onlyIs keep l[k] = false := by unfold outIs at h; simpa using h
  unfold delRow
  rw [onlyTo_no hk h2, h1]
  refine ⟨?_, by rw [List.length_take]; omega⟩
  have : (l.take k).length = k := by rw [List.length_take]; omega
  rw [this, List.take_append_drop]
set_option maxHeartbeats 1000000 in
theorem idx_true (l : List DNote) (a : Option Addr) (c : Nat) (w : World) (R : Rd w a c 4 l.length (l.flatMap DNote.cells)) (r : Int) (Hr : Hid (firstI (outIs true) l = r)) :
    Calls Try.prog 67 #[.slice a l.length c, .func (.func 62) #[] #[]] w fun e w' => e = .returned (.int .i64 r) ∧ Ext w w' := by
  have hl : l.length ≤ 9223372036854775807 := Nat.le_trans R.nc R.cm
  have HR := Lib.hid R
  clear R
  go_enter Try.func67, Try.ntmps67
  go_wp2_with fail
  go_loopw [8] (fun i wr => ∃ k : Nat, k ≤ l.length ∧ i = .int .i64 k ∧ Hid (NoneTo (outIs true) l k) ∧ Ext w wr) (fun i _ => l.length - (intOf i).toNat)
  case atStart => exact ⟨0, Nat.zero_le _, rfl, NoneTo.zero, Below.refl _ _⟩
  case round =>
    obtain ⟨k, hk, rfl, HP, hbe⟩ := hrel
    by_cases hlt : k < l.length
    · obtain ⟨b, o, rfl, hb, hat⟩ := HR.out.ptr (by omega)
      obtain ⟨hx0, hx1, hx2, hx3⟩ := DNote.at (hat.ext hb hbe) k hlt
      have HA := Lib.hid hat
      clear hat
      have hbr : b < wr.heap.size := Nat.lt_of_lt_of_le hb hbe.size
      have hk1 : (k : Int) < (l.length : Int) := by omega
      obtain ⟨d, hd⟩ : ∃ d, (l[k].kind != 1) = d := ⟨_, rfl⟩
      have HD := Lib.hid hd
      have HO : Hid (outIs true l[k] = d) := by (rw [← hd]; unfold Hid outIs onlyIs; cases h : (l[k].kind == 1) <;> simp [bne, h])
      clear hd
      cases d
      · go_wp2_with ((go_at_call 62; refine (isOtherNote_any l[k] _ _ HD).mono ?_; rintro e w1 ⟨rfl, hb1⟩))
        go_roundw
        case rel => exact ⟨k + 1, by omega, by go_num, NoneTo.succ HP.out hlt HO.out, bxt⟩
        case measure => simp [intOf]; omega
      · go_wp2_with ((go_at_call 62; refine (isOtherNote_any l[k] _ _ HD).mono ?_; rintro e w1 ⟨rfl, hb1⟩))
        go_ret
        refine ⟨?_, bxt⟩
        have := Hr.out; rw [firstI_hit hlt HO.out (fun j hj hjk => HP.out j hj hjk)] at this; rw [← this]; rfl
    · have e : k = l.length := by omega
      have HK : Hid (NoneTo (outIs true) l l.length) := by (have := HP.out; rw [e] at this; exact this)
      go_wp2_with fail
      go_ret
      refine ⟨?_, bxt⟩
      have := Hr.out; rw [firstI_miss (fun j hj => HK.out j hj hj)] at this; rw [← this]; rfl
set_option maxHeartbeats 1000000 in
theorem idx_false (l : List DNote) (a : Option Addr) (c : Nat) (w : World) (R : Rd w a c 4 l.length (l.flatMap DNote.cells)) (r : Int) (Hr : Hid (firstI (outIs false) l = r)) :
    Calls Try.prog 67 #[.slice a l.length c, .func (.func 60) #[] #[]] w fun e w' => e = .returned (.int .i64 r) ∧ Ext w w' := by
  have hl : l.length ≤ 9223372036854775807 := Nat.le_trans R.nc R.cm
  have HR := Lib.hid R
  clear R
  go_enter Try.func67, Try.ntmps67
  go_wp2_with fail
  go_loopw [8] (fun i wr => ∃ k : Nat, k ≤ l.length ∧ i = .int .i64 k ∧ Hid (NoneTo (outIs false) l k) ∧ Ext w wr) (fun i _ => l.length - (intOf i).toNat)
  case atStart => exact ⟨0, Nat.zero_le _, rfl, NoneTo.zero, Below.refl _ _⟩
  case round =>
    obtain ⟨k, hk, rfl, HP, hbe⟩ := hrel
    by_cases hlt : k < l.length
    · obtain ⟨b, o, rfl, hb, hat⟩ := HR.out.ptr (by omega)
      obtain ⟨hx0, hx1, hx2, hx3⟩ := DNote.at (hat.ext hb hbe) k hlt
      have HA := Lib.hid hat
      clear hat
      have hbr : b < wr.heap.size := Nat.lt_of_lt_of_le hb hbe.size
      have hk1 : (k : Int) < (l.length : Int) := by omega
      obtain ⟨d, hd⟩ : ∃ d, (l[k].kind == 1) = d := ⟨_, rfl⟩
      have HD := Lib.hid hd
      have HO : Hid (outIs false l[k] = d) := by (rw [← hd]; unfold Hid outIs onlyIs; cases h : (l[k].kind == 1) <;> simp [bne, h])
      clear hd
      cases d
      · go_wp2_with ((go_at_call 60; refine (isBoxNote_any l[k] _ _ HD).mono ?_; rintro e w1 ⟨rfl, hb1⟩))
        go_roundw
        case rel => exact ⟨k + 1, by omega, by go_num, NoneTo.succ HP.out hlt HO.out, bxt⟩
        case measure => simp [intOf]; omega
      · go_wp2_with ((go_at_call 60; refine (isBoxNote_any l[k] _ _ HD).mono ?_; rintro e w1 ⟨rfl, hb1⟩))
        go_ret
        refine ⟨?_, bxt⟩
        have := Hr.out; rw [firstI_hit hlt HO.out (fun j hj hjk => HP.out j hj hjk)] at this; rw [← this]; rfl
    · have e : k = l.length := by omega
      have HK : Hid (NoneTo (outIs false) l l.length) := by (have := HP.out; rw [e] at this; exact this)
      go_wp2_with fail
      go_ret
      refine ⟨?_, bxt⟩
      have := Hr.out; rw [firstI_miss (fun j hj => HK.out j hj hj)] at this; rw [← this]; rfl

theorem none_or_first {α : Type} (p : α → Bool) (l : List α) : NoneTo p l l.length ∨ ∃ (k : Nat) (h : k < l.length), NoneTo p l k ∧ p l[k] = true := by
  cases h : l.findIdx? p with
  | none =>
    left
    intro j hj _
    have := List.findIdx?_eq_none_iff.1 h l[j] (List.getElem_mem hj)
    simpa using this
  | some i =>
    right
    obtain ⟨hi, hp, hb⟩ := List.findIdx?_eq_some_iff_getElem.1 h
    exact ⟨i, hi, fun j hj hji => by have := hb j hji; simpa using this, hp⟩
set_option maxRecDepth 100000 in
set_option maxHeartbeats 4000000 in
theorem del_true (l : List DNote) (a : Option Addr) (c B : Nat) (w : World) (h : Own w B 36 4 (.slice a l.length c) l.length (l.flatMap DNote.cells)) (hl : l.length ≤ 1048576) (r : List DNote) (Hr : Hid (l.filter (onlyIs true) = r)) :
    Calls Try.prog 118 #[.slice a l.length c, .func (.func 62) #[] #[]] w fun e w' => e = .returned (.slice a r.length c) ∧ Own w' B 36 4 (.slice a r.length c) r.length (r.flatMap DNote.cells) ∧ w.grownBy w' (foot (.slice a l.length c)) := by
  obtain ⟨hcap, hcm⟩ := h.cap
  rcases none_or_first (outIs true) l with hno | ⟨k0, hk0, hp0, hq0⟩
  · have hf := firstI_miss (fun j hj => hno j hj hj)
    have hr : l = r := by rw [← Hr.out, filter_none hno]
    have HI := Lib.hid hf
    have HO := Lib.hid h
    clear hf hno h Hr
    subst hr
    go_enter Try.func118, Try.ntmps118
    go_wp2_with ((go_at_call 67; refine (idx_true l a c _ ((Rd.of_Own HO.out).ext bxt) _ HI).mono ?_; rintro e w1 ⟨rfl, hb1⟩))
    go_ret
    exact ⟨rfl, HO.out.ext hb1, grown_ext hb1⟩
  · have hf := firstI_hit hk0 hq0 (fun j hj hjk => hp0 j hj hjk)
    obtain ⟨hs1, hs2⟩ := delRow_start hk0 hp0 hq0
    obtain ⟨gb, rfl, -⟩ := h.row (by omega)
    have HI := Lib.hid hf
    have HO := Lib.hid h
    have hgb := (h.lt gb ((foot_slice _ _ _ _).2 ⟨by omega, _, rfl, rfl⟩)).2
    have HS : Hid (delRow true l (k0 + 1) = l ∧ (onlyTo true l (k0 + 1)).length = k0) := ⟨hs1, hs2⟩
    clear hf hp0 hq0 h hs1 hs2
    have e0 : ((k0 : Int) == -1) = false := by first | (simp; done) | (simp; omega)
    have e1 : IntKind.i64.wrap ((k0 : Int) + 1) = (k0 : Int) + 1 := IntWalk.i64_in _ (by omega)
    go_enter Try.func118, Try.ntmps118
    go_wp2_with ((go_at_call 67; refine (idx_true l (some ⟨gb, 0, none⟩) c _ ((Rd.of_Own HO.out).ext bxt) _ HI).mono ?_; rintro e w1 ⟨rfl, hb1⟩))
    go_loopw [5, 6] (fun i j wr => ∃ k : Nat, k ≤ l.length ∧ j = .int .i64 (k : Nat) ∧ i = .int .i64 ((onlyTo true l k).length : Nat) ∧ (onlyTo true l k).length < k ∧ Own wr B 36 4 (.slice (some ⟨gb, 0, none⟩) l.length c) l.length ((delRow true l k).flatMap DNote.cells) ∧ w.grownBy wr (foot (.slice (some ⟨gb, 0, none⟩) l.length c))) (fun _ j _ => l.length - (intOf j).toNat)
    case atStart =>
      refine ⟨k0 + 1, by omega, by simp, by rw [HS.out.2], by rw [HS.out.2]; omega, ?_, grown_ext hb1⟩
      rw [HS.out.1]; exact HO.out.ext hb1
    case round =>
      clear hb1 HO
      obtain ⟨k, hk, rfl, rfl, hmk, hown, hgr⟩ := hrel
      have hLl := delRow_len true l k hk
      obtain ⟨L, hL⟩ : ∃ L, delRow true l k = L := ⟨_, rfl⟩
      obtain ⟨m, hm⟩ : ∃ m, (onlyTo true l k).length = m := ⟨_, rfl⟩
      have HM := Lib.hid hm
      have HL := Lib.hid hL
      rw [hL] at hown hLl
      rw [hm] at hmk ⊢
      have HO := Lib.hid hown
      have HG := Lib.hid hgr
      have hgw : gb < wr.heap.size := Nat.lt_of_lt_of_le hgb hgr.size
      clear hm hL hgr
      have hm1 : m < l.length := by omega
      have j1 : (0 : Int) ≤ (m : Int) := by omega
      have j2 : (m : Int) < (l.length : Int) := by omega
      have j3 : (m : Int) ≤ (l.length : Int) := by omega
      by_cases hlt : k < l.length
      · obtain ⟨b, of, he, hb, hat⟩ := (Rd.of_Own hown).ptr (by omega)
        obtain ⟨rfl, rfl⟩ : b = gb ∧ of = 0 := by cases he; exact ⟨rfl, rfl⟩
        obtain ⟨hx0, hx1, hx2, hx3⟩ := DNote.at0 hat k (by omega)
        have hLk : L[k] = l[k] := by (have := delRow_at true l k hlt (by rw [HL.out]; omega); simpa only [HL.out] using this)
        rw [hLk] at hx0 hx1 hx2 hx3
        clear hat hown hLk he
        have hk1 : (k : Int) < (l.length : Int) := by omega
        have j4 : (0 : Int) ≤ (k : Int) := by omega
        obtain ⟨d, hd⟩ : ∃ d, (l[k].kind != 1) = d := ⟨_, rfl⟩
        have HD := Lib.hid hd
        have HY : Hid (onlyIs true l[k] = !d) := by (rw [← hd]; unfold Hid onlyIs; cases h : (l[k].kind == 1) <;> simp [bne, h])
        clear hd
        have P0 : Hid ((L.flatMap DNote.cells).set (m * 4) (.int .i64 l[k].kind) = (L.set m (⟨l[k].kind, L[m].n, L[m].uid, L[m].name⟩ : DNote)).flatMap DNote.cells) := by
          have := flat_set1 DNote.cells_len L m 0 (by first | omega | (simp; omega)) (by omega) (.int .i64 l[k].kind) (⟨l[k].kind, L[m].n, L[m].uid, L[m].name⟩ : DNote) (by simp [DNote.cells])
          simpa [Hid, List.set_set] using this
        have P1 : Hid (((L.set m (⟨l[k].kind, L[m].n, L[m].uid, L[m].name⟩ : DNote)).flatMap DNote.cells).set (m * 4 + 1) (.int .i64 l[k].n) = (L.set m (⟨l[k].kind, l[k].n, L[m].uid, L[m].name⟩ : DNote)).flatMap DNote.cells) := by
          have := flat_set1 DNote.cells_len (L.set m (⟨l[k].kind, L[m].n, L[m].uid, L[m].name⟩ : DNote)) m 1 (by first | omega | (simp; omega)) (by omega) (.int .i64 l[k].n) (⟨l[k].kind, l[k].n, L[m].uid, L[m].name⟩ : DNote) (by simp [DNote.cells])
          simpa [Hid, List.set_set] using this
        have P2 : Hid (((L.set m (⟨l[k].kind, l[k].n, L[m].uid, L[m].name⟩ : DNote)).flatMap DNote.cells).set (m * 4 + 2) (.int .i64 l[k].uid) = (L.set m (⟨l[k].kind, l[k].n, l[k].uid, L[m].name⟩ : DNote)).flatMap DNote.cells) := by
          have := flat_set1 DNote.cells_len (L.set m (⟨l[k].kind, l[k].n, L[m].uid, L[m].name⟩ : DNote)) m 2 (by first | omega | (simp; omega)) (by omega) (.int .i64 l[k].uid) (⟨l[k].kind, l[k].n, l[k].uid, L[m].name⟩ : DNote) (by simp [DNote.cells])
          simpa [Hid, List.set_set] using this
        have P3 : Hid (((L.set m (⟨l[k].kind, l[k].n, l[k].uid, L[m].name⟩ : DNote)).flatMap DNote.cells).set (m * 4 + 3) (.string l[k].name) = (L.set m l[k]).flatMap DNote.cells) := by
          have := flat_set1 DNote.cells_len (L.set m (⟨l[k].kind, l[k].n, l[k].uid, L[m].name⟩ : DNote)) m 3 (by first | omega | (simp; omega)) (by omega) (.string l[k].name) l[k] (by simp [DNote.cells])
          simpa [Hid, List.set_set] using this
        cases d
        · have hyes := delRow_yes hlt HY.out
          have hyes2 := onlyTo_yes hlt HY.out
          have HW : Hid (delRow true l (k + 1) = L.set m l[k]) := by (have := hyes; rw [HL.out, HM.out] at this; exact this)
          have HV : Hid ((onlyTo true l (k + 1)).length = m + 1) := by (unfold Hid; rw [hyes2, List.length_append, HM.out]; rfl)
          clear hyes hyes2
          go_wp2_with (go_loud (go_at_call 62; refine (isOtherNote_any l[k] _ _ HD).mono ?_; rintro e w1 ⟨rfl, hb1⟩; have v0 : w1.cell? ⟨wr.heap.size, 0, none⟩ = some (.int .i64 l[k].kind) := (hb1.cell (p := ⟨wr.heap.size, 0, none⟩) (by simp)).trans (keep_new rfl); have v1 : w1.cell? ⟨wr.heap.size, 1, none⟩ = some (.int .i64 l[k].n) := (hb1.cell (p := ⟨wr.heap.size, 1, none⟩) (by simp)).trans (keep_new rfl); have v2 : w1.cell? ⟨wr.heap.size, 2, none⟩ = some (.int .i64 l[k].uid) := (hb1.cell (p := ⟨wr.heap.size, 2, none⟩) (by simp)).trans (keep_new rfl); have v3 : w1.cell? ⟨wr.heap.size, 3, none⟩ = some (.string l[k].name) := (hb1.cell (p := ⟨wr.heap.size, 3, none⟩) (by simp)).trans (keep_new rfl); obtain ⟨⟨z0, hz0⟩, hy0⟩ := (HO.out.ext (show Ext wr w1 from bxt)).slot (m * 4) (by omega); obtain ⟨⟨z1, hz1⟩, hy1⟩ := (HO.out.ext (show Ext wr w1 from bxt)).slot (m * 4 + 1) (by omega); obtain ⟨⟨z2, hz2⟩, hy2⟩ := (HO.out.ext (show Ext wr w1 from bxt)).slot (m * 4 + 2) (by omega); obtain ⟨⟨z3, hz3⟩, hy3⟩ := (HO.out.ext (show Ext wr w1 from bxt)).slot (m * 4 + 3) (by omega); have s1 : wr.heap.size < w1.heap.size := (by have hss := hb1.size; simp at hss; omega)))
          go_roundw
          case rel =>
            refine ⟨k + 1, by omega, by go_num, ?_, by rw [HV.out]; omega, ?_, ?_⟩
            · rw [HV.out]; go_num
            · rw [HW.out]
              exact (by repeat' (first | with_reducible exact HO.out | with_reducible refine Own.set_below ?_ smx _ | with_reducible refine Own.put1 ?_ (show c ≠ 0 by omega) P0.out | with_reducible refine Own.put1 ?_ (show c ≠ 0 by omega) P1.out | with_reducible refine Own.put1 ?_ (show c ≠ 0 by omega) P2.out | with_reducible refine Own.put1 ?_ (show c ≠ 0 by omega) P3.out | with_reducible refine Own.alloc1 ?_ _ | with_reducible refine Own.drew1 ?_ | with_reducible refine Own.drewN1 ?_ | with_reducible refine Own.ext ?_ (by assumption)))
            · exact (by repeat' (first | with_reducible exact World.grownBy.refl _ _ | with_reducible exact HG.out | with_reducible refine grown_al ?_ _ | with_reducible refine grown_st ?_ smx _ | with_reducible refine grown_so ?_ (by simp [foot]; omega) _ | with_reducible refine grown_dr ?_ | with_reducible refine grown_drN ?_ | with_reducible refine grown_trans ?_ (grown_ext (by assumption))))
          case measure => simp [intOf]; omega
        · have HW : Hid (delRow true l (k + 1) = L) := by (have := delRow_no hlt HY.out; rw [HL.out] at this; exact this)
          have HV : Hid ((onlyTo true l (k + 1)).length = m) := by (unfold Hid; rw [onlyTo_no hlt HY.out, HM.out])
          go_wp2_with (go_loud (go_at_call 62; refine (isOtherNote_any l[k] _ _ HD).mono ?_; rintro e w1 ⟨rfl, hb1⟩))
          go_roundw
          case rel =>
            refine ⟨k + 1, by omega, by go_num, by rw [HV.out], by rw [HV.out]; omega, ?_, ?_⟩
            · rw [HW.out]
              exact (by repeat' (first | with_reducible exact HO.out | with_reducible refine Own.set_below ?_ smx _ | with_reducible refine Own.alloc1 ?_ _ | with_reducible refine Own.drew1 ?_ | with_reducible refine Own.drewN1 ?_ | with_reducible refine Own.ext ?_ (by assumption)))
            · exact (by repeat' (first | with_reducible exact World.grownBy.refl _ _ | with_reducible exact HG.out | with_reducible refine grown_al ?_ _ | with_reducible refine grown_st ?_ smx _ | with_reducible refine grown_so ?_ (by simp [foot]; omega) _ | with_reducible refine grown_dr ?_ | with_reducible refine grown_drN ?_ | with_reducible refine grown_trans ?_ (grown_ext (by assumption))))
          case measure => simp [intOf]; omega
      · have hkl : k = l.length := by omega
        have hall := onlyTo_all true l k hk hlt
        rw [Hr.out] at hall
        have hrm : r.length = m := by rw [← hall]; exact HM.out
        have hLm : L.take m = r := by (rw [← HL.out]; unfold delRow; rw [hall, hrm, ← hrm, List.take_left])
        have HC : Hid (Own wr B 36 4 (.slice (some ⟨gb, 0, none⟩) m c) m (r.flatMap DNote.cells)) := by
          rw [← hLm, ← flat_take DNote.cells_len]
          exact HO.out.cut (by omega)
        have HRM := Lib.hid hrm
        clear hall hrm hLm hown
        have k2 : l.length ≤ c := by omega
        have k3 : (m : Int) ≤ (l.length : Int) := by omega
        have k4 : (l.length : Int) ≤ (c : Int) := by omega
        have k5 : (m : Int) ≤ (c : Int) := by omega
        have k6 : m ≤ l.length := by omega
        have k7 : ¬ c = m := by omega
        have hz : ∀ w, (zeroValue 36).run Try.prog w = .ok (.agg #[.int .i64 0, .int .i64 0, .int .i64 0, .string ⟨#[]⟩]) w := fun w => by kernel_rfl
        have hz1 : ∀ u ∈ (Builtin.zeroCells (Value.agg #[.int .i64 0, .int .i64 0, .int .i64 0, .string ⟨#[]⟩]).cells (l.length - m)).toList, u.oneCell' = true := zeroCells_one _ (by decide) (of_decide_eq_true (by kernel_rfl))
        have HZ1 := Lib.hid hz1
        have HZ := Lib.hid hz
        clear hz hz1
        go_wp2_with (go_loud (refine wpList_clr rfl (.tmp 38) 32 rfl 36 (.agg #[.int .i64 0, .int .i64 0, .int .i64 0, .string ⟨#[]⟩]) Try.underlying32 HZ.out rfl HZ1.out HC.out (m * 4) (c - m) rfl rfl (by omega) (by omega) ?_; intro w2 hown2 hg2; have H2 := Lib.hid hown2; have HG2 := Lib.hid hg2; clear hown2 hg2))
        go_ret
        rw [HRM.out]
        refine ⟨rfl, H2.out, ?_⟩
        have hh := HG2.out
        rw [foot_len _ m l.length c] at hh
        exact grown_trans HG.out hh
set_option maxRecDepth 100000 in
set_option maxHeartbeats 4000000 in
theorem del_false (l : List DNote) (a : Option Addr) (c B : Nat) (w : World) (h : Own w B 36 4 (.slice a l.length c) l.length (l.flatMap DNote.cells)) (hl : l.length ≤ 1048576) (r : List DNote) (Hr : Hid (l.filter (onlyIs false) = r)) :
    Calls Try.prog 118 #[.slice a l.length c, .func (.func 60) #[] #[]] w fun e w' => e = .returned (.slice a r.length c) ∧ Own w' B 36 4 (.slice a r.length c) r.length (r.flatMap DNote.cells) ∧ w.grownBy w' (foot (.slice a l.length c)) := by
  obtain ⟨hcap, hcm⟩ := h.cap
  rcases none_or_first (outIs false) l with hno | ⟨k0, hk0, hp0, hq0⟩
  · have hf := firstI_miss (fun j hj => hno j hj hj)
    have hr : l = r := by rw [← Hr.out, filter_none hno]
    have HI := Lib.hid hf
    have HO := Lib.hid h
    clear hf hno h Hr
    subst hr
    go_enter Try.func118, Try.ntmps118
    go_wp2_with ((go_at_call 67; refine (idx_false l a c _ ((Rd.of_Own HO.out).ext bxt) _ HI).mono ?_; rintro e w1 ⟨rfl, hb1⟩))
    go_ret
    exact ⟨rfl, HO.out.ext hb1, grown_ext hb1⟩
  · have hf := firstI_hit hk0 hq0 (fun j hj hjk => hp0 j hj hjk)
    obtain ⟨hs1, hs2⟩ := delRow_start hk0 hp0 hq0
    obtain ⟨gb, rfl, -⟩ := h.row (by omega)
    have HI := Lib.hid hf
    have HO := Lib.hid h
    have hgb := (h.lt gb ((foot_slice _ _ _ _).2 ⟨by omega, _, rfl, rfl⟩)).2
    have HS : Hid (delRow false l (k0 + 1) = l ∧ (onlyTo false l (k0 + 1)).length = k0) := ⟨hs1, hs2⟩
    clear hf hp0 hq0 h hs1 hs2
    have e0 : ((k0 : Int) == -1) = false := by first | (simp; done) | (simp; omega)
    have e1 : IntKind.i64.wrap ((k0 : Int) + 1) = (k0 : Int) + 1 := IntWalk.i64_in _ (by omega)
    go_enter Try.func118, Try.ntmps118
    go_wp2_with ((go_at_call 67; refine (idx_false l (some ⟨gb, 0, none⟩) c _ ((Rd.of_Own HO.out).ext bxt) _ HI).mono ?_; rintro e w1 ⟨rfl, hb1⟩))
    go_loopw [5, 6] (fun i j wr => ∃ k : Nat, k ≤ l.length ∧ j = .int .i64 (k : Nat) ∧ i = .int .i64 ((onlyTo false l k).length : Nat) ∧ (onlyTo false l k).length < k ∧ Own wr B 36 4 (.slice (some ⟨gb, 0, none⟩) l.length c) l.length ((delRow false l k).flatMap DNote.cells) ∧ w.grownBy wr (foot (.slice (some ⟨gb, 0, none⟩) l.length c))) (fun _ j _ => l.length - (intOf j).toNat)
    case atStart =>
      refine ⟨k0 + 1, by omega, by simp, by rw [HS.out.2], by rw [HS.out.2]; omega, ?_, grown_ext hb1⟩
      rw [HS.out.1]; exact HO.out.ext hb1
    case round =>
      clear hb1 HO
      obtain ⟨k, hk, rfl, rfl, hmk, hown, hgr⟩ := hrel
      have hLl := delRow_len false l k hk
      obtain ⟨L, hL⟩ : ∃ L, delRow false l k = L := ⟨_, rfl⟩
      obtain ⟨m, hm⟩ : ∃ m, (onlyTo false l k).length = m := ⟨_, rfl⟩
      have HM := Lib.hid hm
      have HL := Lib.hid hL
      rw [hL] at hown hLl
      rw [hm] at hmk ⊢
      have HO := Lib.hid hown
      have HG := Lib.hid hgr
      have hgw : gb < wr.heap.size := Nat.lt_of_lt_of_le hgb hgr.size
      clear hm hL hgr
      have hm1 : m < l.length := by omega
      have j1 : (0 : Int) ≤ (m : Int) := by omega
      have j2 : (m : Int) < (l.length : Int) := by omega
      have j3 : (m : Int) ≤ (l.length : Int) := by omega
      by_cases hlt : k < l.length
      · obtain ⟨b, of, he, hb, hat⟩ := (Rd.of_Own hown).ptr (by omega)
        obtain ⟨rfl, rfl⟩ : b = gb ∧ of = 0 := by cases he; exact ⟨rfl, rfl⟩
        obtain ⟨hx0, hx1, hx2, hx3⟩ := DNote.at0 hat k (by omega)
        have hLk : L[k] = l[k] := by (have := delRow_at false l k hlt (by rw [HL.out]; omega); simpa only [HL.out] using this)
        rw [hLk] at hx0 hx1 hx2 hx3
        clear hat hown hLk he
        have hk1 : (k : Int) < (l.length : Int) := by omega
        have j4 : (0 : Int) ≤ (k : Int) := by omega
        obtain ⟨d, hd⟩ : ∃ d, (l[k].kind == 1) = d := ⟨_, rfl⟩
        have HD := Lib.hid hd
        have HY : Hid (onlyIs false l[k] = !d) := by (rw [← hd]; unfold Hid onlyIs; cases h : (l[k].kind == 1) <;> simp [bne, h])
        clear hd
        have P0 : Hid ((L.flatMap DNote.cells).set (m * 4) (.int .i64 l[k].kind) = (L.set m (⟨l[k].kind, L[m].n, L[m].uid, L[m].name⟩ : DNote)).flatMap DNote.cells) := by
          have := flat_set1 DNote.cells_len L m 0 (by first | omega | (simp; omega)) (by omega) (.int .i64 l[k].kind) (⟨l[k].kind, L[m].n, L[m].uid, L[m].name⟩ : DNote) (by simp [DNote.cells])
          simpa [Hid, List.set_set] using this
        have P1 : Hid (((L.set m (⟨l[k].kind, L[m].n, L[m].uid, L[m].name⟩ : DNote)).flatMap DNote.cells).set (m * 4 + 1) (.int .i64 l[k].n) = (L.set m (⟨l[k].kind, l[k].n, L[m].uid, L[m].name⟩ : DNote)).flatMap DNote.cells) := by
          have := flat_set1 DNote.cells_len (L.set m (⟨l[k].kind, L[m].n, L[m].uid, L[m].name⟩ : DNote)) m 1 (by first | omega | (simp; omega)) (by omega) (.int .i64 l[k].n) (⟨l[k].kind, l[k].n, L[m].uid, L[m].name⟩ : DNote) (by simp [DNote.cells])
          simpa [Hid, List.set_set] using this
        have P2 : Hid (((L.set m (⟨l[k].kind, l[k].n, L[m].uid, L[m].name⟩ : DNote)).flatMap DNote.cells).set (m * 4 + 2) (.int .i64 l[k].uid) = (L.set m (⟨l[k].kind, l[k].n, l[k].uid, L[m].name⟩ : DNote)).flatMap DNote.cells) := by
          have := flat_set1 DNote.cells_len (L.set m (⟨l[k].kind, l[k].n, L[m].uid, L[m].name⟩ : DNote)) m 2 (by first | omega | (simp; omega)) (by omega) (.int .i64 l[k].uid) (⟨l[k].kind, l[k].n, l[k].uid, L[m].name⟩ : DNote) (by simp [DNote.cells])
          simpa [Hid, List.set_set] using this
        have P3 : Hid (((L.set m (⟨l[k].kind, l[k].n, l[k].uid, L[m].name⟩ : DNote)).flatMap DNote.cells).set (m * 4 + 3) (.string l[k].name) = (L.set m l[k]).flatMap DNote.cells) := by
          have := flat_set1 DNote.cells_len (L.set m (⟨l[k].kind, l[k].n, l[k].uid, L[m].name⟩ : DNote)) m 3 (by first | omega | (simp; omega)) (by omega) (.string l[k].name) l[k] (by simp [DNote.cells])
          simpa [Hid, List.set_set] using this
        cases d
        · have hyes := delRow_yes hlt HY.out
          have hyes2 := onlyTo_yes hlt HY.out
          have HW : Hid (delRow false l (k + 1) = L.set m l[k]) := by (have := hyes; rw [HL.out, HM.out] at this; exact this)
          have HV : Hid ((onlyTo false l (k + 1)).length = m + 1) := by (unfold Hid; rw [hyes2, List.length_append, HM.out]; rfl)
          clear hyes hyes2
          go_wp2_with (go_loud (go_at_call 60; refine (isBoxNote_any l[k] _ _ HD).mono ?_; rintro e w1 ⟨rfl, hb1⟩; have v0 : w1.cell? ⟨wr.heap.size, 0, none⟩ = some (.int .i64 l[k].kind) := (hb1.cell (p := ⟨wr.heap.size, 0, none⟩) (by simp)).trans (keep_new rfl); have v1 : w1.cell? ⟨wr.heap.size, 1, none⟩ = some (.int .i64 l[k].n) := (hb1.cell (p := ⟨wr.heap.size, 1, none⟩) (by simp)).trans (keep_new rfl); have v2 : w1.cell? ⟨wr.heap.size, 2, none⟩ = some (.int .i64 l[k].uid) := (hb1.cell (p := ⟨wr.heap.size, 2, none⟩) (by simp)).trans (keep_new rfl); have v3 : w1.cell? ⟨wr.heap.size, 3, none⟩ = some (.string l[k].name) := (hb1.cell (p := ⟨wr.heap.size, 3, none⟩) (by simp)).trans (keep_new rfl); obtain ⟨⟨z0, hz0⟩, hy0⟩ := (HO.out.ext (show Ext wr w1 from bxt)).slot (m * 4) (by omega); obtain ⟨⟨z1, hz1⟩, hy1⟩ := (HO.out.ext (show Ext wr w1 from bxt)).slot (m * 4 + 1) (by omega); obtain ⟨⟨z2, hz2⟩, hy2⟩ := (HO.out.ext (show Ext wr w1 from bxt)).slot (m * 4 + 2) (by omega); obtain ⟨⟨z3, hz3⟩, hy3⟩ := (HO.out.ext (show Ext wr w1 from bxt)).slot (m * 4 + 3) (by omega); have s1 : wr.heap.size < w1.heap.size := (by have hss := hb1.size; simp at hss; omega)))
          go_roundw
          case rel =>
            refine ⟨k + 1, by omega, by go_num, ?_, by rw [HV.out]; omega, ?_, ?_⟩
            · rw [HV.out]; go_num
            · rw [HW.out]
              exact (by repeat' (first | with_reducible exact HO.out | with_reducible refine Own.set_below ?_ smx _ | with_reducible refine Own.put1 ?_ (show c ≠ 0 by omega) P0.out | with_reducible refine Own.put1 ?_ (show c ≠ 0 by omega) P1.out | with_reducible refine Own.put1 ?_ (show c ≠ 0 by omega) P2.out | with_reducible refine Own.put1 ?_ (show c ≠ 0 by omega) P3.out | with_reducible refine Own.alloc1 ?_ _ | with_reducible refine Own.drew1 ?_ | with_reducible refine Own.drewN1 ?_ | with_reducible refine Own.ext ?_ (by assumption)))
            · exact (by repeat' (first | with_reducible exact World.grownBy.refl _ _ | with_reducible exact HG.out | with_reducible refine grown_al ?_ _ | with_reducible refine grown_st ?_ smx _ | with_reducible refine grown_so ?_ (by simp [foot]; omega) _ | with_reducible refine grown_dr ?_ | with_reducible refine grown_drN ?_ | with_reducible refine grown_trans ?_ (grown_ext (by assumption))))
          case measure => simp [intOf]; omega
        · have HW : Hid (delRow false l (k + 1) = L) := by (have := delRow_no hlt HY.out; rw [HL.out] at this; exact this)
          have HV : Hid ((onlyTo false l (k + 1)).length = m) := by (unfold Hid; rw [onlyTo_no hlt HY.out, HM.out])
          go_wp2_with (go_loud (go_at_call 60; refine (isBoxNote_any l[k] _ _ HD).mono ?_; rintro e w1 ⟨rfl, hb1⟩))
          go_roundw
          case rel =>
            refine ⟨k + 1, by omega, by go_num, by rw [HV.out], by rw [HV.out]; omega, ?_, ?_⟩
            · rw [HW.out]
              exact (by repeat' (first | with_reducible exact HO.out | with_reducible refine Own.set_below ?_ smx _ | with_reducible refine Own.alloc1 ?_ _ | with_reducible refine Own.drew1 ?_ | with_reducible refine Own.drewN1 ?_ | with_reducible refine Own.ext ?_ (by assumption)))
            · exact (by repeat' (first | with_reducible exact World.grownBy.refl _ _ | with_reducible exact HG.out | with_reducible refine grown_al ?_ _ | with_reducible refine grown_st ?_ smx _ | with_reducible refine grown_so ?_ (by simp [foot]; omega) _ | with_reducible refine grown_dr ?_ | with_reducible refine grown_drN ?_ | with_reducible refine grown_trans ?_ (grown_ext (by assumption))))
          case measure => simp [intOf]; omega
      · have hkl : k = l.length := by omega
        have hall := onlyTo_all false l k hk hlt
        rw [Hr.out] at hall
        have hrm : r.length = m := by rw [← hall]; exact HM.out
        have hLm : L.take m = r := by (rw [← HL.out]; unfold delRow; rw [hall, hrm, ← hrm, List.take_left])
        have HC : Hid (Own wr B 36 4 (.slice (some ⟨gb, 0, none⟩) m c) m (r.flatMap DNote.cells)) := by
          rw [← hLm, ← flat_take DNote.cells_len]
          exact HO.out.cut (by omega)
        have HRM := Lib.hid hrm
        clear hall hrm hLm hown
        have k2 : l.length ≤ c := by omega
        have k3 : (m : Int) ≤ (l.length : Int) := by omega
        have k4 : (l.length : Int) ≤ (c : Int) := by omega
        have k5 : (m : Int) ≤ (c : Int) := by omega
        have k6 : m ≤ l.length := by omega
        have k7 : ¬ c = m := by omega
        have hz : ∀ w, (zeroValue 36).run Try.prog w = .ok (.agg #[.int .i64 0, .int .i64 0, .int .i64 0, .string ⟨#[]⟩]) w := fun w => by kernel_rfl
        have hz1 : ∀ u ∈ (Builtin.zeroCells (Value.agg #[.int .i64 0, .int .i64 0, .int .i64 0, .string ⟨#[]⟩]).cells (l.length - m)).toList, u.oneCell' = true := zeroCells_one _ (by decide) (of_decide_eq_true (by kernel_rfl))
        have HZ1 := Lib.hid hz1
        have HZ := Lib.hid hz
        clear hz hz1
        go_wp2_with (go_loud (refine wpList_clr rfl (.tmp 38) 32 rfl 36 (.agg #[.int .i64 0, .int .i64 0, .int .i64 0, .string ⟨#[]⟩]) Try.underlying32 HZ.out rfl HZ1.out HC.out (m * 4) (c - m) rfl rfl (by omega) (by omega) ?_; intro w2 hown2 hg2; have H2 := Lib.hid hown2; have HG2 := Lib.hid hg2; clear hown2 hg2))
        go_ret
        rw [HRM.out]
        refine ⟨rfl, H2.out, ?_⟩
        have hh := HG2.out
        rw [foot_len _ m l.length c] at hh
        exact grown_trans HG.out hh
end Go.Proofs.Ytgobkfnmagcgcaa
