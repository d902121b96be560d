/-
  The replies of a text, line by line: RepliesIn of the program and of the reference.
-/
import Derived.Test.YtidfhkdonhjgaaaGreatDoorWRdS
import Derived.Test.YtidfhkdonhjgaaaGreatDoorWLines
namespace Go.Proofs.YtidfhkdonhjgaaaGreatDoor
open Go.RowKit
set_option linter.unusedVariables false
set_option linter.unusedSimpArgs false

theorem lnsL_size : ∀ (n : Nat) (acc s : List UInt8), s.length ≤ n → ∀ x ∈ lnsL acc s, x.length ≤ acc.length + s.length
  | _, acc, [], _, x, h => by simp [lnsL] at h
  | _, acc, [_], _, x, h => by simp [lnsL] at h
  | 0, acc, x :: y :: t, hn, z, h => by simp at hn
  | n + 1, acc, x :: y :: t, hn, z, h => by
    have hn' : t.length + 1 ≤ n := by simpa using hn
    unfold lnsL at h
    split at h
    · rw [List.mem_cons] at h
      rcases h with rfl | h
      · omega
      · have := lnsL_size n [] t (by omega) z h; simp at this ⊢; omega
    · have := lnsL_size n (acc ++ [x]) (y :: t) (by simpa using hn') z h; simp at this ⊢; omega
theorem lnB_size {s x : ByteArray} (h : x ∈ lnB s) : x.size ≤ s.size := by
  unfold lnB at h
  obtain ⟨l, hl, rfl⟩ := List.mem_map.1 h
  have := lnsL_size _ [] s.data.toList (Nat.le_refl _) l hl
  rw [show (⟨l.toArray⟩ : ByteArray) = bs l from rfl, bs_size]
  simp at this
  exact this
/-- the replies of the first lines -/
def Pre (P : List UInt8 → DReply → Bool → Prop) (ls : List ByteArray) (rs : List DReply) : Prop := rs.length ≤ ls.length ∧ ∀ i (h1 : i < rs.length) (h2 : i < ls.length), P ls[i].data.toList rs[i] true
def Reps (P : List UInt8 → DReply → Bool → Prop) (ls : List ByteArray) (rs : List DReply) (a : Int) : Prop :=
  Pre P ls rs ∧ ((a = -1 ∧ rs.length = ls.length) ∨ ∃ h : rs.length < ls.length, a = (rs.length : Int) ∧ ∃ r, P ls[rs.length].data.toList r false)
theorem reps_eq {ls : List ByteArray} {rs rs' : List DReply} {a a' : Int} (h : Reps ReadU ls rs a) (h' : Reps Read0 ls rs' a') : rs' = rs ∧ a' = a := by
  have hl : rs'.length = rs.length := by
    rcases Nat.lt_trichotomy rs'.length rs.length with hlt | he | hgt
    · rcases h'.2 with ⟨_, h2⟩ | ⟨h2, _, r, hr⟩
      · have := h.1.1; omega
      · have h3 := h.1.2 rs'.length hlt h2
        have := (read_eq h3 hr).2
        cases this
    · exact he
    · rcases h.2 with ⟨_, h2⟩ | ⟨h2, _, r, hr⟩
      · have := h'.1.1; omega
      · have h3 := h'.1.2 rs.length hgt h2
        have := (read_eq hr h3).2
        cases this
  refine ⟨?_, ?_⟩
  · apply List.ext_getElem hl
    intro i h1 h2
    exact (read_eq (h.1.2 i h2 (by have := h.1.1; omega)) (h'.1.2 i h1 (by have := h.1.1; omega))).1
  · rcases h.2 with ⟨e1, e2⟩ | ⟨e1, e2, _⟩
    · rcases h'.2 with ⟨g1, g2⟩ | ⟨g1, g2, _⟩
      · rw [e1, g1]
      · omega
    · rcases h'.2 with ⟨g1, g2⟩ | ⟨g1, g2, _⟩
      · omega
      · rw [e2, g2, hl]
theorem Pre.next {P : List UInt8 → DReply → Bool → Prop} {ls : List ByteArray} {rs : List DReply} (h : Pre P ls rs) (hk : rs.length < ls.length) {r : DReply} (hr : P ls[rs.length].data.toList r true) : Pre P ls (rs ++ [r]) := by
  refine ⟨by simp; omega, fun i h1 h2 => ?_⟩
  rcases Nat.lt_or_ge i rs.length with hl | hl
  · rw [List.getElem_append_left hl]; exact h.2 i hl h2
  · have : i = rs.length := by simp at h1; omega
    subst this
    rw [List.getElem_append_right (Nat.le_refl _)]
    simpa using hr
def ReSz (rs : List DReply) : Prop := ∀ x ∈ rs, x.name.size ≤ 1048576 ∧ x.text.size ≤ 1048576
def RepPost (P : List UInt8 → DReply → Bool → Prop) (s : ByteArray) (w : World) (e : Ending) (w' : World) : Prop :=
  ∃ (rs : List DReply) (a : Int) (g : Option Addr) (q : Nat), e = .returned (.tuple #[.slice g rs.length q, .int .i64 a]) ∧ Reps P (lnB s) rs a ∧ Own w' w.heap.size 23 6 (.slice g rs.length q) rs.length (rs.flatMap DReply.cells) ∧ Ext w w' ∧ ReSz rs
def RinRel (P : List UInt8 → DReply → Bool → Prop) (ls : List ByteArray) (W : World) (v4 vi : Value) (wr : World) : Prop :=
  ∃ (rs : List DReply) (g : Option Addr) (q : Nat), rs.length ≤ ls.length ∧ vi = .int .i64 rs.length ∧ v4 = .slice g rs.length q ∧ Hid (Pre P ls rs) ∧ Hid (Own wr W.heap.size 23 6 (.slice g rs.length q) rs.length (rs.flatMap DReply.cells)) ∧ Ext W wr ∧ Hid (ReSz rs)

set_option maxRecDepth 100000 in
set_option maxHeartbeats 8000000 in
theorem specRepliesIn_any (s : ByteArray) (w : World) (hs : s.size ≤ 1048576) :
    Calls Tryz.prog 16 #[.string s] w (RepPost Read0 s w) := by
  obtain ⟨i0, hi, hz0, hz1, hz2⟩ := info_parts info_Reply
  obtain ⟨L, hL⟩ : ∃ L, lnB s = L := ⟨_, rfl⟩
  have hLl : L.length ≤ 1048576 := by rw [← hL]; exact Nat.le_trans (lnB_len s) hs
  have HLS : Hid (∀ x ∈ L, x.size ≤ 1048576) := fun x hx => by rw [← hL] at hx; exact Nat.le_trans (lnB_size hx) hs
  have HL := Lib.hid hL
  skip
  clear hL
  go_enter Tryz.func16, Tryz.ntmps16
  go_wp2_with fail
  refine (specLinesIn_any s _ hs L HL).mono ?_
  rintro e w1 ⟨gl, ql, rfl, hol, hb1⟩
  have hE1 : Ext w w1 := Below.ext (show Ext w _ from bxt) hb1
  have hs1 := hE1.size
  have HRL := Lib.hid (Rd.of_Own hol)
  clear hol
  go_wp2_with fail
  go_loopw [4, 6, 7, 8] (fun v4 v6 _ _ wr => RinRel Read0 L w1 v4 v6 wr) (fun _ i _ _ _ => L.length - (intOf i).toNat)
  case atStart => exact ⟨[], some ⟨w.heap.size, 0, none⟩, 0, Nat.zero_le _, rfl, rfl, Lib.hid ⟨Nat.zero_le _, fun i h => absurd h (Nat.not_lt_zero _)⟩, Own.none0 _, Below.refl _ _, Lib.hid (fun x hx => by cases hx)⟩
  case round =>
    obtain ⟨rs, g, q, hk, rfl, rfl, HP, HO, hb, HZ⟩ := hrel
    have hbs := hb.size
    by_cases hlt : rs.length < L.length
    · have k1 : (rs.length : Int) < (L.length : Int) := by omega
      have k3 : (0 : Int) ≤ (rs.length : Int) := by omega
      have k5 : decide ((rs.length : Int) < (L.length : Int)) = true := decide_eq_true k1
      obtain ⟨bb, o, rfl, hb0, hat⟩ := HRL.out.ptr (by omega)
      have hc1 : wr.cell? ⟨bb, o + rs.length, none⟩ = some (.string L[rs.length]) := (hb.cell (p := ⟨bb, o + rs.length, none⟩) hb0).trans (strCells_at hat rs.length hlt)
      have hys := HLS.out L[rs.length] (List.getElem_mem hlt)
      have hnx := fun (r : DReply) (h : Read0 L[rs.length].data.toList r true) => HP.out.next hlt h
      have hst := fun (r : DReply) (h : Read0 L[rs.length].data.toList r false) => (show Reps Read0 L rs (rs.length : Int) from ⟨HP.out, Or.inr ⟨hlt, rfl, r, h⟩⟩)
      obtain ⟨y, hy⟩ : ∃ y, L[rs.length] = y := ⟨_, rfl⟩
      rw [hy] at hc1 hys
      simp only [hy] at hnx hst
      have HNX := Lib.hid hnx
      have HST := Lib.hid hst
      clear hat hnx hst hy
      go_wp2_with fail
      refine (specReadReply_any y _ hys).mono ?_
      rintro e w2 ⟨x, ok, rfl, hx, hb2, hxn, hxt⟩
      have hE12 : Ext w1 w2 := Below.ext hb hb2
      have hE2 : Ext w w2 := Below.ext hE1 hE12
      have hs12 := hE12.size
      have HO2 := Lib.hid (HO.out.ext hb2)
      cases ok with
      | false =>
        have HRS : Hid (Reps Read0 (lnB s) rs (rs.length : Int)) := by rw [HL.out]; exact HST.out x hx
        clear hx
        go_wp2_with fail
        refine bodyPost_ret (v := .tuple #[.slice g rs.length q, .int .i64 rs.length]) (by simp [results, Tryz.results16, go_sem, *]) rfl ?_
        exact ⟨rs, rs.length, g, q, rfl, HRS.out, (HO2.out.ext bxt).le (by omega), bxt, HZ.out⟩
      | true =>
        have HN := Lib.hid (HNX.out x hx)
        clear hx
        go_wp2_with ((at_builtin; refine wpList_appL (B := w1.heap.size) (v := .slice g rs.length q) rfl _ _ 34 rfl 23 i0 _ _ Tryz.underlying34 hi hz0 hz1 hz2 rfl (by decide) rfl (HO2.out.ext bxt) (some ⟨w2.heap.size + 1, 0, none⟩) 1 1 [.int .i64 x.kind, .int .i64 x.n, .int .i64 x.uid, .int .i64 x.flags, .string x.name, .string x.text] rfl (Rd.lit _ #[.int .i64 x.kind, .int .i64 x.n, .int .i64 x.uid, .int .i64 x.flags, .string x.name, .string x.text] 23 1 6 (w2.heap.size + 1) (by simp) rfl (by omega)) (by simp [Value.oneCell']) (by omega) (by omega) (by simp; omega) ?_))
        intro g3 q3 w3 hown hg hwl
        have hb3 : Ext w1 w3 := Below.grown (Below.ext hE12 (show Ext w2 _ from bxt)) hg (by simp; omega) (fun z hz => (HO2.out.lt z hz).1)
        have HO3 : Hid (Own w3 w1.heap.size 23 6 (.slice g3 (rs ++ [x]).length q3) (rs ++ [x]).length ((rs ++ [x]).flatMap DReply.cells)) := by
          unfold Hid
          rw [List.flatMap_append, show (rs ++ [x]).length = rs.length + 1 by simp]
          exact hown
        have HV : Hid ((Value.slice g3 (rs.length + 1) q3) = .slice g3 (rs ++ [x]).length q3) := by unfold Hid; simp
        have HI : Hid (Value.int .i64 ((rs.length : Int) + 1) = .int .i64 ((rs ++ [x]).length : Int)) := by unfold Hid; simp
        have HZ3 : Hid (ReSz (rs ++ [x])) := fun z hz => by
          rw [List.mem_append] at hz
          rcases hz with hz | hz
          · exact HZ.out z hz
          · simp only [List.mem_singleton] at hz; subst hz; exact ⟨hxn, hxt⟩
        have hle : (rs ++ [x]).length ≤ L.length := by simp; omega
        have HLE := Lib.hid hle
        clear hown hg hwl hle
        go_wp2_with fail
        refine ⟨?rel, ?measure⟩
        case rel => exact ⟨rs ++ [x], g3, q3, HLE.out, HI.out, HV.out, HN, HO3, hb3, HZ3⟩
        case measure => simp [intOf]; omega
    · have k5 : decide ((rs.length : Int) < (L.length : Int)) = false := decide_eq_false (by omega)
      have HRS : Hid (Reps Read0 (lnB s) rs (-1)) := by rw [HL.out]; exact ⟨HP.out, Or.inl ⟨rfl, by omega⟩⟩
      go_wp2_with fail
      refine bodyPost_ret (v := .tuple #[.slice g rs.length q, .int .i64 (-1)]) (by simp [results, Tryz.results16, go_sem, *]) rfl ?_
      exact ⟨rs, -1, g, q, rfl, HRS.out, HO.out.le (by omega), Below.ext hE1 hb, HZ.out⟩
set_option maxRecDepth 100000 in
set_option maxHeartbeats 8000000 in
theorem implRepliesIn_any (s : ByteArray) (w : World) (hg : Gl w) (hs : s.size ≤ 1048576) :
    Calls Tryz.prog 17 #[.string s] w (RepPost ReadU s w) := by
  obtain ⟨i0, hi, hz0, hz1, hz2⟩ := info_parts info_Reply
  obtain ⟨L, hL⟩ : ∃ L, lnB s = L := ⟨_, rfl⟩
  have hLl : L.length ≤ 1048576 := by rw [← hL]; exact Nat.le_trans (lnB_len s) hs
  have HLS : Hid (∀ x ∈ L, x.size ≤ 1048576) := fun x hx => by rw [← hL] at hx; exact Nat.le_trans (lnB_size hx) hs
  have HL := Lib.hid hL
  have HG := Lib.hid hg
  clear hg
  clear hL
  go_enter Tryz.func17, Tryz.ntmps17
  go_wp2_with fail
  refine (implLinesIn_any s _ (HG.out.mx.ext bxt) hs L HL).mono ?_
  rintro e w1 ⟨gl, ql, rfl, hol, hb1⟩
  have hE1 : Ext w w1 := Below.ext (show Ext w _ from bxt) hb1
  have hs1 := hE1.size
  have HRL := Lib.hid (Rd.of_Own hol)
  clear hol
  go_wp2_with fail
  go_loopw [4, 5, 6, 7, 8, 13] (fun v4 _ _ _ _ v13 wr => RinRel ReadU L w1 v4 v13 wr) (fun _ _ _ _ _ i _ => L.length - (intOf i).toNat)
  case atStart => exact ⟨[], some ⟨w.heap.size, 0, none⟩, 0, Nat.zero_le _, rfl, rfl, Lib.hid ⟨Nat.zero_le _, fun i h => absurd h (Nat.not_lt_zero _)⟩, Own.none0 _, Below.refl _ _, Lib.hid (fun x hx => by cases hx)⟩
  case round =>
    obtain ⟨rs, g, q, hk, rfl, rfl, HP, HO, hb, HZ⟩ := hrel
    have hbs := hb.size
    by_cases hlt : rs.length < L.length
    · have k1 : (rs.length : Int) < (L.length : Int) := by omega
      have k3 : (0 : Int) ≤ (rs.length : Int) := by omega
      have k5 : decide ((rs.length : Int) < (L.length : Int)) = true := decide_eq_true k1
      obtain ⟨bb, o, rfl, hb0, hat⟩ := HRL.out.ptr (by omega)
      have hc1 : wr.cell? ⟨bb, o + rs.length, none⟩ = some (.string L[rs.length]) := (hb.cell (p := ⟨bb, o + rs.length, none⟩) hb0).trans (strCells_at hat rs.length hlt)
      have hys := HLS.out L[rs.length] (List.getElem_mem hlt)
      have hnx := fun (r : DReply) (h : ReadU L[rs.length].data.toList r true) => HP.out.next hlt h
      have hst := fun (r : DReply) (h : ReadU L[rs.length].data.toList r false) => (show Reps ReadU L rs (rs.length : Int) from ⟨HP.out, Or.inr ⟨hlt, rfl, r, h⟩⟩)
      obtain ⟨y, hy⟩ : ∃ y, L[rs.length] = y := ⟨_, rfl⟩
      rw [hy] at hc1 hys
      simp only [hy] at hnx hst
      have HNX := Lib.hid hnx
      have HST := Lib.hid hst
      clear hat hnx hst hy
      go_wp2_with fail
      refine (implReadReply_any y _ (HG.out.ext (show Ext w wr from Below.ext hE1 hb)) hys).mono ?_
      rintro e w2 ⟨x, ok, rfl, hx, hb2, hxn, hxt⟩
      have hE12 : Ext w1 w2 := Below.ext hb hb2
      have hE2 : Ext w w2 := Below.ext hE1 hE12
      have hs12 := hE12.size
      have HO2 := Lib.hid (HO.out.ext hb2)
      cases ok with
      | false =>
        have HRS : Hid (Reps ReadU (lnB s) rs (rs.length : Int)) := by rw [HL.out]; exact HST.out x hx
        clear hx
        go_wp2_with fail
        refine bodyPost_ret (v := .tuple #[.slice g rs.length q, .int .i64 rs.length]) (by simp [results, Tryz.results17, go_sem, *]) rfl ?_
        exact ⟨rs, rs.length, g, q, rfl, HRS.out, (HO2.out.ext bxt).le (by omega), bxt, HZ.out⟩
      | true =>
        have HN := Lib.hid (HNX.out x hx)
        clear hx
        go_wp2_with ((at_builtin; refine wpList_appL (B := w1.heap.size) (v := .slice g rs.length q) rfl _ _ 34 rfl 23 i0 _ _ Tryz.underlying34 hi hz0 hz1 hz2 rfl (by decide) rfl (HO2.out.ext bxt) (some ⟨w2.heap.size + 1, 0, none⟩) 1 1 [.int .i64 x.kind, .int .i64 x.n, .int .i64 x.uid, .int .i64 x.flags, .string x.name, .string x.text] rfl (Rd.lit _ #[.int .i64 x.kind, .int .i64 x.n, .int .i64 x.uid, .int .i64 x.flags, .string x.name, .string x.text] 23 1 6 (w2.heap.size + 1) (by simp) rfl (by omega)) (by simp [Value.oneCell']) (by omega) (by omega) (by simp; omega) ?_))
        intro g3 q3 w3 hown hg hwl
        have hb3 : Ext w1 w3 := Below.grown (Below.ext hE12 (show Ext w2 _ from bxt)) hg (by simp; omega) (fun z hz => (HO2.out.lt z hz).1)
        have HO3 : Hid (Own w3 w1.heap.size 23 6 (.slice g3 (rs ++ [x]).length q3) (rs ++ [x]).length ((rs ++ [x]).flatMap DReply.cells)) := by
          unfold Hid
          rw [List.flatMap_append, show (rs ++ [x]).length = rs.length + 1 by simp]
          exact hown
        have HV : Hid ((Value.slice g3 (rs.length + 1) q3) = .slice g3 (rs ++ [x]).length q3) := by unfold Hid; simp
        have HI : Hid (Value.int .i64 ((rs.length : Int) + 1) = .int .i64 ((rs ++ [x]).length : Int)) := by unfold Hid; simp
        have HZ3 : Hid (ReSz (rs ++ [x])) := fun z hz => by
          rw [List.mem_append] at hz
          rcases hz with hz | hz
          · exact HZ.out z hz
          · simp only [List.mem_singleton] at hz; subst hz; exact ⟨hxn, hxt⟩
        have hle : (rs ++ [x]).length ≤ L.length := by simp; omega
        have HLE := Lib.hid hle
        clear hown hg hwl hle
        go_wp2_with fail
        refine ⟨?rel, ?measure⟩
        case rel => exact ⟨rs ++ [x], g3, q3, HLE.out, HI.out, HV.out, HN, HO3, hb3, HZ3⟩
        case measure => simp [intOf]; omega
    · have k5 : decide ((rs.length : Int) < (L.length : Int)) = false := decide_eq_false (by omega)
      have HRS : Hid (Reps ReadU (lnB s) rs (-1)) := by rw [HL.out]; exact ⟨HP.out, Or.inl ⟨rfl, by omega⟩⟩
      go_wp2_with fail
      refine bodyPost_ret (v := .tuple #[.slice g rs.length q, .int .i64 (-1)]) (by simp [results, Tryz.results17, go_sem, *]) rfl ?_
      exact ⟨rs, -1, g, q, rfl, HRS.out, HO.out.le (by omega), Below.ext hE1 hb, HZ.out⟩
end Go.Proofs.YtidfhkdonhjgaaaGreatDoor
