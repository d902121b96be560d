/-
  A reply out of its text: the reference's ReadReply.
-/
import Derived.Test.YtidfhkdonhjgaaaGreatDoorWRdI
import Derived.Test.YtidfhkdonhjgaaaGreatDoorWKds
import Derived.Test.YtidfhkdonhjgaaaGreatDoorWRTs
import Derived.Deep.RegionHeldLaw
namespace Go.Proofs.YtidfhkdonhjgaaaGreatDoor
open Go.RowKit
set_option linter.unusedVariables false
set_option linter.unusedSimpArgs false

theorem strs_one (l : List ByteArray) : ∀ u ∈ l.flatMap strCells, u.oneCell' = true := by
  rw [flat_strs]
  intro u hu
  obtain ⟨x, _, rfl⟩ := List.mem_map.1 hu
  rfl
theorem reps_one (l : List DReply) : ∀ u ∈ l.flatMap DReply.cells, u.oneCell' = true := by
  intro u hu
  obtain ⟨x, _, hx⟩ := List.mem_flatMap.1 hu
  simp only [DReply.cells, List.mem_cons, List.not_mem_nil, or_false] at hx
  rcases hx with rfl | rfl | rfl | rfl | rfl | rfl <;> rfl
theorem rd_drop1 {w : World} {b o q : Nat} {xs : List ByteArray} (h : Rd w (some ⟨b, o, none⟩) q 1 xs.length (xs.flatMap strCells)) (h1 : 1 ≤ xs.length) : Rd w (some ⟨b, o + 1, none⟩) (q - 1) 1 (xs.length - 1) ((xs.drop 1).flatMap strCells) := by
  obtain ⟨b', o', e', hb', hat'⟩ := h.ptr (by omega)
  injection e' with e'
  injection e' with e1 e2
  subst e1 e2
  have hnc := h.nc
  refine ⟨by rw [flat_strs]; simp, by omega, by have := h.cm; omega, fun _ => ⟨b, o + 1, rfl, hb', ?_⟩⟩
  have e : (xs.drop 1).flatMap strCells = (xs.flatMap strCells).drop 1 := by rw [flat_strs, flat_strs, List.map_drop]
  rw [e]
  exact hat'.drop 1
/-- the words behind the first, and an empty one -/
def moreL (L : List (List UInt8)) : List ByteArray := (L.drop 1).map bs ++ [⟨#[]⟩]
theorem moreL_len {L : List (List UInt8)} (h : 1 ≤ L.length) : (moreL L).length = L.length := by simp [moreL]; omega
theorem moreL_at (L : List (List UInt8)) (i : Nat) : (moreL L).getD i ⟨#[]⟩ = bs (L.getD (i + 1) []) := by
  unfold moreL
  rw [List.getD_eq_getElem?_getD, List.getD_eq_getElem?_getD]
  rcases Nat.lt_or_ge i (L.drop 1).length with h | h
  · rw [List.getElem?_append_left (by simpa using h), List.getElem?_map, List.getElem?_drop, Nat.add_comm 1 i]
    have : i + 1 < L.length := by simp at h; omega
    rw [List.getElem?_eq_getElem this]; rfl
  · have h2 : L.length ≤ i + 1 := by simp at h; omega
    rw [List.getElem?_append_right (by simpa using h), List.getElem?_eq_none h2]
    cases hd : i - (List.map bs (List.drop 1 L)).length with
    | zero => rfl
    | succ n => rfl
theorem moreL_mid {L : List (List UInt8)} (h : 1 ≤ L.length) : dat (((moreL L).take ((moreL L).length - 1)).drop 3) = L.drop 4 := by
  rw [moreL_len h]
  unfold moreL
  rw [List.take_append_of_le_length (by simp), List.take_of_length_le (by simp), ← List.map_drop, map_bs_dat, List.drop_drop]
theorem join_tail_le (sep : List UInt8) (L : List (List UInt8)) : (Lib.join (L.drop 1) sep).length ≤ (Lib.join L sep).length := by
  cases L with
  | nil => exact Nat.le_refl _
  | cons x r =>
    cases r with
    | nil => simp [Lib.join_nil]
    | cons y r =>
      rw [List.drop_one, List.tail_cons, Lib.join_length, Lib.join_length]
      simp only [Lib.lens, List.map_cons, List.sum_cons, List.length_cons]
      rw [Nat.mul_add]
      omega
theorem join_drop_le (sep : List UInt8) (L : List (List UInt8)) : ∀ k, (Lib.join (L.drop k) sep).length ≤ (Lib.join L sep).length
  | 0 => Nat.le_refl _
  | k + 1 => by
    have h1 := join_drop_le sep L k
    have h2 := join_tail_le sep (L.drop k)
    rw [List.drop_drop] at h2
    omega
def list4 (v : List UInt8) : List DReply := [⟨15, 0, 0, 0, ⟨#[]⟩, ⟨#[]⟩⟩, ⟨12, 0, 0, 0, bs v, ⟨#[]⟩⟩, ⟨13, 0, 0, 0, bs v, ⟨#[]⟩⟩, ⟨14, 0, 0, 0, bs v, ⟨#[]⟩⟩]
theorem kinds_in {x1 : ByteArray} {n : Nat} {a c d f : Int} {t : ByteArray} {x : DReply} (h : x ∈ kindsL x1 n a c d f t) : (x.name = ⟨#[]⟩ ∨ x.name = x1) ∧ (x.text = ⟨#[]⟩ ∨ x.text = t) := by
  unfold kindsL at h
  rw [List.mem_append] at h
  rcases h with h | h
  · simp only [List.mem_cons, List.not_mem_nil, or_false] at h
    rcases h with rfl | rfl | rfl | rfl | rfl | rfl | rfl | rfl <;> simp
  · split at h
    · simp only [List.mem_cons, List.not_mem_nil, or_false] at h
      rcases h with rfl | rfl | rfl | rfl <;> simp
    · cases h
theorem list4_in {v : List UInt8} {x : DReply} (h : x ∈ list4 v) : (x.name = ⟨#[]⟩ ∨ x.name = bs v) ∧ x.text = ⟨#[]⟩ := by
  unfold list4 at h
  simp only [List.mem_cons, List.not_mem_nil, or_false] at h
  rcases h with rfl | rfl | rfl | rfl <;> simp
def CdRel (C : List DReply) (s : List UInt8) (W : World) (v7 : Value) (wr : World) : Prop :=
  ∃ k : Nat, k ≤ C.length ∧ v7 = .int .i64 k ∧ Hid (∀ j (hj : j < C.length), j < k → ReplyP C[j] → txA C[j] ≠ s) ∧ Ext W wr
set_option maxRecDepth 100000 in
set_option maxHeartbeats 16000000 in
theorem specReadReply_any (s : ByteArray) (w : World) (hs : s.size ≤ 1048576) :
    Calls Tryz.prog 7 #[.string s] w (RdPost Read0 s w) := by
  obtain ⟨i0, hi, hz0, hz1, hz2⟩ := info_parts info_strL
  obtain ⟨j0, hj, hy0, hy1, hy2⟩ := info_parts info_Reply
  have hU : (undef : Value) = .tuple #[] := rfl
  obtain ⟨L, hL⟩ : ∃ L, partsL 32 [] s.data.toList = L := ⟨_, rfl⟩
  have HL := Lib.hid hL
  have hsz := dlen s
  have hLl : L.length ≤ s.size + 1 := by rw [← hL]; have := parts_len 32 s.data.toList []; omega
  have HPS : Hid (∀ x ∈ L, x.length ≤ s.size) := fun x hx => by
    rw [← hL] at hx
    have := parts_size 32 _ _ x hx
    simp only [List.length_nil] at this
    omega
  have HW : Hid (wordsL s.data.toList = L) := hL
  clear hL
  go_enter Tryz.func7, Tryz.ntmps7
  go_wp2_with fail
  refine (specParts_any 32 s _ hs L HL).mono ?_
  rintro e w1 ⟨g, q, rfl, ho, hb1⟩
  have HO1 := Lib.hid ho
  have hE1 : Ext w w1 := Below.ext (show Ext w _ from bxt) hb1
  have hz1' : w.heap.size < w1.heap.size := by (have := hb1.size; simp at this; omega)
  have hrc : ∀ j v, ([.int .i64 0, .int .i64 0, .int .i64 0, .int .i64 0, .string ⟨#[]⟩, .string ⟨#[]⟩] : List Value)[j]? = some v → w1.cell? ⟨w.heap.size, j, none⟩ = some v ∧ w1.frozen? ⟨w.heap.size, j, none⟩ = false := fun j v hj => by
    have hjl : j < 6 := (List.getElem?_eq_some_iff.1 hj).1
    refine ⟨(hb1.cell (p := ⟨w.heap.size, j, none⟩) (by simp)).trans ?_, (hb1.frozen (p := ⟨w.heap.size, j, none⟩) (by simp)).trans ?_⟩
    · have : j = 0 ∨ j = 1 ∨ j = 2 ∨ j = 3 ∨ j = 4 ∨ j = 5 := by omega
      rcases this with rfl | rfl | rfl | rfl | rfl | rfl <;> (injection hj with hj; subst hj; simp [go_sem]; try rfl)
    · have : j = 0 ∨ j = 1 ∨ j = 2 ∨ j = 3 ∨ j = 4 ∨ j = 5 := by omega
      rcases this with rfl | rfl | rfl | rfl | rfl | rfl <;> simp [go_sem]
  have HRC := Lib.hid hrc
  clear ho hrc
  by_cases hbad : L.length < 2 ∨ 400 < s.size
  · have HN : Hid (Read0 s.data.toList ⟨0, 0, 0, 0, ⟨#[]⟩, ⟨#[]⟩⟩ false) := by
      refine Or.inr ⟨rfl, rfl, fun a ha e => ?_⟩
      have h1 := words_two ha e
      have h2 := txt_len ha
      rw [HW.out] at h1
      rw [e, hsz] at h2
      omega
    have r0 := (HRC.out 0 (.int .i64 0) rfl).1
    have f0 := (HRC.out 0 (.int .i64 0) rfl).2
    have r1 := (HRC.out 1 (.int .i64 0) rfl).1
    have f1 := (HRC.out 1 (.int .i64 0) rfl).2
    have r2 := (HRC.out 2 (.int .i64 0) rfl).1
    have f2 := (HRC.out 2 (.int .i64 0) rfl).2
    have r3 := (HRC.out 3 (.int .i64 0) rfl).1
    have f3 := (HRC.out 3 (.int .i64 0) rfl).2
    have r4 := (HRC.out 4 (.string ⟨#[]⟩) rfl).1
    have f4 := (HRC.out 4 (.string ⟨#[]⟩) rfl).2
    have r5 := (HRC.out 5 (.string ⟨#[]⟩) rfl).1
    have f5 := (HRC.out 5 (.string ⟨#[]⟩) rfl).2
    rcases Nat.lt_or_ge L.length 2 with h2 | h2
    · have d1 : decide ((L.length : Int) < 2) = true := decide_eq_true (by omega)
      clear hbad h2
      go_wp2_with fail
      refine bodyPost_ret (v := .tuple #[.agg #[.int .i64 0, .int .i64 0, .int .i64 0, .int .i64 0, .string ⟨#[]⟩, .string ⟨#[]⟩], .bool false]) (by simp [results, Tryz.results7, go_sem, *]) rfl ?_
      exact ⟨⟨0, 0, 0, 0, ⟨#[]⟩, ⟨#[]⟩⟩, false, rfl, HN.out, bxt, Nat.zero_le _, Nat.zero_le _⟩
    · have d1 : decide ((L.length : Int) < 2) = false := decide_eq_false (by omega)
      have d2 : decide ((400 : Int) < (s.size : Int)) = true := decide_eq_true (by omega)
      clear hbad h2
      go_wp2_with fail
      refine bodyPost_ret (v := .tuple #[.agg #[.int .i64 0, .int .i64 0, .int .i64 0, .int .i64 0, .string ⟨#[]⟩, .string ⟨#[]⟩], .bool false]) (by simp [results, Tryz.results7, go_sem, *]) rfl ?_
      exact ⟨⟨0, 0, 0, 0, ⟨#[]⟩, ⟨#[]⟩⟩, false, rfl, HN.out, bxt, Nat.zero_le _, Nat.zero_le _⟩
  · have d1 : decide ((L.length : Int) < 2) = false := decide_eq_false (by omega)
    have d2 : decide ((400 : Int) < (s.size : Int)) = false := decide_eq_false (by omega)
    have hL2 : 2 ≤ L.length := by omega
    have hs4 : s.size ≤ 400 := by omega
    clear hbad
    have hr := Rd.of_Own HO1.out
    have hnc := hr.nc
    obtain ⟨b, o, rfl, hbl, hat⟩ := hr.ptr (by omega)
    have HAT := Lib.hid hat
    have z0 : w1.cell? ⟨b, o, none⟩ = some (.string (bs (L[0]'(by omega)))) := by
      have h := strCells_at (l := L.map bs) hat 0 (by rw [List.length_map]; omega)
      rw [Nat.add_zero, List.getElem_map] at h
      exact h
    obtain ⟨v0, hv0⟩ : ∃ v, L[0]'(by omega) = v := ⟨_, rfl⟩
    rw [hv0] at z0
    have HV0 := Lib.hid hv0
    have n0 : (0 : Int) < (L.length : Int) := by omega
    have n1 : (1 : Int) ≤ (L.length : Int) := by omega
    have hq1 : ¬ q = 1 := by omega
    clear hat hr hv0
    go_wp2_with fail
    first
      | go_region_held_law (fun w' => w'.cell? ⟨b, o, none⟩ = some (.string (bs v0))) (first | with_reducible exact z0 | (repeat' (first | with_reducible assumption | with_reducible refine keep_alloc ?_ | with_reducible refine keep_drewN ?_ | with_reducible refine keep_drew ?_))) (fail)
      | fail
    all_goals
      obtain ⟨W4, hW4⟩ : ∃ W4, W4 = (w1.alloc (.cells #[.int .i64 15, .int .i64 0, .int .i64 0, .int .i64 0, .string ⟨#[]⟩, .string ⟨#[]⟩, .int .i64 12, .int .i64 0, .int .i64 0, .int .i64 0, .string (bs v0), .string ⟨#[]⟩, .int .i64 13, .int .i64 0, .int .i64 0, .int .i64 0, .string (bs v0), .string ⟨#[]⟩, .int .i64 14, .int .i64 0, .int .i64 0, .int .i64 0, .string (bs v0), .string ⟨#[]⟩] 23)).drew := ⟨_, rfl⟩
      rw [← hW4]
      have hE14 : Ext w1 W4 := by rw [hW4]; exact bxt
      have HO4 : Hid (Own W4 (w.heap.size + 1) 23 6 (.slice (some ⟨w1.heap.size, 0, none⟩) 4 4) 4 ((list4 v0).flatMap DReply.cells)) := by
        unfold Hid
        rw [hW4]
        exact ((own_lit (xs := (list4 v0).flatMap DReply.cells) rfl rfl rfl (by omega)).drew1).le (by omega)
      have hE4 : Ext w W4 := Below.ext hE1 hE14
      have hb14 := hE14.size
      have HR1 := Lib.hid ((rd_drop1 (xs := L.map bs) (by rw [List.length_map]; exact Rd.of_Own HO1.out) (by rw [List.length_map]; omega)).ext hE14)
      have HM1 : Hid ((L.map bs).drop 1 = (L.drop 1).map bs) := by unfold Hid; rw [List.map_drop]
      clear hW4
      go_wp2_with ((at_builtin; refine wpList_appL (B := W4.heap.size) (v := .slice (some ⟨W4.heap.size, 0, none⟩) 0 0) rfl _ _ 45 rfl 9 i0 _ _ Tryz.underlying45 hi hz0 hz1 hz2 rfl (by decide) rfl (Own.none0 _) (some ⟨b, o + 1, none⟩) (L.length - 1) (q - 1) (((L.drop 1).map bs).flatMap strCells) rfl (by (have h := HR1.out; rw [HM1.out, List.length_map] at h; exact h.ext bxt)) (strs_one _) (by omega) (by omega) (by simp) ?_))
      intro g5 q5 w5 hown hg hwl
      try simp only [Nat.zero_add, List.nil_append] at hown hg hwl ⊢
      have hE45 : Ext W4 w5 := Below.grown (show Below W4.heap.size W4 _ from bxt) hg (by simp) (fun x hx => by simp [foot] at hx)
      have HO5 := Lib.hid hown
      have hE5 : Ext w w5 := Below.ext hE4 hE45
      have hb45 := hE45.size
      clear hown hg hwl
      go_wp2_with ((at_builtin; refine wpList_appL (B := W4.heap.size) (v := .slice g5 (L.length - 1) q5) rfl _ _ 45 rfl 9 i0 _ _ Tryz.underlying45 hi hz0 hz1 hz2 rfl (by decide) rfl (HO5.out.ext bxt) (some ⟨w5.heap.size, 0, none⟩) 1 1 (strCells ⟨#[]⟩) rfl (Rd.lit _ _ _ _ 1 _ rfl rfl (by omega)) (by simp [strCells, Value.oneCell']) (by omega) (by omega) (by simp; omega) ?_))
      intro g6 q6 w6 hown hg hwl
      have hl1 : L.length - 1 + 1 = L.length := by omega
      try simp only [hl1] at hown hg hwl ⊢
      have hE46 : Ext W4 w6 := Below.grown (Below.ext hE45 (show Ext w5 _ from bxt)) hg (by simp; omega) (fun x hx => (HO5.out.lt x hx).1)
      have HO6 : Hid (Own w6 W4.heap.size 9 1 (.slice g6 L.length q6) L.length ((moreL L).flatMap strCells)) := by
        have e : (List.map bs L).tail = (L.drop 1).map bs := by simp
        rw [e] at hown
        unfold Hid moreL
        rw [List.flatMap_append]
        exact hown
      have hE6 : Ext w w6 := Below.ext hE4 hE46
      have hb46 := hE46.size
      clear hown hg hwl
      have hml := moreL_len (L := L) (by omega)
      have hkd := l14Kinds_any (moreL L) g6 q6 w6 (by rw [hml]; exact Rd.of_Own HO6.out) (by rw [hml]; exact hL2) (by rw [hml]; omega)
        (fun x hx => by
          unfold moreL at hx
          rw [List.mem_append] at hx
          rcases hx with hx | hx
          · obtain ⟨y, hy, rfl⟩ := List.mem_map.1 hx
            have := HPS.out y (List.mem_of_mem_drop hy)
            rw [bs_size]; omega
          · simp only [List.mem_singleton] at hx; subst hx; decide)
        (by
          rw [moreL_mid (by omega)]
          have h1 := join_drop_le [32] L 4
          have h2 := join_words s.data.toList
          rw [HW.out] at h2
          rw [h2, hsz] at h1
          omega)
      rw [hml] at hkd
      have HKD := Lib.hid hkd
      have HML := Lib.hid hml
      clear hkd hml
      go_wp2_with fail
      refine HKD.out.mono ?_
      rintro e w7 ⟨a, c, d, f, t, K, g7, q7, hK, rfl, hoK, hb7, hts, hna, hrest⟩
      have hE47 : Ext W4 w7 := Below.ext hE46 hb7
      have hE7 : Ext w w7 := Below.ext hE4 hE47
      have hb47 := hE47.size
      have HOK := Lib.hid hoK
      have HO47 := Lib.hid (HO4.out.ext hE47)
      rw [HML.out, moreL_at] at hK
      rw [moreL_at] at hna
      rw [HML.out, moreL_at, moreL_at, ← HML.out, moreL_mid (by omega)] at hrest
      have hKl : K.length ≤ 20 := by rw [hK]; unfold kindsL; split <;> simp
      have HC : Hid (list4 v0 ++ K = candsL s.data.toList a c d f t) := by
        unfold Hid
        rw [hK]
        unfold candsL kindsL list4 wAt
        rw [HW.out]
        have e0 : L.getD 0 [] = v0 := by rw [← HV0.out]; simp [List.getD, show 0 < L.length by omega]
        rw [e0]
        rfl
      have HKK := Lib.hid hK
      have HNA := Lib.hid hna
      have HRS := Lib.hid hrest
      clear hoK hK hna hrest
      go_wp2_with ((at_builtin; refine wpList_appL (B := w.heap.size + 1) (v := .slice (some ⟨w1.heap.size, 0, none⟩) 4 4) rfl _ _ 34 rfl 23 j0 _ _ Tryz.underlying34 hj hy0 hy1 hy2 rfl (by decide) rfl (HO47.out.ext bxt) g7 K.length q7 (K.flatMap DReply.cells) rfl ((Rd.of_Own HOK.out).ext bxt) (reps_one _) (by omega) (by omega) (by omega) ?_))
      intro g8 q8 w8 hown hg hwl
      have hB8 : Below (w.heap.size + 1) w7 w8 := Below.grown (Below.refl _ _) hg (by omega) (fun x hx => (HO47.out.lt x hx).1)
      have hE8 : Ext w w8 := hE7.trans (hB8.mono (by omega))
      have HO8 : Hid (Own w8 (w.heap.size + 1) 23 6 (.slice g8 (4 + K.length) q8) (4 + K.length) ((list4 v0 ++ K).flatMap DReply.cells)) := by
        unfold Hid
        rw [List.flatMap_append]
        exact hown
      have hz8 : w.heap.size < w8.heap.size := by (have := hB8.size; omega)
      have HR8 : Hid (∀ j v, ([.int .i64 0, .int .i64 0, .int .i64 0, .int .i64 0, .string ⟨#[]⟩, .string ⟨#[]⟩] : List Value)[j]? = some v → w8.cell? ⟨w.heap.size, j, none⟩ = some v ∧ w8.frozen? ⟨w.heap.size, j, none⟩ = false) := fun j v hj => by
        have h1 := (Below.ext hE14 hE47)
        have hlt : w.heap.size < w1.heap.size := hz1'
        have h2 := hB8.cell (p := ⟨w.heap.size, j, none⟩) (by show w.heap.size < w.heap.size + 1; omega)
        have h3 := hB8.frozen (p := ⟨w.heap.size, j, none⟩) (by show w.heap.size < w.heap.size + 1; omega)
        have h4 := h1.cell (p := ⟨w.heap.size, j, none⟩) hlt
        have h5 := h1.frozen (p := ⟨w.heap.size, j, none⟩) hlt
        exact ⟨(h2.trans h4).trans (HRC.out j v hj).1, (h3.trans h5).trans (HRC.out j v hj).2⟩
      obtain ⟨C, hC⟩ : ∃ C, list4 v0 ++ K = C := ⟨_, rfl⟩
      have hCl : 4 + K.length = C.length := by rw [← hC]; simp [list4]; omega
      rw [hC, hCl] at HO8
      rw [hC] at HC
      have HSZ : Hid (∀ x ∈ C, x.name.size ≤ 1048576 ∧ x.text.size ≤ 1048576) := fun x hx => by
        rw [← hC, List.mem_append] at hx
        have hwl : ∀ i, (bs (L.getD i [])).size ≤ 1048576 := fun i => by
          rw [bs_size, List.getD_eq_getElem?_getD]
          rcases Nat.lt_or_ge i L.length with h | h
          · rw [List.getElem?_eq_getElem h]; have := HPS.out _ (List.getElem_mem h); simp; omega
          · rw [List.getElem?_eq_none h]; simp
        have e0 : v0 = L.getD 0 [] := by rw [← HV0.out]; simp [List.getD, show 0 < L.length by omega]
        have z0 : (⟨#[]⟩ : ByteArray).size ≤ 1048576 := by decide
        rcases hx with hx | hx
        · obtain ⟨h1, h2⟩ := list4_in hx
          rw [e0] at h1
          exact ⟨h1.elim (fun h => by rw [h]; exact z0) (fun h => by rw [h]; exact hwl 0), by rw [h2]; exact z0⟩
        · rw [HKK.out] at hx
          obtain ⟨h1, h2⟩ := kinds_in hx
          exact ⟨h1.elim (fun h => by rw [h]; exact z0) (fun h => by rw [h]; exact hwl 2), h2.elim (fun h => by rw [h]; exact z0) (fun h => by rw [h]; exact hts)⟩
      have hCm : C.length ≤ 24 := by omega
      clear hown hg hwl hC
      simp only [hCl]
      have HRD := Lib.hid (Rd.of_Own HO8.out)
      go_wp2_with fail
      go_loopw [7] (fun v7 wr => CdRel C s.data.toList w8 v7 wr) (fun i _ => C.length - (intOf i).toNat)
      case atStart => exact ⟨0, Nat.zero_le _, rfl, Lib.hid (fun j hj h => absurd h (Nat.not_lt_zero _)), Below.refl _ _⟩
      case round =>
        obtain ⟨k, hk, rfl, HS, hb⟩ := hrel
        have hbs := hb.size
        have hEr : Ext w wr := Below.ext hE8 hb
        by_cases hlt : k < C.length
        · have k1 : (k : Int) < (C.length : Int) := by omega
          have k3 : (0 : Int) ≤ (k : Int) := by omega
          have k5 : decide ((k : Int) < (C.length : Int)) = true := decide_eq_true k1
          obtain ⟨bc, oc, rfl, hbc, hatc⟩ := HRD.out.ptr (by omega)
          obtain ⟨c0, c1, c2, c3, c4, c5⟩ := DReply.at (hatc.ext hbc hb) k hlt
          have hxs := HSZ.out C[k] (List.getElem_mem hlt)
          obtain ⟨x, hx⟩ : ∃ x, C[k] = x := ⟨_, rfl⟩
          rw [hx] at c0 c1 c2 c3 c4 c5 hxs
          have HX := Lib.hid hx
          obtain ⟨r, hr⟩ := boolOf (ReplyP x)
          have Hr := Lib.hid hr
          clear hatc hx hr
          go_wp2_with fail
          refine (specReplyText_any x _ (by omega) (by omega) r Hr).mono ?_
          rintro e w9 ⟨rfl, hb9⟩
          have hE89 : Ext w8 w9 := Below.ext hb hb9
          have hE9 : Ext w w9 := Below.ext hE8 hE89
          have hb89 := hE89.size
          by_cases heq : txtOf r x = s
          · have hrt : r = true := by
              cases r with
              | true => rfl
              | false =>
                have h1 : wordsL s.data.toList = [[]] := by rw [← heq]; rfl
                rw [HW.out] at h1
                rw [h1] at hL2
                simp at hL2
            subst hrt
            have HQ := Lib.hid heq
            have HD : Hid (Read0 s.data.toList x true) := by
              refine Or.inl ⟨rfl, Hr.out.1 rfl, ?_⟩
              rw [← heq]
              exact (bs_data _).symm
            clear heq
            rw [HQ.out]
            have hc0 := (hb9.cell (p := ⟨bc, oc + k * 6, none⟩) (by show bc < wr.heap.size; omega)).trans c0
            have hc1 := (hb9.cell (p := ⟨bc, oc + k * 6 + 1, none⟩) (by show bc < wr.heap.size; omega)).trans c1
            have hc2 := (hb9.cell (p := ⟨bc, oc + k * 6 + 2, none⟩) (by show bc < wr.heap.size; omega)).trans c2
            have hc3 := (hb9.cell (p := ⟨bc, oc + k * 6 + 3, none⟩) (by show bc < wr.heap.size; omega)).trans c3
            have hc4 := (hb9.cell (p := ⟨bc, oc + k * 6 + 4, none⟩) (by show bc < wr.heap.size; omega)).trans c4
            have hc5 := (hb9.cell (p := ⟨bc, oc + k * 6 + 5, none⟩) (by show bc < wr.heap.size; omega)).trans c5
            clear c0 c1 c2 c3 c4 c5
            have r0 := (hE89.cell (p := ⟨w.heap.size, 0, none⟩) hz8).trans (HR8.out 0 (.int .i64 0) rfl).1
            have f0 := (hE89.frozen (p := ⟨w.heap.size, 0, none⟩) hz8).trans (HR8.out 0 (.int .i64 0) rfl).2
            have r1 := (hE89.cell (p := ⟨w.heap.size, 1, none⟩) hz8).trans (HR8.out 1 (.int .i64 0) rfl).1
            have f1 := (hE89.frozen (p := ⟨w.heap.size, 1, none⟩) hz8).trans (HR8.out 1 (.int .i64 0) rfl).2
            have r2 := (hE89.cell (p := ⟨w.heap.size, 2, none⟩) hz8).trans (HR8.out 2 (.int .i64 0) rfl).1
            have f2 := (hE89.frozen (p := ⟨w.heap.size, 2, none⟩) hz8).trans (HR8.out 2 (.int .i64 0) rfl).2
            have r3 := (hE89.cell (p := ⟨w.heap.size, 3, none⟩) hz8).trans (HR8.out 3 (.int .i64 0) rfl).1
            have f3 := (hE89.frozen (p := ⟨w.heap.size, 3, none⟩) hz8).trans (HR8.out 3 (.int .i64 0) rfl).2
            have r4 := (hE89.cell (p := ⟨w.heap.size, 4, none⟩) hz8).trans (HR8.out 4 (.string ⟨#[]⟩) rfl).1
            have f4 := (hE89.frozen (p := ⟨w.heap.size, 4, none⟩) hz8).trans (HR8.out 4 (.string ⟨#[]⟩) rfl).2
            have r5 := (hE89.cell (p := ⟨w.heap.size, 5, none⟩) hz8).trans (HR8.out 5 (.string ⟨#[]⟩) rfl).1
            have f5 := (hE89.frozen (p := ⟨w.heap.size, 5, none⟩) hz8).trans (HR8.out 5 (.string ⟨#[]⟩) rfl).2
            have hz9 : w.heap.size < w9.heap.size := by omega
            go_wp2_with fail
            refine bodyPost_ret (v := .tuple #[.agg #[.int .i64 x.kind, .int .i64 x.n, .int .i64 x.uid, .int .i64 x.flags, .string x.name, .string x.text], .bool true]) (by simp [results, Tryz.results7, go_sem, *]) rfl ?_
            exact ⟨x, true, rfl, HD.out, bxt, hxs.1, hxs.2⟩
          · have hne := str_ne heq
            have HN : Hid (∀ j (hj : j < C.length), j < k + 1 → ReplyP C[j] → txA C[j] ≠ s.data.toList) := fun j hj h hp e => by
              rcases Nat.lt_or_ge j k with h1 | h1
              · exact HS.out j hj h1 hp e
              · obtain rfl : j = k := by omega
                rw [HX.out] at hp e
                have hrt : r = true := Hr.out.2 hp
                subst hrt
                exact heq (by rw [← bs_of s, ← e]; rfl)
            clear heq c0 c1 c2 c3 c4 c5
            go_wp2_with fail
            go_roundw
            case rel => exact ⟨k + 1, by omega, by go_num, HN, hE89⟩
            case measure => simp [intOf]; omega
        · have k5 : decide ((k : Int) < (C.length : Int)) = false := decide_eq_false (by omega)
          obtain rfl : k = C.length := by omega
          have HN : Hid (Read0 s.data.toList ⟨0, 0, 0, 0, ⟨#[]⟩, ⟨#[]⟩⟩ false) := by
            refine Or.inr ⟨rfl, rfl, fun y hy e => ?_⟩
            have hin : y ∈ C := by
              rw [HC.out]
              refine cand_in (by have h := HNA.out; rw [bs_data] at h; unfold wAt; rw [HW.out]; exact h) (fun h3 => ?_) hy e
              rw [HW.out] at h3
              obtain ⟨h4, h5, h6, h7⟩ := HRS.out (by rw [HML.out]; exact h3)
              rw [bs_data] at h4 h5 h6
              unfold wAt
              rw [HW.out]
              exact ⟨h4, h5, h6, by rw [h7]; exact fl_is2⟩
            obtain ⟨j, hj, rfl⟩ := List.getElem_of_mem hin
            exact HS.out j hj hj hy e
          have r0 := (hb.cell (p := ⟨w.heap.size, 0, none⟩) hz8).trans (HR8.out 0 (.int .i64 0) rfl).1
          have f0 := (hb.frozen (p := ⟨w.heap.size, 0, none⟩) hz8).trans (HR8.out 0 (.int .i64 0) rfl).2
          have r1 := (hb.cell (p := ⟨w.heap.size, 1, none⟩) hz8).trans (HR8.out 1 (.int .i64 0) rfl).1
          have f1 := (hb.frozen (p := ⟨w.heap.size, 1, none⟩) hz8).trans (HR8.out 1 (.int .i64 0) rfl).2
          have r2 := (hb.cell (p := ⟨w.heap.size, 2, none⟩) hz8).trans (HR8.out 2 (.int .i64 0) rfl).1
          have f2 := (hb.frozen (p := ⟨w.heap.size, 2, none⟩) hz8).trans (HR8.out 2 (.int .i64 0) rfl).2
          have r3 := (hb.cell (p := ⟨w.heap.size, 3, none⟩) hz8).trans (HR8.out 3 (.int .i64 0) rfl).1
          have f3 := (hb.frozen (p := ⟨w.heap.size, 3, none⟩) hz8).trans (HR8.out 3 (.int .i64 0) rfl).2
          have r4 := (hb.cell (p := ⟨w.heap.size, 4, none⟩) hz8).trans (HR8.out 4 (.string ⟨#[]⟩) rfl).1
          have f4 := (hb.frozen (p := ⟨w.heap.size, 4, none⟩) hz8).trans (HR8.out 4 (.string ⟨#[]⟩) rfl).2
          have r5 := (hb.cell (p := ⟨w.heap.size, 5, none⟩) hz8).trans (HR8.out 5 (.string ⟨#[]⟩) rfl).1
          have f5 := (hb.frozen (p := ⟨w.heap.size, 5, none⟩) hz8).trans (HR8.out 5 (.string ⟨#[]⟩) rfl).2
          have hzr : w.heap.size < wr.heap.size := by omega
          go_wp2_with fail
          refine bodyPost_ret (v := .tuple #[.agg #[.int .i64 0, .int .i64 0, .int .i64 0, .int .i64 0, .string ⟨#[]⟩, .string ⟨#[]⟩], .bool false]) (by simp [results, Tryz.results7, go_sem, *]) rfl ?_
          exact ⟨⟨0, 0, 0, 0, ⟨#[]⟩, ⟨#[]⟩⟩, false, rfl, HN.out, bxt, Nat.zero_le _, Nat.zero_le _⟩
end Go.Proofs.YtidfhkdonhjgaaaGreatDoor
