/-
  What the program takes a text for: guess.
-/
import Derived.Test.YtidfhkdonhjgaaaGreatDoorWKnd
import Derived.Test.YtidfhkdonhjgaaaGreatDoorWTagOk
namespace Go.Proofs.YtidfhkdonhjgaaaGreatDoor
open Go.RowKit
set_option linter.unusedVariables false
set_option linter.unusedSimpArgs false

theorem fieldsD_len : ∀ (f : Nat) (cur l : List UInt8), ∀ x ∈ Lib.fieldsGoD f cur l, x.length ≤ cur.length + l.length
  | 0, cur, l, x, h => by
    unfold Lib.fieldsGoD at h
    split at h
    · cases h
    · simp only [List.mem_singleton] at h; subst h; omega
  | f + 1, cur, l, x, h => by
    unfold Lib.fieldsGoD at h
    split at h
    · split at h
      · cases h
      · simp only [List.mem_singleton] at h; subst h; omega
    · split at h
      · rw [List.mem_append] at h
        rcases h with h | h
        · split at h
          · cases h
          · simp only [List.mem_singleton] at h; subst h; omega
        · have := fieldsD_len f [] _ x h
          simp at this; omega
      · have := fieldsD_len f _ _ x h
        simp at this; omega
theorem cut_len (s sep : List UInt8) : (Lib.cut s sep).2.1.length ≤ s.length := by
  unfold Lib.cut
  split
  · simp
  · simp
theorem trim_len (s p : List UInt8) : (Lib.trimSuffix s p).length ≤ s.length := by
  unfold Lib.trimSuffix
  split
  · simp
  · exact Nat.le_refl _
/-- the words, filled up -/
def padL (L : List (List UInt8)) (j : Nat) : List (List UInt8) := L ++ List.replicate j []
theorem pad_at (L : List (List UInt8)) (j i : Nat) : (padL L j).getD i [] = L.getD i [] := by
  unfold padL
  rw [List.getD_eq_getElem?_getD, List.getD_eq_getElem?_getD]
  rcases Nat.lt_or_ge i L.length with h | h
  · rw [List.getElem?_append_left h]
  · rw [List.getElem?_append_right h, List.getElem?_eq_none h]
    rcases Nat.lt_or_ge (i - L.length) j with h2 | h2
    · rw [List.getElem?_replicate, if_pos h2]; rfl
    · rw [List.getElem?_replicate, if_neg (by omega)]
theorem pad_next (L : List (List UInt8)) (j : Nat) : padL L (j + 1) = padL L j ++ [[]] := by
  unfold padL
  rw [List.replicate_succ', List.append_assoc]
theorem pad_len (L : List (List UInt8)) (j : Nat) : (padL L j).length = L.length + j := by simp [padL]
def PadRel (L : List (List UInt8)) (W : World) (B : Nat) (v3 : Value) (wr : World) : Prop :=
  ∃ (j : Nat) (g : Option Addr) (q : Nat), j ≤ 5 ∧ v3 = .slice g (padL L j).length q ∧ Hid (Own wr B 9 1 (.slice g (padL L j).length q) (padL L j).length (((padL L j).map bs).flatMap strCells)) ∧ Below B W wr
def GsPost (s : ByteArray) (w : World) (e : Ending) (w' : World) : Prop :=
  ∃ r : DReply, e = .returned (.agg #[.int .i64 r.kind, .int .i64 r.n, .int .i64 r.uid, .int .i64 r.flags, .string r.name, .string r.text]) ∧ GuessOf s.data.toList r ∧ r.name.size ≤ 1048576 ∧ r.text.size ≤ 1048576 ∧ Ext w w'
theorem str_no {v l : List UInt8} (h : ¬ v = l) : ((bs v).toList == l) = false := (str_is (bs v) l).trans (decide_eq_false (fun e => h (bs_inj e)))
theorem str_yes {v l : List UInt8} (h : v = l) : ((bs v).toList == l) = true := (str_is (bs v) l).trans (decide_eq_true (by rw [h]; rfl))
set_option maxRecDepth 100000 in
set_option maxHeartbeats 16000000 in
theorem guess_any (s : ByteArray) (w : World) (hg : Gl w) (hs : s.size ≤ 1048576) :
    Calls Tryz.prog 28 #[.string s] w (GsPost s w) := by
  obtain ⟨i0, hi, hz0, hz1, hz2⟩ := info_parts info_strL
  obtain ⟨L, hL⟩ : ∃ L, partsL 32 [] s.data.toList = L := ⟨_, rfl⟩
  have HL := Lib.hid hL
  have HG := Lib.hid hg
  have hsz := dlen s
  have hLl : L.length ≤ 1048577 := by rw [← hL]; have := parts_len 32 s.data.toList []; omega
  have HPS : Hid (∀ x ∈ L, x.length ≤ 1048576) := fun x hx => by
    rw [← hL] at hx
    have := parts_size 32 _ _ x hx
    simp only [List.length_nil] at this
    omega
  have HW : Hid (∀ i, L.getD i [] = wAt s.data.toList i) := fun i => by rw [← hL]; rfl
  clear hL hg
  go_enter Tryz.func28, Tryz.ntmps28
  go_wp2_with fail
  refine (implParts_any 32 s _ hs L HL).mono ?_
  rintro e w1 ⟨g, q, rfl, ho, hb1⟩
  have HO1 := Lib.hid ho
  have hE1 : Ext w w1 := Below.ext (show Ext w _ from bxt) hb1
  have hs1 := hE1.size
  have hs1b := hb1.size
  simp at hs1b
  have HRC : Hid (∀ j v, ([.int .i64 0, .int .i64 0, .int .i64 0, .int .i64 0, .string ⟨#[]⟩, .string ⟨#[]⟩] : List Value)[j]? = some v → w1.cell? ⟨w.heap.size, j, none⟩ = some v ∧ w1.frozen? ⟨w.heap.size, j, none⟩ = false) := fun j v hj => by
    have hjl : j < 6 := (List.getElem?_eq_some_iff.1 hj).1
    refine ⟨(hb1.cell (p := ⟨w.heap.size, j, none⟩) (by simp)).trans ?_, (hb1.frozen (p := ⟨w.heap.size, j, none⟩) (by simp)).trans ?_⟩
    · have : j = 0 ∨ j = 1 ∨ j = 2 ∨ j = 3 ∨ j = 4 ∨ j = 5 := by omega
      rcases this with rfl | rfl | rfl | rfl | rfl | rfl <;> (injection hj with hj; subst hj; simp [go_sem]; try rfl)
    · have : j = 0 ∨ j = 1 ∨ j = 2 ∨ j = 3 ∨ j = 4 ∨ j = 5 := by omega
      rcases this with rfl | rfl | rfl | rfl | rfl | rfl <;> simp [go_sem]
  clear ho
  go_wp2_with fail
  go_loopw [3] (PadRel L w1 (w.heap.size + 1)) (fun v _ => 5 - (match v with | .slice _ n _ => n | _ => 0))
  case atStart =>
    refine ⟨0, g, q, by omega, by simp [padL], ?_, Below.refl _ _⟩
    unfold Hid
    have h := HO1.out
    simp only [padL, List.replicate_zero, List.append_nil]
    exact h.le (by simp)
  case round =>
    obtain ⟨j, g2, q2, hj, rfl, HO, hb⟩ := hrel
    have hbs := hb.size

    by_cases hlt : (padL L j).length < 5
    · have d0 : decide (((padL L j).length : Int) < 5) = true := decide_eq_true (by omega)
      have hjn : j + 1 ≤ 5 := by (have := pad_len L j; omega)
      go_wp2_with ((at_builtin; refine wpList_appL (B := w.heap.size + 1) (v := .slice g2 (padL L j).length q2) rfl _ _ 45 rfl 9 i0 _ _ Tryz.underlying45 hi hz0 hz1 hz2 rfl (by decide) rfl (HO.out.ext bxt) (some ⟨wr.heap.size, 0, none⟩) 1 1 (strCells ⟨#[]⟩) rfl (Rd.lit _ _ _ _ 1 _ rfl rfl (by omega)) (by simp [strCells, Value.oneCell']) (by omega) (by omega) (by simp; omega) ?_))
      intro g3 q3 w3 hown hg hwl
      have hb3 : Below (w.heap.size + 1) w1 w3 := Below.grown (Below.extB hb (show Ext wr _ from bxt) (by omega)) hg (by simp; omega) (fun x hx => (HO.out.lt x hx).1)
      have HO3 : Hid (Own w3 (w.heap.size + 1) 9 1 (.slice g3 (padL L (j + 1)).length q3) (padL L (j + 1)).length (((padL L (j + 1)).map bs).flatMap strCells)) := by
        unfold Hid
        rw [pad_next, List.length_append, List.map_append, List.flatMap_append]
        exact hown
      have HV : Hid ((Value.slice g3 ((padL L j).length + 1) q3) = .slice g3 (padL L (j + 1)).length q3) := by unfold Hid; rw [pad_next, List.length_append]; rfl
      have hlj : (padL L (j + 1)).length = (padL L j).length + 1 := by rw [pad_next, List.length_append]; rfl
      have HLJ := Lib.hid hlj
      clear hown hg hwl hlj
      go_wp2_with fail
      go_roundw
      case rel => exact ⟨j + 1, g3, q3, hjn, HV.out, HO3, hb3⟩
      case measure => (rw [HLJ.out] at *; simp; omega)
    · have d0 : decide (((padL L j).length : Int) < 5) = false := decide_eq_false (by omega)
      have hr := Rd.of_Own HO.out
      obtain ⟨b, o, rfl, hbl, hat⟩ := hr.ptr (by omega)
      have hz : ∀ i, i < 5 → wr.cell? ⟨b, o + i, none⟩ = some (.string (bs (wAt s.data.toList i))) := fun i hi => by
        have h := strCells_at (l := (padL L j).map bs) hat i (by rw [List.length_map]; omega)
        rw [h, List.getElem_map]
        have e : (padL L j)[i]'(by omega) = (padL L j).getD i [] := by simp [List.getD, show i < (padL L j).length by omega]
        rw [e, pad_at, HW.out]
      have z0 := hz 0 (by omega)
      have z1 := hz 1 (by omega)
      have z2 := hz 2 (by omega)
      have z3 := hz 3 (by omega)
      have z4 := hz 4 (by omega)
      have hsw : ∀ i, (bs (wAt s.data.toList i)).size ≤ 1048576 := fun i => by
        rw [bs_size, ← HW.out, List.getD_eq_getElem?_getD]
        rcases Nat.lt_or_ge i L.length with h | h
        · rw [List.getElem?_eq_getElem h]; exact HPS.out _ (List.getElem_mem h)
        · rw [List.getElem?_eq_none h]; simp
      have s0 := hsw 0
      have s1 := hsw 1
      have s2 := hsw 2
      have s3 := hsw 3
      have s4 := hsw 4
      obtain ⟨n, hn⟩ : ∃ n, (padL L j).length = n := ⟨_, rfl⟩
      rw [hn] at d0 hlt ⊢
      obtain ⟨v0, hv0⟩ : ∃ v, wAt s.data.toList 0 = v := ⟨_, rfl⟩
      obtain ⟨v1, hv1⟩ : ∃ v, wAt s.data.toList 1 = v := ⟨_, rfl⟩
      obtain ⟨v2, hv2⟩ : ∃ v, wAt s.data.toList 2 = v := ⟨_, rfl⟩
      obtain ⟨v3, hv3⟩ : ∃ v, wAt s.data.toList 3 = v := ⟨_, rfl⟩
      obtain ⟨v4, hv4⟩ : ∃ v, wAt s.data.toList 4 = v := ⟨_, rfl⟩
      rw [hv0] at z0 s0
      rw [hv1] at z1 s1
      rw [hv2] at z2 s2
      rw [hv3] at z3 s3
      rw [hv4] at z4 s4
      have n1 : (1 : Int) < (n : Int) := by omega
      have n2 : (2 : Int) < (n : Int) := by omega
      have n3 : (3 : Int) < (n : Int) := by omega
      have n4 : (4 : Int) < (n : Int) := by omega
      have n0 : (0 : Int) < (n : Int) := by omega
      simp only [Nat.add_zero] at z0
      have hGw : Ext w wr := ((show Ext w w1 from hE1).trans (hb.mono (by omega) : Below w.heap.size w1 wr) : Below w.heap.size w wr)
      have HGL : Hid (Gl wr) := HG.out.ext hGw
      have HRR : Hid (∀ j v, ([.int .i64 0, .int .i64 0, .int .i64 0, .int .i64 0, .string ⟨#[]⟩, .string ⟨#[]⟩] : List Value)[j]? = some v → wr.cell? ⟨w.heap.size, j, none⟩ = some v ∧ wr.frozen? ⟨w.heap.size, j, none⟩ = false) := fun j v hj =>
        ⟨(hb.cell (p := ⟨w.heap.size, j, none⟩) (by show w.heap.size < w.heap.size + 1; omega)).trans (HRC.out j v hj).1, (hb.frozen (p := ⟨w.heap.size, j, none⟩) (by show w.heap.size < w.heap.size + 1; omega)).trans (HRC.out j v hj).2⟩
      have hwlt : w.heap.size < wr.heap.size := by omega
      clear hz hsw hat hr hn hlt
      go_wp2_with fail
      refine (implNumber_any (bs v1) _ HGL.out s1).mono ?_
      rintro e wn ⟨n', bn, rfl, hnn, hnr, hbn⟩
      rw [bs_data] at hnn
      have HN := Lib.hid hnn
      have hnl := hbn.size
      have hEn : Ext w wn := Below.ext hGw hbn
      have HGN : Hid (Gl wn) := HGL.out.ext hbn
      have z0 := (hbn.cell (p := ⟨b, o, none⟩) hbl).trans z0
      have z1 := (hbn.cell (p := ⟨b, o + 1, none⟩) hbl).trans z1
      have z2 := (hbn.cell (p := ⟨b, o + 2, none⟩) hbl).trans z2
      have z3 := (hbn.cell (p := ⟨b, o + 3, none⟩) hbl).trans z3
      have z4 := (hbn.cell (p := ⟨b, o + 4, none⟩) hbl).trans z4
      have HRN : Hid (∀ j v, ([.int .i64 0, .int .i64 0, .int .i64 0, .int .i64 0, .string ⟨#[]⟩, .string ⟨#[]⟩] : List Value)[j]? = some v → wn.cell? ⟨w.heap.size, j, none⟩ = some v ∧ wn.frozen? ⟨w.heap.size, j, none⟩ = false) := fun j v hj =>
        ⟨(hbn.cell (p := ⟨w.heap.size, j, none⟩) hwlt).trans (HRR.out j v hj).1, (hbn.frozen (p := ⟨w.heap.size, j, none⟩) hwlt).trans (HRR.out j v hj).2⟩
      have hbnl : b < wn.heap.size := by omega
      have hwn : w.heap.size < wn.heap.size := by omega
      clear hnn
      have HV0 := Lib.hid hv0
      have HV1 := Lib.hid hv1
      have HV2 := Lib.hid hv2
      have HV3 := Lib.hid hv3
      have HV4 := Lib.hid hv4
      clear hv0 hv1 hv2 hv3 hv4
      have Z2 := Lib.hid z2
      have Z3 := Lib.hid z3
      have Z4 := Lib.hid z4
      have r0 := (HRN.out 0 (.int .i64 0) rfl).1
      have f0 := (HRN.out 0 (.int .i64 0) rfl).2
      have r1 := (HRN.out 1 (.int .i64 0) rfl).1
      have f1 := (HRN.out 1 (.int .i64 0) rfl).2
      have r2 := (HRN.out 2 (.int .i64 0) rfl).1
      have f2 := (HRN.out 2 (.int .i64 0) rfl).2
      have r3 := (HRN.out 3 (.int .i64 0) rfl).1
      have f3 := (HRN.out 3 (.int .i64 0) rfl).2
      have r4 := (HRN.out 4 (.string ⟨#[]⟩) rfl).1
      have f4 := (HRN.out 4 (.string ⟨#[]⟩) rfl).2
      have r5 := (HRN.out 5 (.string ⟨#[]⟩) rfl).1
      have f5 := (HRN.out 5 (.string ⟨#[]⟩) rfl).2
      by_cases hx : v2 = wEXISTS
      · have e0 : ((bs v2).toList == [69, 88, 73, 83, 84, 83]) = true := str_yes hx
        have HX := Lib.hid hx
        clear hx
        go_wp2_with fail
        refine bodyPost_ret (v := .agg #[.int .i64 1, .int .i64 n', .int .i64 0, .int .i64 0, .string (⟨#[]⟩), .string (⟨#[]⟩)]) (by simp [results, Tryz.results28, go_sem, *]) rfl ?_
        exact ⟨⟨1, n', 0, 0, ⟨#[]⟩, ⟨#[]⟩⟩, rfl, gs_1 (HV2.out.trans HX.out) (by rw [HV1.out]; exact HN.out), (show (⟨#[]⟩ : ByteArray).size ≤ 1048576 by decide), (show (⟨#[]⟩ : ByteArray).size ≤ 1048576 by decide), bxt⟩
      have e0 : ((bs v2).toList == [69, 88, 73, 83, 84, 83]) = false := str_no hx
      have X0 := Lib.hid hx
      clear hx
      by_cases hx : v2 = wEXPUNGE
      · have e1 : ((bs v2).toList == [69, 88, 80, 85, 78, 71, 69]) = true := str_yes hx
        have HX := Lib.hid hx
        clear hx
        go_wp2_with fail
        refine bodyPost_ret (v := .agg #[.int .i64 2, .int .i64 n', .int .i64 0, .int .i64 0, .string (⟨#[]⟩), .string (⟨#[]⟩)]) (by simp [results, Tryz.results28, go_sem, *]) rfl ?_
        exact ⟨⟨2, n', 0, 0, ⟨#[]⟩, ⟨#[]⟩⟩, rfl, gs_2 (HV2.out.trans HX.out) (by rw [HV1.out]; exact HN.out), (show (⟨#[]⟩ : ByteArray).size ≤ 1048576 by decide), (show (⟨#[]⟩ : ByteArray).size ≤ 1048576 by decide), bxt⟩
      have e1 : ((bs v2).toList == [69, 88, 80, 85, 78, 71, 69]) = false := str_no hx
      have X1 := Lib.hid hx
      clear hx
      by_cases hx : v2 = wFETCH
      · have e2 : ((bs v2).toList == [70, 69, 84, 67, 72]) = true := str_yes hx
        have HX := Lib.hid hx
        clear hx
        obtain ⟨m, hm, _⟩ := HGN.out.mx
        obtain ⟨K, hK⟩ : ∃ K, Lib.cut s.data.toList (⟨#[40]⟩ : ByteArray).data.toList = K := ⟨_, rfl⟩
        have HK := Lib.hid hK
        have hkl : K.2.1.length ≤ 1048576 := by rw [← hK]; have := cut_len s.data.toList (⟨#[40]⟩ : ByteArray).data.toList; omega
        clear hK
        go_wp2_with fail
        refine (Tryz.strings_Cut s ⟨#[40]⟩ m _ (by omega) hm).mono ?_
        rintro e wc0 ⟨rfl, kd, rfl⟩
        rw [HK.out]
        have hbc : Ext wn (wn.drewN kd) := bxt
        generalize wn.drewN kd = wc at hbc ⊢
        have hbcl := hbc.size
        have z3 := (hbc.cell (p := ⟨b, o + 3, none⟩) hbnl).trans Z3.out
        clear hm
        go_wp2_with fail
        refine (implNumber_any (bs v3) _ (HGN.out.ext hbc) s3).mono ?_
        rintro e wu ⟨u, bu, rfl, hu, hur, hbu⟩
        rw [bs_data] at hu
        have HU := Lib.hid hu
        have hEu : Ext wn wu := Below.ext hbc hbu
        have hEul := hEu.size
        clear hu z3
        go_wp2_with fail
        refine (Tryz.strings_TrimSuffix ⟨K.2.1.toArray⟩ ⟨#[41]⟩ _ (by rw [show (⟨K.2.1.toArray⟩ : ByteArray) = bs K.2.1 from rfl, bs_size]; omega)).mono ?_
        rintro e wu2 ⟨rfl, rfl⟩
        obtain ⟨T, hT⟩ : ∃ T, Lib.trimSuffix (⟨K.2.1.toArray⟩ : ByteArray).data.toList (⟨#[41]⟩ : ByteArray).data.toList = T := ⟨_, rfl⟩
        rw [hT]
        have HTT := Lib.hid hT
        have htl : T.length ≤ 1048576 := by rw [← hT]; refine Nat.le_trans (trim_len _ _) ?_; rw [show (⟨K.2.1.toArray⟩ : ByteArray) = bs K.2.1 from rfl, bs_data]; exact hkl
        clear hT
        have HGU := HGN.out.ext hEu
        have HSP := Lib.hid HGU.sp
        have HWS := Lib.hid HGU.ws
        clear HGU
        go_wp2_with fail
        refine (Tryz.strings_Fields_any ⟨T.toArray⟩ _ (by rw [show (⟨T.toArray⟩ : ByteArray) = bs T from rfl, bs_size]; omega) HSP.out HWS.out).mono ?_
        rintro e wf ⟨A, rfl, hA, hown, hbf⟩
        rw [show (⟨T.toArray⟩ : ByteArray).data.toList = T from bs_data T] at hown ⊢
        obtain ⟨F, hF⟩ : ∃ F, Lib.fieldsD T = F := ⟨_, rfl⟩
        have HFS : Hid (∀ x ∈ F.map bs, x.size ≤ 1048576) := by
          intro x hx
          obtain ⟨y, hy, rfl⟩ := List.mem_map.1 hx
          rw [← hF] at hy
          have h1 := fieldsD_len _ _ _ y hy
          rw [bs_size]
          simp only [List.length_nil] at h1
          omega
        rw [hF] at hown ⊢
        have HF := Lib.hid hF
        have hrf := Rd.of_own hown
        rw [show F.map (fun x => Value.string ⟨x.toArray⟩) = (F.map bs).flatMap strCells by (rw [flat_strs, List.map_map]; rfl)] at hrf
        have HRF := Lib.hid hrf
        have hEf : Ext wn wf := Below.ext hEu hbf
        have hEfl := hEf.size
        clear hF hown hrf
        go_wp2_with fail
        refine (implReadFlags_L F _ _ _ HRF.out HFS.out).mono ?_
        rintro e wg ⟨bg, rfl, hbg⟩
        have hEg : Ext wn wg := Below.ext hEf hbg
        have hEgl := hEg.size
        have HFL : Hid (FlIs s.data.toList (rfV F)) := by
          have h := fl_is (s := s.data.toList)
          have h1 : Lib.cut s.data.toList [40] = K := HK.out
          have h2 : Lib.trimSuffix (bs K.2.1).data.toList [41] = T := HTT.out
          rw [bs_data] at h2
          rw [h1, h2, HF.out] at h
          exact h
        have r0 := (hEg.cell (p := ⟨w.heap.size, 0, none⟩) hwn).trans (HRN.out 0 (.int .i64 0) rfl).1
        have f0 := (hEg.frozen (p := ⟨w.heap.size, 0, none⟩) hwn).trans (HRN.out 0 (.int .i64 0) rfl).2
        have r1 := (hEg.cell (p := ⟨w.heap.size, 1, none⟩) hwn).trans (HRN.out 1 (.int .i64 0) rfl).1
        have f1 := (hEg.frozen (p := ⟨w.heap.size, 1, none⟩) hwn).trans (HRN.out 1 (.int .i64 0) rfl).2
        have r2 := (hEg.cell (p := ⟨w.heap.size, 2, none⟩) hwn).trans (HRN.out 2 (.int .i64 0) rfl).1
        have f2 := (hEg.frozen (p := ⟨w.heap.size, 2, none⟩) hwn).trans (HRN.out 2 (.int .i64 0) rfl).2
        have r3 := (hEg.cell (p := ⟨w.heap.size, 3, none⟩) hwn).trans (HRN.out 3 (.int .i64 0) rfl).1
        have f3 := (hEg.frozen (p := ⟨w.heap.size, 3, none⟩) hwn).trans (HRN.out 3 (.int .i64 0) rfl).2
        have r4 := (hEg.cell (p := ⟨w.heap.size, 4, none⟩) hwn).trans (HRN.out 4 (.string ⟨#[]⟩) rfl).1
        have f4 := (hEg.frozen (p := ⟨w.heap.size, 4, none⟩) hwn).trans (HRN.out 4 (.string ⟨#[]⟩) rfl).2
        have r5 := (hEg.cell (p := ⟨w.heap.size, 5, none⟩) hwn).trans (HRN.out 5 (.string ⟨#[]⟩) rfl).1
        have f5 := (hEg.frozen (p := ⟨w.heap.size, 5, none⟩) hwn).trans (HRN.out 5 (.string ⟨#[]⟩) rfl).2
        go_wp2_with fail
        refine bodyPost_ret (v := .agg #[.int .i64 3, .int .i64 n', .int .i64 u, .int .i64 (rfV F), .string (⟨#[]⟩), .string (⟨#[]⟩)]) (by simp [results, Tryz.results28, go_sem, *]) rfl ?_
        exact ⟨⟨3, n', u, (rfV F), ⟨#[]⟩, ⟨#[]⟩⟩, rfl, gs_3 (HV2.out.trans HX.out) (by rw [HV1.out]; exact HN.out) (by rw [HV3.out]; exact HU.out) HFL.out, (show (⟨#[]⟩ : ByteArray).size ≤ 1048576 by decide), (show (⟨#[]⟩ : ByteArray).size ≤ 1048576 by decide), bxt⟩
      have e2 : ((bs v2).toList == [70, 69, 84, 67, 72]) = false := str_no hx
      have X2 := Lib.hid hx
      clear hx
      by_cases hx : v2 = wBODY
      · have e3 : ((bs v2).toList == [66, 79, 68, 89]) = true := str_yes hx
        have HX := Lib.hid hx
        clear hx
        go_wp2_with fail
        refine (implUnhex_any (bs v3) _ HGN.out s3).mono ?_
        rintro e wt ⟨t, bt, rfl, ht, hts, hbt⟩
        rw [bs_data] at ht
        have HT := Lib.hid ht
        clear ht
        have r0 := (hbt.cell (p := ⟨w.heap.size, 0, none⟩) hwn).trans (HRN.out 0 (.int .i64 0) rfl).1
        have f0 := (hbt.frozen (p := ⟨w.heap.size, 0, none⟩) hwn).trans (HRN.out 0 (.int .i64 0) rfl).2
        have r1 := (hbt.cell (p := ⟨w.heap.size, 1, none⟩) hwn).trans (HRN.out 1 (.int .i64 0) rfl).1
        have f1 := (hbt.frozen (p := ⟨w.heap.size, 1, none⟩) hwn).trans (HRN.out 1 (.int .i64 0) rfl).2
        have r2 := (hbt.cell (p := ⟨w.heap.size, 2, none⟩) hwn).trans (HRN.out 2 (.int .i64 0) rfl).1
        have f2 := (hbt.frozen (p := ⟨w.heap.size, 2, none⟩) hwn).trans (HRN.out 2 (.int .i64 0) rfl).2
        have r3 := (hbt.cell (p := ⟨w.heap.size, 3, none⟩) hwn).trans (HRN.out 3 (.int .i64 0) rfl).1
        have f3 := (hbt.frozen (p := ⟨w.heap.size, 3, none⟩) hwn).trans (HRN.out 3 (.int .i64 0) rfl).2
        have r4 := (hbt.cell (p := ⟨w.heap.size, 4, none⟩) hwn).trans (HRN.out 4 (.string ⟨#[]⟩) rfl).1
        have f4 := (hbt.frozen (p := ⟨w.heap.size, 4, none⟩) hwn).trans (HRN.out 4 (.string ⟨#[]⟩) rfl).2
        have r5 := (hbt.cell (p := ⟨w.heap.size, 5, none⟩) hwn).trans (HRN.out 5 (.string ⟨#[]⟩) rfl).1
        have f5 := (hbt.frozen (p := ⟨w.heap.size, 5, none⟩) hwn).trans (HRN.out 5 (.string ⟨#[]⟩) rfl).2
        go_wp2_with fail
        refine bodyPost_ret (v := .agg #[.int .i64 4, .int .i64 n', .int .i64 0, .int .i64 0, .string (⟨#[]⟩), .string (t)]) (by simp [results, Tryz.results28, go_sem, *]) rfl ?_
        exact ⟨⟨4, n', 0, 0, ⟨#[]⟩, t⟩, rfl, gs_4 (HV2.out.trans HX.out) (by rw [HV1.out]; exact HN.out) (by rw [HV3.out]; exact HT.out), (show (⟨#[]⟩ : ByteArray).size ≤ 1048576 by decide), (Nat.le_trans hts s3), bxt⟩
      have e3 : ((bs v2).toList == [66, 79, 68, 89]) = false := str_no hx
      have X3 := Lib.hid hx
      clear hx
      by_cases hx : v1 = wSTATUS
      · have e4 : ((bs v1).toList == [83, 84, 65, 84, 85, 83]) = true := str_yes hx
        have HX := Lib.hid hx
        clear hx
        go_wp2_with fail
        refine (implNumber_any (bs v3) _ HGN.out s3).mono ?_
        rintro e wt ⟨u, bu, rfl, hu, hur, hbt⟩
        rw [bs_data] at hu
        have HU := Lib.hid hu
        clear hu
        have hbtl := hbt.size
        have z4 := (hbt.cell (p := ⟨b, o + 4, none⟩) hbnl).trans Z4.out
        go_wp2_with fail
        refine (implNumber_any (bs v4) _ (HGN.out.ext hbt) s4).mono ?_
        rintro e wt2 ⟨d, bd, rfl, hd, hdr, hbt2⟩
        rw [bs_data] at hd
        have HD := Lib.hid hd
        have hE2 : Ext wn wt2 := Below.ext hbt hbt2
        clear hd
        have z2 := (hE2.cell (p := ⟨b, o + 2, none⟩) hbnl).trans Z2.out
        have r0 := (hE2.cell (p := ⟨w.heap.size, 0, none⟩) hwn).trans (HRN.out 0 (.int .i64 0) rfl).1
        have f0 := (hE2.frozen (p := ⟨w.heap.size, 0, none⟩) hwn).trans (HRN.out 0 (.int .i64 0) rfl).2
        have r1 := (hE2.cell (p := ⟨w.heap.size, 1, none⟩) hwn).trans (HRN.out 1 (.int .i64 0) rfl).1
        have f1 := (hE2.frozen (p := ⟨w.heap.size, 1, none⟩) hwn).trans (HRN.out 1 (.int .i64 0) rfl).2
        have r2 := (hE2.cell (p := ⟨w.heap.size, 2, none⟩) hwn).trans (HRN.out 2 (.int .i64 0) rfl).1
        have f2 := (hE2.frozen (p := ⟨w.heap.size, 2, none⟩) hwn).trans (HRN.out 2 (.int .i64 0) rfl).2
        have r3 := (hE2.cell (p := ⟨w.heap.size, 3, none⟩) hwn).trans (HRN.out 3 (.int .i64 0) rfl).1
        have f3 := (hE2.frozen (p := ⟨w.heap.size, 3, none⟩) hwn).trans (HRN.out 3 (.int .i64 0) rfl).2
        have r4 := (hE2.cell (p := ⟨w.heap.size, 4, none⟩) hwn).trans (HRN.out 4 (.string ⟨#[]⟩) rfl).1
        have f4 := (hE2.frozen (p := ⟨w.heap.size, 4, none⟩) hwn).trans (HRN.out 4 (.string ⟨#[]⟩) rfl).2
        have r5 := (hE2.cell (p := ⟨w.heap.size, 5, none⟩) hwn).trans (HRN.out 5 (.string ⟨#[]⟩) rfl).1
        have f5 := (hE2.frozen (p := ⟨w.heap.size, 5, none⟩) hwn).trans (HRN.out 5 (.string ⟨#[]⟩) rfl).2
        go_wp2_with fail
        refine bodyPost_ret (v := .agg #[.int .i64 5, .int .i64 u, .int .i64 d, .int .i64 0, .string (bs v2), .string (⟨#[]⟩)]) (by simp [results, Tryz.results28, go_sem, *]) rfl ?_
        exact ⟨⟨5, u, d, 0, bs v2, ⟨#[]⟩⟩, rfl, HV2.out ▸ gs_5 (HV1.out.trans HX.out) (by rw [HV3.out]; exact HU.out) (by rw [HV4.out]; exact HD.out), s2, (show (⟨#[]⟩ : ByteArray).size ≤ 1048576 by decide), bxt⟩
      have e4 : ((bs v1).toList == [83, 84, 65, 84, 85, 83]) = false := str_no hx
      have X4 := Lib.hid hx
      clear hx
      by_cases hx : v1 = wLIST
      · have e5 : ((bs v1).toList == [76, 73, 83, 84]) = true := str_yes hx
        have HX := Lib.hid hx
        clear hx
        go_wp2_with fail
        refine bodyPost_ret (v := .agg #[.int .i64 6, .int .i64 0, .int .i64 0, .int .i64 0, .string (bs v2), .string (⟨#[]⟩)]) (by simp [results, Tryz.results28, go_sem, *]) rfl ?_
        exact ⟨⟨6, 0, 0, 0, bs v2, ⟨#[]⟩⟩, rfl, HV2.out ▸ gs_6 (HV1.out.trans HX.out), s2, (show (⟨#[]⟩ : ByteArray).size ≤ 1048576 by decide), bxt⟩
      have e5 : ((bs v1).toList == [76, 73, 83, 84]) = false := str_no hx
      have X5 := Lib.hid hx
      clear hx
      by_cases hx : v1 = wGONE
      · have e6 : ((bs v1).toList == [71, 79, 78, 69]) = true := str_yes hx
        have HX := Lib.hid hx
        clear hx
        go_wp2_with fail
        refine bodyPost_ret (v := .agg #[.int .i64 7, .int .i64 0, .int .i64 0, .int .i64 0, .string (bs v2), .string (⟨#[]⟩)]) (by simp [results, Tryz.results28, go_sem, *]) rfl ?_
        exact ⟨⟨7, 0, 0, 0, bs v2, ⟨#[]⟩⟩, rfl, HV2.out ▸ gs_7 (HV1.out.trans HX.out), s2, (show (⟨#[]⟩ : ByteArray).size ≤ 1048576 by decide), bxt⟩
      have e6 : ((bs v1).toList == [71, 79, 78, 69]) = false := str_no hx
      have X6 := Lib.hid hx
      clear hx
      by_cases hx : v1 = wSELECTED
      · have e7 : ((bs v1).toList == [83, 69, 76, 69, 67, 84, 69, 68]) = true := str_yes hx
        have HX := Lib.hid hx
        clear hx
        go_wp2_with fail
        refine (implNumber_any (bs v3) _ HGN.out s3).mono ?_
        rintro e wt ⟨u, bu, rfl, hu, hur, hbt⟩
        rw [bs_data] at hu
        have HU := Lib.hid hu
        clear hu
        have z2 := (hbt.cell (p := ⟨b, o + 2, none⟩) hbnl).trans Z2.out
        have r0 := (hbt.cell (p := ⟨w.heap.size, 0, none⟩) hwn).trans (HRN.out 0 (.int .i64 0) rfl).1
        have f0 := (hbt.frozen (p := ⟨w.heap.size, 0, none⟩) hwn).trans (HRN.out 0 (.int .i64 0) rfl).2
        have r1 := (hbt.cell (p := ⟨w.heap.size, 1, none⟩) hwn).trans (HRN.out 1 (.int .i64 0) rfl).1
        have f1 := (hbt.frozen (p := ⟨w.heap.size, 1, none⟩) hwn).trans (HRN.out 1 (.int .i64 0) rfl).2
        have r2 := (hbt.cell (p := ⟨w.heap.size, 2, none⟩) hwn).trans (HRN.out 2 (.int .i64 0) rfl).1
        have f2 := (hbt.frozen (p := ⟨w.heap.size, 2, none⟩) hwn).trans (HRN.out 2 (.int .i64 0) rfl).2
        have r3 := (hbt.cell (p := ⟨w.heap.size, 3, none⟩) hwn).trans (HRN.out 3 (.int .i64 0) rfl).1
        have f3 := (hbt.frozen (p := ⟨w.heap.size, 3, none⟩) hwn).trans (HRN.out 3 (.int .i64 0) rfl).2
        have r4 := (hbt.cell (p := ⟨w.heap.size, 4, none⟩) hwn).trans (HRN.out 4 (.string ⟨#[]⟩) rfl).1
        have f4 := (hbt.frozen (p := ⟨w.heap.size, 4, none⟩) hwn).trans (HRN.out 4 (.string ⟨#[]⟩) rfl).2
        have r5 := (hbt.cell (p := ⟨w.heap.size, 5, none⟩) hwn).trans (HRN.out 5 (.string ⟨#[]⟩) rfl).1
        have f5 := (hbt.frozen (p := ⟨w.heap.size, 5, none⟩) hwn).trans (HRN.out 5 (.string ⟨#[]⟩) rfl).2
        go_wp2_with fail
        refine bodyPost_ret (v := .agg #[.int .i64 8, .int .i64 u, .int .i64 0, .int .i64 0, .string (bs v2), .string (⟨#[]⟩)]) (by simp [results, Tryz.results28, go_sem, *]) rfl ?_
        exact ⟨⟨8, u, 0, 0, bs v2, ⟨#[]⟩⟩, rfl, HV2.out ▸ gs_8 (HV1.out.trans HX.out) (by rw [HV3.out]; exact HU.out), s2, (show (⟨#[]⟩ : ByteArray).size ≤ 1048576 by decide), bxt⟩
      have e7 : ((bs v1).toList == [83, 69, 76, 69, 67, 84, 69, 68]) = false := str_no hx
      have X7 := Lib.hid hx
      clear hx
      by_cases hx : v1 = wCLOSED
      · have e8 : ((bs v1).toList == [67, 76, 79, 83, 69, 68]) = true := str_yes hx
        have HX := Lib.hid hx
        clear hx
        go_wp2_with fail
        refine bodyPost_ret (v := .agg #[.int .i64 9, .int .i64 0, .int .i64 0, .int .i64 0, .string (⟨#[]⟩), .string (⟨#[]⟩)]) (by simp [results, Tryz.results28, go_sem, *]) rfl ?_
        exact ⟨⟨9, 0, 0, 0, ⟨#[]⟩, ⟨#[]⟩⟩, rfl, gs_9 (HV1.out.trans HX.out), (show (⟨#[]⟩ : ByteArray).size ≤ 1048576 by decide), (show (⟨#[]⟩ : ByteArray).size ≤ 1048576 by decide), bxt⟩
      have e8 : ((bs v1).toList == [67, 76, 79, 83, 69, 68]) = false := str_no hx
      have X8 := Lib.hid hx
      clear hx
      by_cases hx : v1 = wOVERFLOW
      · have e9 : ((bs v1).toList == [79, 86, 69, 82, 70, 76, 79, 87]) = true := str_yes hx
        have HX := Lib.hid hx
        clear hx
        go_wp2_with fail
        refine bodyPost_ret (v := .agg #[.int .i64 10, .int .i64 0, .int .i64 0, .int .i64 0, .string (⟨#[]⟩), .string (⟨#[]⟩)]) (by simp [results, Tryz.results28, go_sem, *]) rfl ?_
        exact ⟨⟨10, 0, 0, 0, ⟨#[]⟩, ⟨#[]⟩⟩, rfl, gs_10 (HV1.out.trans HX.out), (show (⟨#[]⟩ : ByteArray).size ≤ 1048576 by decide), (show (⟨#[]⟩ : ByteArray).size ≤ 1048576 by decide), bxt⟩
      have e9 : ((bs v1).toList == [79, 86, 69, 82, 70, 76, 79, 87]) = false := str_no hx
      have X9 := Lib.hid hx
      clear hx
      by_cases hx : v1 = wBYE
      · have e10 : ((bs v1).toList == [66, 89, 69]) = true := str_yes hx
        have HX := Lib.hid hx
        clear hx
        go_wp2_with fail
        refine bodyPost_ret (v := .agg #[.int .i64 11, .int .i64 0, .int .i64 0, .int .i64 0, .string (⟨#[]⟩), .string (⟨#[]⟩)]) (by simp [results, Tryz.results28, go_sem, *]) rfl ?_
        exact ⟨⟨11, 0, 0, 0, ⟨#[]⟩, ⟨#[]⟩⟩, rfl, gs_11 (HV1.out.trans HX.out), (show (⟨#[]⟩ : ByteArray).size ≤ 1048576 by decide), (show (⟨#[]⟩ : ByteArray).size ≤ 1048576 by decide), bxt⟩
      have e10 : ((bs v1).toList == [66, 89, 69]) = false := str_no hx
      have X10 := Lib.hid hx
      clear hx
      by_cases hx : v1 = wHELLO
      · have e11 : ((bs v1).toList == [72, 69, 76, 76, 79]) = true := str_yes hx
        have HX := Lib.hid hx
        clear hx
        go_wp2_with fail
        refine bodyPost_ret (v := .agg #[.int .i64 16, .int .i64 0, .int .i64 0, .int .i64 0, .string (⟨#[]⟩), .string (⟨#[]⟩)]) (by simp [results, Tryz.results28, go_sem, *]) rfl ?_
        exact ⟨⟨16, 0, 0, 0, ⟨#[]⟩, ⟨#[]⟩⟩, rfl, gs_16 (HV1.out.trans HX.out), (show (⟨#[]⟩ : ByteArray).size ≤ 1048576 by decide), (show (⟨#[]⟩ : ByteArray).size ≤ 1048576 by decide), bxt⟩
      have e11 : ((bs v1).toList == [72, 69, 76, 76, 79]) = false := str_no hx
      have X11 := Lib.hid hx
      clear hx
      by_cases hx : v1 = wOK
      · have e12 : ((bs v1).toList == [79, 75]) = true := str_yes hx
        have HX := Lib.hid hx
        clear hx
        go_wp2_with fail
        refine bodyPost_ret (v := .agg #[.int .i64 12, .int .i64 0, .int .i64 0, .int .i64 0, .string (bs v0), .string (⟨#[]⟩)]) (by simp [results, Tryz.results28, go_sem, *]) rfl ?_
        exact ⟨⟨12, 0, 0, 0, bs v0, ⟨#[]⟩⟩, rfl, HV0.out ▸ gs_12 (HV1.out.trans HX.out), s0, (show (⟨#[]⟩ : ByteArray).size ≤ 1048576 by decide), bxt⟩
      have e12 : ((bs v1).toList == [79, 75]) = false := str_no hx
      have X12 := Lib.hid hx
      clear hx
      by_cases hx : v1 = wNO
      · have e13 : ((bs v1).toList == [78, 79]) = true := str_yes hx
        have HX := Lib.hid hx
        clear hx
        go_wp2_with fail
        refine bodyPost_ret (v := .agg #[.int .i64 13, .int .i64 0, .int .i64 0, .int .i64 0, .string (bs v0), .string (⟨#[]⟩)]) (by simp [results, Tryz.results28, go_sem, *]) rfl ?_
        exact ⟨⟨13, 0, 0, 0, bs v0, ⟨#[]⟩⟩, rfl, HV0.out ▸ gs_13 (HV1.out.trans HX.out), s0, (show (⟨#[]⟩ : ByteArray).size ≤ 1048576 by decide), bxt⟩
      have e13 : ((bs v1).toList == [78, 79]) = false := str_no hx
      have X13 := Lib.hid hx
      clear hx
      by_cases hx : v1 = wBAD
      · have e14 : ((bs v1).toList == [66, 65, 68]) = true := str_yes hx
        have HX := Lib.hid hx
        clear hx
        go_wp2_with fail
        refine bodyPost_ret (v := .agg #[.int .i64 14, .int .i64 0, .int .i64 0, .int .i64 0, .string (bs v0), .string (⟨#[]⟩)]) (by simp [results, Tryz.results28, go_sem, *]) rfl ?_
        exact ⟨⟨14, 0, 0, 0, bs v0, ⟨#[]⟩⟩, rfl, HV0.out ▸ gs_14 (HV1.out.trans HX.out), s0, (show (⟨#[]⟩ : ByteArray).size ≤ 1048576 by decide), bxt⟩
      have e14 : ((bs v1).toList == [66, 65, 68]) = false := str_no hx
      have X14 := Lib.hid hx
      clear hx
      have HN2 : Hid (Ne2 (wAt s.data.toList 2)) := by rw [HV2.out]; exact ⟨X0.out, X1.out, X2.out, X3.out⟩
      have HN1 : Hid (Ne1 (wAt s.data.toList 1)) := by rw [HV1.out]; exact ⟨X4.out, X5.out, X6.out, X7.out, X8.out, X9.out, X10.out, X12.out, X13.out, X14.out, X11.out⟩
      go_wp2_with fail
      refine bodyPost_ret (v := .agg #[.int .i64 15, .int .i64 0, .int .i64 0, .int .i64 0, .string (⟨#[]⟩), .string (⟨#[]⟩)]) (by simp [results, Tryz.results28, go_sem, *]) rfl ?_
      exact ⟨⟨15, 0, 0, 0, ⟨#[]⟩, ⟨#[]⟩⟩, rfl, gs_15 HN2.out HN1.out, (show (⟨#[]⟩ : ByteArray).size ≤ 1048576 by decide), (show (⟨#[]⟩ : ByteArray).size ≤ 1048576 by decide), bxt⟩
end Go.Proofs.YtidfhkdonhjgaaaGreatDoor
