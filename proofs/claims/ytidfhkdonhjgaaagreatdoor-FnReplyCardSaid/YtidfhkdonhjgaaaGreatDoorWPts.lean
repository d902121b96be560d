/-
  A text cut at a byte: the program's Parts and the reference's.
-/
import Derived.Test.YtidfhkdonhjgaaaGreatDoorWGsP
import Derived.Test.YtidfhkdonhjgaaaGreatDoorWStr
import Derived.Test.YtidfhkdonhjgaaaGreatDoorWLines
namespace Go.Proofs.YtidfhkdonhjgaaaGreatDoor
open Go.RowKit
set_option linter.unusedVariables false
set_option linter.unusedSimpArgs false

/-- the loop of Parts: out is done, the part that is being read began at f -/
def PtSt (c : UInt8) (l : List UInt8) (f k : Nat) (out : List (List UInt8)) : Prop := partsL c [] l = out ++ partsL c ((l.take k).drop f) (l.drop k)
theorem ptSt_start (c : UInt8) (l : List UInt8) : PtSt c l 0 0 [] := by simp [PtSt]
theorem PtSt.hit {c : UInt8} {l : List UInt8} {f k : Nat} {out : List (List UInt8)} (h : PtSt c l f k out) (hk : k < l.length) (h1 : l[k] = c) : PtSt c l (k + 1) (k + 1) (out ++ [(l.take k).drop f]) := by
  unfold PtSt at h ⊢
  rw [List.drop_eq_getElem_cons hk, partsL, if_pos h1] at h
  rw [h, List.append_assoc, List.singleton_append]
  have e2 : (l.take (k + 1)).drop (k + 1) = [] := by simp
  rw [e2]
theorem PtSt.miss {c : UInt8} {l : List UInt8} {f k : Nat} {out : List (List UInt8)} (h : PtSt c l f k out) (hf : f ≤ k) (hk : k < l.length) (h1 : ¬ l[k] = c) : PtSt c l f (k + 1) out := by
  unfold PtSt at h ⊢
  rw [List.drop_eq_getElem_cons hk, partsL, if_neg h1] at h
  rw [h, List.take_add_one, List.getElem?_eq_getElem hk, List.drop_append_of_le_length (by simp; omega)]
  rfl
theorem PtSt.stop {c : UInt8} {l : List UInt8} {f : Nat} {out : List (List UInt8)} (h : PtSt c l f l.length out) : partsL c [] l = out ++ [l.drop f] := by
  unfold PtSt at h
  rw [h, List.take_length, List.drop_length]
  rfl
theorem ext_bs (s : ByteArray) (f k : Nat) : s.extract f k = bs ((s.data.toList.take k).drop f) := by
  apply ByteArray.ext; apply Array.ext'
  simp [bs, List.drop_take]
theorem byte_is {s : ByteArray} {k : Nat} (hk : k < s.size) (c : UInt8) : s[k].toNat = c.toNat ↔ (s.data.toList[k]'(by simpa using hk)) = c := by
  have e : (s.data.toList[k]'(by simpa using hk)) = s[k] := by simp; rfl
  rw [e]
  exact UInt8.toNat_inj
def PtRel (c : UInt8) (s : ByteArray) (W : World) (B : Nat) (v5 v6 v7 : Value) (wr : World) : Prop :=
  ∃ (k f : Nat) (out : List (List UInt8)) (g : Option Addr) (q : Nat), k ≤ s.size ∧ f ≤ k ∧ out.length ≤ k ∧ v7 = .int .i64 k ∧ v6 = .int .i64 f ∧ v5 = .slice g out.length q ∧ Hid (PtSt c s.data.toList f k out) ∧ Hid (Own wr B 9 1 (.slice g out.length q) out.length ((out.map bs).flatMap strCells)) ∧ Below B W wr
set_option maxRecDepth 100000 in
set_option maxHeartbeats 4000000 in
theorem implParts_any (c : UInt8) (s : ByteArray) (w : World) (hs : s.size ≤ 1048576) (L : List (List UInt8)) (hL : Hid (partsL c [] s.data.toList = L)) :
    Calls Tryz.prog 57 #[.string s, .int .u8 c.toNat] w fun e w' => ∃ g q, e = .returned (.slice g L.length q) ∧ Own w' w.heap.size 9 1 (.slice g L.length q) L.length ((L.map bs).flatMap strCells) ∧ Ext w w' := by
  obtain ⟨i0, hi, hz0, hz1, hz2⟩ := info_parts info_strL
  have hsz : s.data.toList.length = s.size := by simp
  obtain ⟨cz, hcz⟩ : ∃ z : Int, (c.toNat : Int) = z := ⟨_, rfl⟩
  rw [hcz]
  have HCZ := Lib.hid hcz
  clear hcz
  go_enter Tryz.func57, Tryz.ntmps57
  go_wp2_with fail
  go_loopw [5, 6, 7, 11] (fun v5 v6 _ v11 wr => PtRel c s w w.heap.size v5 v6 v11 wr) (fun _ _ _ i _ => s.size - (intOf i).toNat)
  case atStart => exact ⟨0, 0, [], some ⟨w.heap.size, 0, none⟩, 0, Nat.zero_le _, Nat.le_refl _, Nat.le_refl _, rfl, rfl, rfl, ptSt_start _ _, Own.none0 _, bxt⟩
  case round =>
    obtain ⟨k, f, out, g, q, hk, hf, hol, rfl, rfl, rfl, HS, HO, hb⟩ := hrel
    have hbs := hb.size
    by_cases hlt : k < s.size
    · have k1 : (k : Int) < (s.size : Int) := by omega
      have k3 : (0 : Int) ≤ (k : Int) := by omega
      have k5 : decide ((k : Int) < (s.size : Int)) = true := decide_eq_true k1
      have HB1 := Lib.hid (byte_is hlt c)
      by_cases hc : s[k].toNat = c.toNat
      · have HNX := Lib.hid (HS.out.hit (by omega) (HB1.out.1 hc))
        have ec : ((s[k].toNat : Int) == cz) = true := by (rw [beq_iff_eq, ← HCZ.out]; omega)
        have HEX := Lib.hid (ext_bs s f k)
        have q1 : (0 : Int) ≤ (f : Int) := by omega
        have q2 : (f : Int) ≤ (k : Int) := by omega
        have q3 : (k : Int) ≤ (s.size : Int) := by omega
        clear hc
        go_wp2_with ((at_builtin; refine wpList_appL (B := w.heap.size) (v := .slice g out.length q) rfl _ _ 45 rfl 9 i0 _ _ Tryz.underlying45 hi hz0 hz1 hz2 rfl (by decide) rfl (HO.out.ext bxt) (some ⟨wr.heap.size, 0, none⟩) 1 1 (strCells (s.extract f k)) rfl (Rd.lit _ _ _ _ 1 _ rfl rfl (by omega)) (by simp [strCells, Value.oneCell']) (by omega) (by omega) (by simp; omega) ?_))
        intro g2 q2' w2 hown hg hwl
        have hb2 : Below w.heap.size w w2 := Below.grown (Below.ext hb (show Ext wr _ from bxt)) hg (by simp; omega) (fun x hx => (HO.out.lt x hx).1)
        have HO2 : Hid (Own w2 w.heap.size 9 1 (.slice g2 (out ++ [(s.data.toList.take k).drop f]).length q2') (out ++ [(s.data.toList.take k).drop f]).length (((out ++ [(s.data.toList.take k).drop f]).map bs).flatMap strCells)) := by
          rw [HEX.out] at hown
          exact Lib.hid (by simpa using hown)
        clear hown hg hwl
        go_wp2_with fail
        go_roundw
        case rel => exact ⟨k + 1, k + 1, out ++ [(s.data.toList.take k).drop f], g2, q2', by omega, by omega, by simp; omega, by go_num, by go_num, by simp, HNX, HO2, hb2⟩
        case measure => simp [intOf]; omega
      · have HNX := Lib.hid (HS.out.miss hf (by omega) (fun h => hc (HB1.out.2 h)))
        have ec : ((s[k].toNat : Int) == cz) = false := by (rw [beq_eq_false_iff_ne, ← HCZ.out]; omega)
        clear hc
        go_wp2_with fail
        go_roundw
        case rel => exact ⟨k + 1, f, out, g, q, by omega, by omega, by omega, by go_num, rfl, rfl, HNX, HO, hb⟩
        case measure => simp [intOf]; omega
    · have k5 : decide ((k : Int) < (s.size : Int)) = false := decide_eq_false (by omega)
      obtain rfl : k = s.size := by omega
      have hst : partsL c [] s.data.toList = out ++ [s.data.toList.drop f] := PtSt.stop (by rw [hsz]; exact HS.out)
      have HST : Hid (L = out ++ [s.data.toList.drop f]) := by rw [← hst]; exact hL.out.symm
      have HEX := Lib.hid (ext_bs s f s.size)
      have q1 : (0 : Int) ≤ (f : Int) := by omega
      have q2 : (f : Int) ≤ (s.size : Int) := by omega
      clear hst
      go_wp2_with ((at_builtin; refine wpList_appL (B := w.heap.size) (v := .slice g out.length q) rfl _ _ 45 rfl 9 i0 _ _ Tryz.underlying45 hi hz0 hz1 hz2 rfl (by decide) rfl (HO.out.ext bxt) (some ⟨wr.heap.size, 0, none⟩) 1 1 (strCells (s.extract f s.size)) rfl (Rd.lit _ _ _ _ 1 _ rfl rfl (by omega)) (by simp [strCells, Value.oneCell']) (by omega) (by omega) (by simp; omega) ?_))
      intro g2 q2' w2 hown hg hwl
      have hb2 : Below w.heap.size w w2 := Below.grown (Below.ext hb (show Ext wr _ from bxt)) hg (by simp; omega) (fun x hx => (HO.out.lt x hx).1)
      rw [HEX.out, show (s.data.toList.take s.size) = s.data.toList by (rw [← hsz, List.take_length])] at hown
      have HO2 : Hid (Own w2 w.heap.size 9 1 (.slice g2 (out.length + 1) q2') (out.length + 1) (((out ++ [s.data.toList.drop f]).map bs).flatMap strCells)) := Lib.hid (by simpa using hown)
      clear hown hg hwl
      go_wp2_with fail
      refine bodyPost_ret (v := .slice g2 (out.length + 1) q2') (by simp [results, Tryz.results57, go_sem, *]) rfl ?_
      refine ⟨g2, q2', ?_, ?_, hb2⟩
      · rw [HST.out]; simp
      · have h := HO2.out
        rw [HST.out, show (out ++ [s.data.toList.drop f]).length = out.length + 1 by simp]
        exact h
def PtRelS (c : UInt8) (s : ByteArray) (L : List (List UInt8)) (W : World) (B : Nat) (v5 v6 v7 : Value) (wr : World) : Prop :=
  PtRel c s W B v5 v6 v7 wr ∨ ∃ (f : Nat) (g : Option Addr) (q : Nat), v7 = .int .i64 ((s.size : Int) + 1) ∧ v6 = .int .i64 f ∧ v5 = .slice g L.length q ∧ Hid (Own wr B 9 1 (.slice g L.length q) L.length ((L.map bs).flatMap strCells)) ∧ Below B W wr
set_option maxRecDepth 100000 in
set_option maxHeartbeats 4000000 in
theorem specParts_any (c : UInt8) (s : ByteArray) (w : World) (hs : s.size ≤ 1048576) (L : List (List UInt8)) (hL : Hid (partsL c [] s.data.toList = L)) :
    Calls Tryz.prog 26 #[.string s, .int .u8 c.toNat] w fun e w' => ∃ g q, e = .returned (.slice g L.length q) ∧ Own w' w.heap.size 9 1 (.slice g L.length q) L.length ((L.map bs).flatMap strCells) ∧ Ext w w' := by
  obtain ⟨i0, hi, hz0, hz1, hz2⟩ := info_parts info_strL
  have hsz : s.data.toList.length = s.size := by simp
  obtain ⟨cz, hcz⟩ : ∃ z : Int, (c.toNat : Int) = z := ⟨_, rfl⟩
  rw [hcz]
  have HCZ := Lib.hid hcz
  clear hcz
  go_enter Tryz.func26, Tryz.ntmps26
  go_wp2_with fail
  go_loopw [5, 6, 7] (PtRelS c s L w w.heap.size) (fun _ _ i _ => s.size + 1 - (intOf i).toNat)
  case atStart => exact Or.inl ⟨0, 0, [], some ⟨w.heap.size, 0, none⟩, 0, Nat.zero_le _, Nat.le_refl _, Nat.le_refl _, rfl, rfl, rfl, ptSt_start _ _, Own.none0 _, bxt⟩
  case round =>
    have hU : (undef : Value) = .tuple #[] := rfl
    rcases hrel with ⟨k, f, out, g, q, hk, hf, hol, rfl, rfl, rfl, HS, HO, hb⟩ | ⟨f, g, q, rfl, rfl, rfl, HO, hb⟩
    · have hbs := hb.size
      have k0 : (k : Int) ≤ (s.size : Int) := by omega
      have k3 : (0 : Int) ≤ (k : Int) := by omega
      have k4 : decide ((k : Int) ≤ (s.size : Int)) = true := decide_eq_true k0
      have q1 : (0 : Int) ≤ (f : Int) := by omega
      have q2 : (f : Int) ≤ (k : Int) := by omega
      by_cases hlt : k < s.size
      · have k1 : (k : Int) < (s.size : Int) := by omega
        have k5 : ((k : Int) == (s.size : Int)) = false := by rw [beq_eq_false_iff_ne]; omega
        have HB1 := Lib.hid (byte_is hlt c)
        by_cases hc : s[k].toNat = c.toNat
        · have HNX := Lib.hid (HS.out.hit (by omega) (HB1.out.1 hc))
          have ec : ((s[k].toNat : Int) == cz) = true := by (rw [beq_iff_eq, ← HCZ.out]; omega)
          have HEX := Lib.hid (ext_bs s f k)
          clear hc
          go_wp2_with ((at_builtin; refine wpList_appL (B := w.heap.size) (v := .slice g out.length q) rfl _ _ 45 rfl 9 i0 _ _ Tryz.underlying45 hi hz0 hz1 hz2 rfl (by decide) rfl (HO.out.ext bxt) (some ⟨wr.heap.size, 0, none⟩) 1 1 (strCells (s.extract f k)) rfl (Rd.lit _ _ _ _ 1 _ rfl rfl (by omega)) (by simp [strCells, Value.oneCell']) (by omega) (by omega) (by simp; omega) ?_))
          intro g2 q2' w2 hown hg hwl
          have hb2 : Below w.heap.size w w2 := Below.grown (Below.ext hb (show Ext wr _ from bxt)) hg (by simp; omega) (fun x hx => (HO.out.lt x hx).1)
          have HO2 : Hid (Own w2 w.heap.size 9 1 (.slice g2 (out ++ [(s.data.toList.take k).drop f]).length q2') (out ++ [(s.data.toList.take k).drop f]).length (((out ++ [(s.data.toList.take k).drop f]).map bs).flatMap strCells)) := by
            rw [HEX.out] at hown
            exact Lib.hid (by simpa using hown)
          clear hown hg hwl
          go_wp2_with fail
          refine ⟨?_, ?measure⟩
          iterate 60 (try apply Exists.intro)
          refine ⟨?rel, rfl⟩
          case rel => exact Or.inl ⟨k + 1, k + 1, out ++ [(s.data.toList.take k).drop f], g2, q2', by omega, by omega, by simp; omega, by go_num, by go_num, by simp, HNX, HO2, hb2⟩
          case measure => simp [intOf]; omega
        · have HNX := Lib.hid (HS.out.miss hf (by omega) (fun h => hc (HB1.out.2 h)))
          have ec : ((s[k].toNat : Int) == cz) = false := by (rw [beq_eq_false_iff_ne, ← HCZ.out]; omega)
          clear hc
          go_wp2_with fail
          go_roundw
          case rel => exact Or.inl ⟨k + 1, f, out, g, q, by omega, by omega, by omega, by go_num, rfl, rfl, HNX, HO, hb⟩
          case measure => simp [intOf]; omega
      · obtain rfl : k = s.size := by omega
        have hst : partsL c [] s.data.toList = out ++ [s.data.toList.drop f] := PtSt.stop (by rw [hsz]; exact HS.out)
        have HST : Hid (L = out ++ [s.data.toList.drop f]) := by rw [← hst]; exact hL.out.symm
        have HEX := Lib.hid (ext_bs s f s.size)
        clear hst
        go_wp2_with ((at_builtin; refine wpList_appL (B := w.heap.size) (v := .slice g out.length q) rfl _ _ 45 rfl 9 i0 _ _ Tryz.underlying45 hi hz0 hz1 hz2 rfl (by decide) rfl (HO.out.ext bxt) (some ⟨wr.heap.size, 0, none⟩) 1 1 (strCells (s.extract f s.size)) rfl (Rd.lit _ _ _ _ 1 _ rfl rfl (by omega)) (by simp [strCells, Value.oneCell']) (by omega) (by omega) (by simp; omega) ?_))
        intro g2 q2' w2 hown hg hwl
        have hb2 : Below w.heap.size w w2 := Below.grown (Below.ext hb (show Ext wr _ from bxt)) hg (by simp; omega) (fun x hx => (HO.out.lt x hx).1)
        rw [HEX.out, show (s.data.toList.take s.size) = s.data.toList by (rw [← hsz, List.take_length])] at hown
        have HO2 : Hid (Own w2 w.heap.size 9 1 (.slice g2 (out.length + 1) q2') (out.length + 1) (((out ++ [s.data.toList.drop f]).map bs).flatMap strCells)) := Lib.hid (by simpa using hown)
        have HN : Hid (PtRelS c s L w w.heap.size (.slice g2 (out.length + 1) q2') (.int .i64 ((s.size : Int) + 1)) (.int .i64 ((s.size : Int) + 1)) w2) := by
          refine Or.inr ⟨s.size + 1, g2, q2', rfl, by simp, ?_, ?_, hb2⟩
          · rw [HST.out]; simp
          · have h := HO2.out
            unfold Hid
            rw [HST.out, show (out ++ [s.data.toList.drop f]).length = out.length + 1 by simp]
            exact h
        clear hown hg hwl
        go_wp2_with fail
        refine ⟨?_, ?measure⟩
        iterate 60 (try apply Exists.intro)
        refine ⟨?rel, rfl⟩
        case rel => exact HN.out
        case measure => simp [intOf]
    · have k4 : decide ((s.size : Int) + 1 ≤ (s.size : Int)) = false := decide_eq_false (by omega)
      go_wp2_with fail
      refine bodyPost_ret (v := .slice g L.length q) (by simp [results, Tryz.results26, go_sem, *]) rfl ?_
      exact ⟨g, q, rfl, HO.out, hb⟩
end Go.Proofs.YtidfhkdonhjgaaaGreatDoor
