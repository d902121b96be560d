/-
  The lines of a text: the program's function (strings.Split) and the reference's loop.
-/
import Derived.Test.YtidfhkdonhjgaaaGreatDoorWLinesP
import Derived.Test.YtidfhkdonhjgaaaGreatDoorShf
import Derived.Test.YtidfhkdonhjgaaaGreatDoorXOwn
import Derived.Test.YtidfhkdonhjgaaaGreatDoorStrs
import Derived.Test.YtidfhkdonhjgaaaGreatDoorCSmall
import Derived.IntWalk
namespace Go.Proofs.YtidfhkdonhjgaaaGreatDoor
open Go.RowKit
set_option linter.unusedVariables false
set_option linter.unusedSimpArgs false

theorem flat_strs (l : List ByteArray) : l.flatMap strCells = l.map Value.string := by
  induction l with
  | nil => rfl
  | cons x l ih => simp [strCells, ih]
/-- a literal's head -/
theorem own_head {w : World} {cs : Array Value} {E n c g : Nat} {xs : List Value} (hg : w.heap.size = g) (hc : cs.size = c) (hn : n ≤ c) (hm : c ≤ 4194304) (hx : cs.toList.take n = xs) : Own (w.alloc (.cells cs E)) w.heap.size E 1 (.slice (some ⟨g, 0, none⟩) n c) n xs := by
  subst hg
  refine ⟨by rw [← hx, List.length_take, Array.length_toList]; omega, _, _, rfl, hn, Or.inr ⟨w.heap.size, cs, rfl, Nat.le_refl _, heap_alloc_new w _, by unfold maxLen; omega, by omega, by simpa using hx⟩⟩
theorem split_count (s : ByteArray) : (Lib.splitB crlfB 0 (Lib.countB s crlfB) s).length = Lib.countB s crlfB + 1 := Lib.splitB_all crlfB (by decide) 0 _ s rfl
set_option maxHeartbeats 2000000 in
theorem implLinesIn_any (s : ByteArray) (w : World) (hm : MaxLen w) (hs : s.size ≤ 1048576) (L : List ByteArray) (hL : Hid (lnB s = L)) :
    Calls Tryz.prog 47 #[.string s] w fun e w' => ∃ g q, e = .returned (.slice g L.length q) ∧ Own w' w.heap.size 9 1 (.slice g L.length q) L.length (L.flatMap strCells) ∧ Ext w w' := by
  obtain ⟨m, hm1, hm2⟩ := hm
  have hsp := split_count s
  have hdl := splitB_lnB s
  obtain ⟨n, hn⟩ : ∃ n, Lib.countB s crlfB = n := ⟨_, rfl⟩
  rw [hn] at hsp hdl
  obtain ⟨P, hP⟩ : ∃ P, Lib.splitB crlfB 0 n s = P := ⟨_, rfl⟩
  rw [hP] at hsp hdl
  have hll : L.length = n := by rw [← hL.out, ← hdl, List.length_dropLast, hsp]; rfl
  have hlen : (lnB s).length ≤ s.size := lnB_len s
  have hn2 : n ≤ 1048576 := by rw [← hll, ← hL.out]; omega
  have HD := Lib.hid hdl; have HSP := Lib.hid hsp; have HLL := Lib.hid hll; have HLE := Lib.hid hL.out; have HPP := Lib.hid hP; have HNN := Lib.hid hn
  clear hdl hsp hll hP hlen hn
  go_enter Tryz.func47, Tryz.ntmps47
  go_wp2_with fail
  refine (Tryz.strings_Split s ⟨#[13, 10]⟩ m _ (by omega) hm1 (by decide)).mono ?_
  rintro e w1 ⟨rfl, rfl⟩
  rw [show Lib.countB s ⟨#[13, 10]⟩ = n from HNN.out, show Lib.splitB ⟨#[13, 10]⟩ 0 n s = P from HPP.out]
  have h1 : (n : Int) ≤ (n : Int) + 1 := by omega
  have h2 : (0 : Int) ≤ (n : Int) := by omega
  have hw : IntKind.i64.wrap (n : Int) = (n : Int) := IntWalk.i64_in _ (by omega)
  go_wp2_with fail
  refine bodyPost_ret (v := .slice (some ⟨w.heap.size, 0, none⟩) n (n + 1)) (by simp [results, Tryz.results47, go_sem, *]) rfl ?_
  refine ⟨some ⟨w.heap.size, 0, none⟩, n + 1, by rw [HLL.out], ?_, bxt⟩
  rw [HLL.out]
  refine own_head rfl (by simp [HSP.out]) (by omega) (by omega) ?_
  rw [flat_strs, ← HLE.out, ← HD.out, List.dropLast_eq_take, HSP.out]
  simp
theorem info_strL : (Tryz.prog.info? 9).map (fun i => (i.zero, i.size, i.bytes)) = some (some (.string ByteArray.empty), 1, 16) := by kernel_rfl
def LinRel (s : ByteArray) (W : World) (B : Nat) (v3 v4 v5 : Value) (wr : World) : Prop :=
  ∃ (k f : Nat) (out : List ByteArray) (g : Option Addr) (q : Nat), k ≤ s.size ∧ f ≤ k ∧ out.length ≤ k ∧ v5 = .int .i64 k ∧ v4 = .int .i64 f ∧ v3 = .slice g out.length q ∧ Hid (LnSt s f k out) ∧ Hid (Own wr B 9 1 (.slice g out.length q) out.length (out.flatMap strCells)) ∧ Below B W wr
theorem byte_13 {s : ByteArray} {k : Nat} (hk : k < s.size) {n : Nat} (hn : n < 256) : s[k].toNat = n ↔ (s.data.toList[k]'(by simpa using hk)) = UInt8.ofNat n := by
  have e : (s.data.toList[k]'(by simpa using hk)) = s[k] := by simp; rfl
  rw [e]
  constructor
  · intro h; apply UInt8.toNat_inj.1; rw [h]; simp; omega
  · intro h; rw [h]; simp; omega
set_option maxRecDepth 100000 in
set_option maxHeartbeats 4000000 in
theorem specLinesIn_any (s : ByteArray) (w : World) (hs : s.size ≤ 1048576) (L : List ByteArray) (hL : Hid (lnB s = L)) :
    Calls Tryz.prog 46 #[.string s] w fun e w' => ∃ g q, e = .returned (.slice g L.length q) ∧ Own w' w.heap.size 9 1 (.slice g L.length q) L.length (L.flatMap strCells) ∧ Ext w w' := by
  obtain ⟨i0, hi, hz0, hz1, hz2⟩ := info_parts info_strL
  have hsz : s.data.toList.length = s.size := by simp
  go_enter Tryz.func46, Tryz.ntmps46
  go_wp2_with fail
  go_loopw [3, 4, 5] (LinRel s w w.heap.size) (fun _ _ i _ => s.size - (intOf i).toNat)
  case atStart => exact ⟨0, 0, [], some ⟨w.heap.size, 0, none⟩, 0, Nat.zero_le _, Nat.le_refl _, Nat.le_refl _, rfl, rfl, rfl, lnSt_start s, Own.none0 _, bxt⟩
  case round =>
    obtain ⟨k, f, out, g, q, hk, hf, hol, rfl, rfl, rfl, HS, HO, hb⟩ := hrel
    have hw1 : IntKind.i64.wrap ((k : Int) + 1) = (k : Int) + 1 := IntWalk.i64_in _ (by omega)
    have HW1 := Lib.hid hw1
    clear hw1
    by_cases hlt : k + 1 < s.size
    · have k1 : (k : Int) + 1 < (s.size : Int) := by omega
      have k2 : (k : Int) < (s.size : Int) := by omega
      have k3 : (0 : Int) ≤ (k : Int) := by omega
      have k4 : (0 : Int) ≤ (k : Int) + 1 := by omega
      have k5 : decide ((k : Int) + 1 < (s.size : Int)) = true := decide_eq_true k1
      have b1 := byte_13 (s := s) (k := k) (by omega) (n := 13) (by omega)
      have b2 := byte_13 (s := s) (k := k + 1) (by omega) (n := 10) (by omega)
      have HB1 := Lib.hid b1
      have HB2 := Lib.hid b2
      clear b1 b2
      by_cases h13 : s[k].toNat = 13
      · by_cases h10 : s[k + 1].toNat = 10
        · have HNX := Lib.hid (HS.out.hit (by omega) (HB1.out.1 h13) (HB2.out.1 h10))
          have e13 : ((s[k].toNat : Int) == 13) = true := by (rw [beq_iff_eq]; omega)
          have e10 : ((s[k + 1].toNat : Int) == 10) = true := by (rw [beq_iff_eq]; omega)
          have q1 : (0 : Int) ≤ (f : Int) := by omega
          have q2 : (f : Int) ≤ (k : Int) := by omega
          have q3 : (k : Int) ≤ (s.size : Int) := by omega
          go_wp2_with ((at_builtin; refine wpList_appL (B := w.heap.size) (v := .slice g out.length q) rfl _ _ 45 rfl 9 i0 _ _ Tryz.underlying45 hi hz0 hz1 hz2 rfl (by decide) rfl (HO.out.ext bxt) (some ⟨wr.heap.size, 0, none⟩) 1 1 (strCells (s.extract f k)) rfl (Rd.lit _ _ _ _ 1 _ rfl rfl (by omega)) (by simp [strCells, Value.oneCell']) (by omega) (by omega) (by have := hb.size; simp; omega) ?_))
          intro g2 q2' w2 hown hg hwl
          have hb2 : Below w.heap.size w w2 := Below.grown (Below.ext hb (show Ext wr _ from bxt)) hg (by have := hb.size; simp; omega) (fun x hx => (HO.out.lt x hx).1)
          have HO2 : Hid (Own w2 w.heap.size 9 1 (.slice g2 (out ++ [s.extract f k]).length q2') (out ++ [s.extract f k]).length ((out ++ [s.extract f k]).flatMap strCells)) := Lib.hid (by simpa using hown)
          clear hown hg hwl
          go_wp2_with fail
          go_roundw
          case rel => exact ⟨k + 2, k + 2, out ++ [s.extract f k], g2, q2', by omega, by omega, by simp; omega, by go_num, by go_num, by simp, HNX, HO2, hb2⟩
          case measure => simp [intOf]; omega
        · have HNX := Lib.hid (HS.out.miss hf (by omega) (fun h => h10 (HB2.out.2 h.2)))
          have e13 : ((s[k].toNat : Int) == 13) = true := by (rw [beq_iff_eq]; omega)
          have e10 : ((s[k + 1].toNat : Int) == 10) = false := by (rw [beq_eq_false_iff_ne]; omega)
          go_wp2_with fail
          go_roundw
          case rel => exact ⟨k + 1, f, out, g, q, by omega, by omega, by omega, by go_num, rfl, rfl, HNX, HO, hb⟩
          case measure => simp [intOf]; omega
      · have HNX := Lib.hid (HS.out.miss hf (by omega) (fun h => h13 (HB1.out.2 h.1)))
        have e13 : ((s[k].toNat : Int) == 13) = false := by (rw [beq_eq_false_iff_ne]; omega)
        have hU : (undef : Value) = .tuple #[] := rfl
        go_wp2_with fail
        go_roundw
        case rel => exact ⟨k + 1, f, out, g, q, by omega, by omega, by omega, by go_num, rfl, rfl, HNX, HO, hb⟩
        case measure => simp [intOf]; omega
    · have k5 : decide ((k : Int) + 1 < (s.size : Int)) = false := decide_eq_false (by omega)
      have hst := Lib.hid (HS.out.stop (by omega))
      obtain rfl : out = L := by rw [← hst.out]; exact hL.out
      go_wp2_with fail
      refine bodyPost_ret (v := .slice g out.length q) (by simp [results, Tryz.results46, go_sem, *]) rfl ?_
      exact ⟨g, q, rfl, HO.out, hb⟩
end Go.Proofs.YtidfhkdonhjgaaaGreatDoor
