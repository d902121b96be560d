/-
  Flags by their names: the program's bitsOf and ReadFlags; the reference's ReadFlags.
-/
import Derived.Test.YtidfhkdonhjgaaaGreatDoorWRfI
namespace Go.Proofs.YtidfhkdonhjgaaaGreatDoor
open Go.RowKit
set_option linter.unusedVariables false
set_option linter.unusedSimpArgs false

/-- after the first k words -/
def RfSt (ws : List (List UInt8)) (k b : Nat) : Prop := rfK 0 ws = rfK b (ws.drop k) ∧ b ≤ 31
theorem RfSt.stop {ws : List (List UInt8)} {b : Nat} (h : RfSt ws ws.length b) : rfV ws = b := by
  unfold rfV
  rw [h.1, List.drop_length]
  rfl
theorem RfSt.bad {ws : List (List UInt8)} {k b : Nat} (h : RfSt ws k b) (hk : k < ws.length) (hf : fIdx ws[k] upNames 0 = none) : rfV ws = 0 := by
  unfold rfV
  rw [h.1, List.drop_eq_getElem_cons hk, rfK, hf]
theorem RfSt.twice {ws : List (List UInt8)} {k b i : Nat} (h : RfSt ws k b) (hk : k < ws.length) (hf : fIdx ws[k] upNames 0 = some i) (hb : b / 2 ^ i % 2 = 1) : rfV ws = 0 := by
  unfold rfV
  rw [h.1, List.drop_eq_getElem_cons hk, rfK, hf]
  simp only [hb, if_true]
theorem bit_add : ∀ (b : Fin 32) (i : Fin 5), b.val / 2 ^ i.val % 2 ≠ 1 → b.val + 2 ^ i.val ≤ 31 ∧ bits BinOp.or IntKind.i64 (b.val : Int) ((2 ^ i.val : Nat) : Int) = ((b.val + 2 ^ i.val : Nat) : Int) := by decide +kernel
theorem or_bit : ∀ (b : Fin 32) (i : Fin 5), b.val / 2 ^ i.val % 2 ≠ 1 → bits BinOp.or IntKind.i64 (b.val : Int) (wrap64 ((2 : Int) ^ i.val)) = ((b.val + 2 ^ i.val : Nat) : Int) := by decide +kernel
theorem RfSt.next {ws : List (List UInt8)} {k b i : Nat} (h : RfSt ws k b) (hk : k < ws.length) (hf : fIdx ws[k] upNames 0 = some i) (hi : i < 5) (hb : ¬ b / 2 ^ i % 2 = 1) : RfSt ws (k + 1) (b + 2 ^ i) := by
  refine ⟨?_, (bit_add ⟨b, by have := h.2; omega⟩ ⟨i, hi⟩ hb).1⟩
  rw [h.1, List.drop_eq_getElem_cons hk, rfK, hf]
  simp only [hb, if_false]
theorem fIdx_lt' : ∀ (l : List (List UInt8)) (y : List UInt8) (n i : Nat), fIdx y l n = some i → i < n + l.length
  | [], y, n, i, h => by cases h
  | x :: t, y, n, i, h => by
    unfold fIdx at h
    split at h
    · injection h with h; simp; omega
    · have := fIdx_lt' t y (n + 1) i h; simp; omega
theorem fIdx_lt {y : List UInt8} {i : Nat} (h : fIdx y upNames 0 = some i) : i < 5 := by
  have := fIdx_lt' _ _ _ _ h
  simpa [upNames] using this
def BoRel (ws : List ByteArray) (W : World) (v6 v12 : Value) (wr : World) : Prop :=
  ∃ k b : Nat, k ≤ ws.length ∧ v12 = .int .i64 k ∧ v6 = .int .i64 b ∧ Hid (RfSt (ws.map (·.data.toList)) k b) ∧ Ext W wr
def RfPost (ws : List ByteArray) (w : World) (e : Ending) (w' : World) : Prop := ∃ b : Bool, e = .returned (.tuple #[.int .i64 (rfV (ws.map (·.data.toList))), .bool b]) ∧ Ext w w'
set_option maxRecDepth 100000 in
set_option maxHeartbeats 4000000 in
theorem bitsOf_any (ws : List ByteArray) (a1 a2 : Option Addr) (c1 c2 : Nat) (w : World) (R1 : Rd w a1 c1 1 5 (fnms.flatMap strCells)) (R2 : Rd w a2 c2 1 ws.length (ws.flatMap strCells)) (hs : ∀ x ∈ ws, x.size ≤ 1048576) :
    Calls Tryz.prog 102 #[.slice a1 5 c1, .slice a2 ws.length c2] w (RfPost ws w) := by
  have hl : ws.length ≤ 9223372036854775807 := Nat.le_trans R2.nc R2.cm
  have hU : (undef : Value) = .tuple #[] := rfl
  have H1 := Lib.hid R1
  have HS0 := Lib.hid hs
  clear R1 hs
  have hml : (ws.map (·.data.toList)).length = ws.length := by simp
  have HML := Lib.hid hml
  clear hml
  go_enter Tryz.func102, Tryz.ntmps102
  go_wp2_with fail
  go_loopw [6, 8, 9, 12] (fun v6 _ _ v12 wr => BoRel ws w v6 v12 wr) (fun _ _ _ i _ => ws.length - (intOf i).toNat)
  case atStart => exact ⟨0, 0, Nat.zero_le _, rfl, rfl, Lib.hid ⟨by simp, by omega⟩, bxt⟩
  case round =>
    obtain ⟨k, b, hk, rfl, rfl, HS, hb⟩ := hrel
    have hb31 := HS.out.2
    have hbs := hb.size
    by_cases hlt : k < ws.length
    · have k1 : (k : Int) < (ws.length : Int) := by omega
      have k3 : (0 : Int) ≤ (k : Int) := by omega
      have k5 : decide ((k : Int) < (ws.length : Int)) = true := decide_eq_true k1
      obtain ⟨bb, o, rfl, hb0, hat⟩ := R2.ptr (by omega)
      have hc1 : wr.cell? ⟨bb, o + k, none⟩ = some (.string ws[k]) := by
        have h := strCells_at hat k hlt
        rw [hb.cell (p := ⟨bb, o + k, none⟩) hb0, h]
      have hys := HS0.out ws[k] (List.getElem_mem hlt)
      have hmk : k < (ws.map (·.data.toList)).length := by rw [HML.out]; exact hlt
      have hym : (ws.map (·.data.toList))[k]'hmk = ws[k].data.toList := by simp
      have hbad := fun h => HS.out.bad hmk h
      have htw := fun i h => HS.out.twice (i := i) hmk h
      have hnx := fun i h => HS.out.next (i := i) hmk h
      rw [hym] at hbad htw hnx
      obtain ⟨y, hy⟩ : ∃ y, ws[k] = y := ⟨_, rfl⟩
      rw [hy] at hc1 hys hbad htw hnx
      have HBD := Lib.hid hbad
      have HTW := Lib.hid htw
      have HNX := Lib.hid hnx
      clear hat hbad htw hnx hym hy
      go_wp2_with fail
      have hcb : ((wr.alloc (.cells #[.string y] 9))).cell? ⟨wr.heap.size, 0, none⟩ = some (.string y) := by simp [go_sem]
      refine (indexFunc_any y wr.heap.size a1 c1 _ (H1.out.ext (show Ext w _ from bxt)) hcb hys).mono ?_
      rintro e w1 ⟨rfl, hb1⟩
      have hE1 : Ext w w1 := Below.ext hb (show Ext wr w1 from bxt)
      cases hf : fIdx y.data.toList upNames 0 with
      | none =>
        have HV := Lib.hid (HBD.out hf)
        clear hf hcb
        rw [show idxV none = -1 from rfl]
        go_wp2_with fail
        refine bodyPost_ret (v := .tuple #[.int .i64 0, .bool false]) (by simp [results, Tryz.results102, go_sem, *]) rfl ?_
        exact ⟨false, by rw [HV.out], hE1⟩
      | some i =>
        have hi5 := fIdx_lt hf
        have HTW1 := Lib.hid (HTW.out i hf)
        have HNX1 := Lib.hid (HNX.out i hf hi5)
        have i1 : (i : Int) < 5 := by omega
        have i3 : (0 : Int) ≤ (i : Int) := by omega
        have i4 : decide ((i : Int) < 0) = false := decide_eq_false (by omega)
        rw [show idxV (some i) = (i : Int) from rfl]
        clear hf hcb
        by_cases hbit : b / 2 ^ i % 2 = 1
        · have hbt := bit_one b i hb31 true (by simp [hbit])
          have HV := Lib.hid (HTW1.out hbit)
          clear hbit
          go_wp2_with fail
          refine bodyPost_ret (v := .tuple #[.int .i64 0, .bool false]) (by simp [results, Tryz.results102, go_sem, *]) rfl ?_
          exact ⟨false, by rw [HV.out], hE1⟩
        · have hbt := bit_one b i hb31 false (by simp; omega)
          have HN := Lib.hid (HNX1.out hbit)
          have HOR : Hid (bits BinOp.or IntKind.i64 (b : Int) (wrap64 ((2 : Int) ^ i)) = ((b + 2 ^ i : Nat) : Int)) := or_bit ⟨b, by omega⟩ ⟨i, hi5⟩ hbit
          clear hbit
          go_wp2_with fail
          refine ⟨?_, ?measure⟩
          iterate 60 (try apply Exists.intro)
          refine ⟨?rel, rfl⟩
          case rel => exact ⟨k + 1, b + 2 ^ i, by omega, by go_num, by (show Value.int .i64 _ = _; rw [HOR.out]), HN, hE1⟩
          case measure => simp [intOf]; omega
    · have k5 : decide ((k : Int) < (ws.length : Int)) = false := decide_eq_false (by omega)
      obtain rfl : k = ws.length := by omega
      have HV : Hid (rfV (ws.map (·.data.toList)) = b) := RfSt.stop (by rw [HML.out]; exact HS.out)
      go_wp2_with fail
      refine bodyPost_ret (v := .tuple #[.int .i64 b, .bool true]) (by simp [results, Tryz.results102, go_sem, *]) rfl ?_
      exact ⟨true, by rw [HV.out], hb⟩
end Go.Proofs.YtidfhkdonhjgaaaGreatDoor
