/-
  Flags by their names: ReadFlags of the program and of the reference.
-/
import Derived.Test.YtidfhkdonhjgaaaGreatDoorWRfB
namespace Go.Proofs.YtidfhkdonhjgaaaGreatDoor
open Go.RowKit
set_option linter.unusedVariables false
set_option linter.unusedSimpArgs false

set_option maxRecDepth 100000 in
set_option maxHeartbeats 1000000 in
theorem implReadFlags_any (ws : List ByteArray) (a : Option Addr) (c : Nat) (w : World) (R : Rd w a c 1 ws.length (ws.flatMap strCells)) (hs : ∀ x ∈ ws, x.size ≤ 1048576) :
    Calls Tryz.prog 62 #[.slice a ws.length c] w (RfPost ws w) := by
  have HR := Lib.hid R
  have HS := Lib.hid hs
  clear R hs
  go_enter Tryz.func62, Tryz.ntmps62
  go_wp2_with fail
  refine (flagWords_any _).mono ?_
  rintro e w1 ⟨g, q, rfl, hr1, hb1⟩
  go_wp2_with fail
  refine (bitsOf_any ws g a q c _ hr1 (HR.out.ext hb1) HS.out).mono ?_
  rintro e w2 ⟨b, rfl, hb2⟩
  clear hr1
  go_wp2_with fail
  refine bodyPost_ret (v := .tuple #[.int .i64 (rfV (ws.map (·.data.toList))), .bool b]) (by simp [results, Tryz.results62, go_sem, *]) rfl ?_
  exact ⟨b, rfl, bxt⟩
theorem fIdx_is' : ∀ (l : List (List UInt8)) (y : List UInt8) (n i : Nat), fIdx y l n = some i → n ≤ i ∧ l[i - n]? = some (upW y)
  | [], y, n, i, h => by cases h
  | x :: t, y, n, i, h => by
    unfold fIdx at h
    split at h
    · rename_i he
      injection h with h
      subst h
      refine ⟨Nat.le_refl _, ?_⟩
      rw [Nat.sub_self, List.getElem?_cons_zero, he]
    · obtain ⟨h1, h2⟩ := fIdx_is' t y (n + 1) i h
      refine ⟨by omega, ?_⟩
      rw [show i - n = (i - (n + 1)) + 1 by omega, List.getElem?_cons_succ]
      exact h2
theorem fIdx_is {y : List UInt8} {i : Nat} (h : fIdx y upNames 0 = some i) : upW (fnm i) = upW y := by
  obtain ⟨_, h2⟩ := fIdx_is' _ _ _ _ h
  rw [Nat.sub_zero, upN_at i (fIdx_lt h)] at h2
  injection h2
theorem names_ne : ∀ (i j : Fin 5), upW (fnm i.val) = upW (fnm j.val) → i = j := by decide +kernel
theorem shl_one : ∀ i : Fin 5, wrap64 ((2 : Int) ^ i.val) = ((2 ^ i.val : Nat) : Int) := by decide +kernel
theorem and_bit : ∀ (b : Fin 32) (j : Fin 5), (bits BinOp.and IntKind.i64 (b.val : Int) ((2 ^ j.val : Nat) : Int) == 0) = !decide (b.val / 2 ^ j.val % 2 = 1) := by decide +kernel
theorem two_ne : ∀ j : Fin 5, (((2 ^ j.val : Nat) : Int) == 0) = false := by decide +kernel
/-- the inner loop -/
def InSt (y : List UInt8) (i bit : Nat) : Prop := (bit = 0 ∧ ∀ j, j < i → upW (fnm j) ≠ upW y) ∨ (∃ j, j < i ∧ bit = 2 ^ j ∧ fIdx y upNames 0 = some j)
theorem InSt.hit {y : List UInt8} {i bit : Nat} (h : InSt y i bit) (hi : i < 5) (hm : upW (fnm i) = upW y) : InSt y (i + 1) (2 ^ i) := by
  rcases h with ⟨_, h2⟩ | ⟨j, hj, _, h3⟩
  · exact Or.inr ⟨i, by omega, rfl, fIdx_hit y i hi h2 hm⟩
  · have h4 := fIdx_is h3
    have := names_ne ⟨j, by omega⟩ ⟨i, hi⟩ (h4.trans hm.symm)
    injection this with this
    omega
theorem InSt.miss {y : List UInt8} {i bit : Nat} (h : InSt y i bit) (hm : ¬ upW (fnm i) = upW y) : InSt y (i + 1) bit := by
  rcases h with ⟨h1, h2⟩ | ⟨j, hj, h2, h3⟩
  · refine Or.inl ⟨h1, fun j hj => ?_⟩
    rcases Nat.lt_or_ge j i with h | h
    · exact h2 j h
    · obtain rfl : j = i := by omega
      exact hm
  · exact Or.inr ⟨j, by omega, h2, h3⟩
theorem InSt.stop {y : List UInt8} {bit : Nat} (h : InSt y 5 bit) : (bit = 0 ∧ fIdx y upNames 0 = none) ∨ ∃ j, j < 5 ∧ bit = 2 ^ j ∧ fIdx y upNames 0 = some j := by
  rcases h with ⟨h1, h2⟩ | h
  · exact Or.inl ⟨h1, fIdx_none y h2⟩
  · exact Or.inr h
def RsRel (ws : List ByteArray) (W : World) (v4 v5 : Value) (wr : World) : Prop :=
  ∃ k b : Nat, k ≤ ws.length ∧ v5 = .int .i64 k ∧ v4 = .int .i64 b ∧ Hid (RfSt (ws.map (·.data.toList)) k b) ∧ Ext W wr
def InRel (y : List UInt8) (W : World) (v6 v7 : Value) (wr : World) : Prop :=
  ∃ i bit : Nat, i ≤ 5 ∧ v7 = .int .i64 i ∧ v6 = .int .i64 bit ∧ Hid (InSt y i bit) ∧ Ext W wr
set_option maxRecDepth 100000 in
set_option maxHeartbeats 4000000 in
theorem specReadFlags_any (ws : List ByteArray) (a : Option Addr) (c : Nat) (w : World) (R2 : Rd w a c 1 ws.length (ws.flatMap strCells)) (hs : ∀ x ∈ ws, x.size ≤ 1048576) :
    Calls Tryz.prog 96 #[.slice a ws.length c] w (RfPost ws w) := by
  have hl : ws.length ≤ 9223372036854775807 := Nat.le_trans R2.nc R2.cm
  have hU : (undef : Value) = .tuple #[] := rfl
  have HS0 := Lib.hid hs
  clear hs
  have hml : (ws.map (·.data.toList)).length = ws.length := by simp
  have HML := Lib.hid hml
  clear hml
  go_enter Tryz.func96, Tryz.ntmps96
  go_wp2_with fail
  go_loopw [4, 5, 6, 7] (fun v4 v5 _ _ wr => RsRel ws w v4 v5 wr) (fun _ i _ _ _ => ws.length - (intOf i).toNat)
  case atStart => exact ⟨0, 0, Nat.zero_le _, rfl, rfl, Lib.hid ⟨by simp, by omega⟩, bxt⟩
  case round =>
    obtain ⟨k, b, hk, rfl, rfl, HS, hb⟩ := hrel
    have hb31 := HS.out.2
    have hbs := hb.size
    by_cases hlt : k < ws.length
    · have k1 : (k : Int) < (ws.length : Int) := by omega
      have k3 : (0 : Int) ≤ (k : Int) := by omega
      have k5 : decide ((k : Int) < (ws.length : Int)) = true := decide_eq_true k1
      obtain ⟨bb, o, rfl, hb0, hat⟩ := R2.ptr (by omega)
      have hcw : w.cell? ⟨bb, o + k, none⟩ = some (.string ws[k]) := strCells_at hat k hlt
      have hys := HS0.out ws[k] (List.getElem_mem hlt)
      have hmk : k < (ws.map (·.data.toList)).length := by rw [HML.out]; exact hlt
      have hym : (ws.map (·.data.toList))[k]'hmk = ws[k].data.toList := by simp
      have hbad := fun h => HS.out.bad hmk h
      have htw := fun i h => HS.out.twice (i := i) hmk h
      have hnx := fun i h => HS.out.next (i := i) hmk h
      rw [hym] at hbad htw hnx
      obtain ⟨y, hy⟩ : ∃ y, ws[k] = y := ⟨_, rfl⟩
      rw [hy] at hcw hys hbad htw hnx
      have HBD := Lib.hid hbad
      have HTW := Lib.hid htw
      have HNX := Lib.hid hnx
      have HCW := Lib.hid hcw
      clear hat hbad htw hnx hym hy hcw
      go_wp2_with fail
      go_loopw [6, 7] (InRel y.data.toList w) (fun _ i _ => 5 - (intOf i).toNat)
      case atStart => exact ⟨0, 0, Nat.zero_le _, rfl, rfl, Lib.hid (Or.inl ⟨rfl, fun j hj => absurd hj (Nat.not_lt_zero _)⟩), bxt⟩
      case round =>
        obtain ⟨i, bit, hi, rfl, rfl, HI, hbi⟩ := hrel
        have hbis := hbi.size
        by_cases hi5 : i < 5
        · have i1 : (i : Int) < 5 := by omega
          have i3 : (0 : Int) ≤ (i : Int) := by omega
          have i5 : decide ((i : Int) < 5) = true := decide_eq_true i1
          have hc1 := (hbi.cell (p := ⟨bb, o + k, none⟩) hb0).trans HCW.out
          go_wp2_with fail
          refine (specUpper_any y _ hys).mono ?_
          rintro e w1 ⟨rfl, hb1⟩
          go_wp2_with fail
          refine (l5Words_any _).mono ?_
          rintro e w2 ⟨rfl, hat, hs2, hb2⟩
          have hc2 : w2.cell? ⟨w1.heap.size, i, none⟩ = some (.string (bs (fnm i))) := by
            have h := strCells_at hat i (by simpa [fnms] using hi5)
            rw [Nat.zero_add] at h
            rw [h, fnms_at i hi5]
          clear hat
          go_wp2_with fail
          refine (specUpper_any (bs (fnm i)) _ (fnm_size i)).mono ?_
          rintro e w3 ⟨rfl, hb3⟩
          rw [bs_data]
          have hE3 : Ext w w3 := Below.ext hbi (show Ext _ w3 from bxt)
          have hse := str_eqB (upW y.data.toList) (upW (fnm i))
          by_cases hm : upW (fnm i) = upW y.data.toList
          · have HN := Lib.hid (HI.out.hit hi5 hm)
            rw [decide_eq_true hm.symm] at hse
            have HSH : Hid (wrap64 ((2 : Int) ^ i) = ((2 ^ i : Nat) : Int)) := shl_one ⟨i, hi5⟩
            clear hm
            go_wp2_with fail
            refine ⟨?_, ?measure⟩
            iterate 60 (try apply Exists.intro)
            refine ⟨?rel, rfl⟩
            case rel => exact ⟨i + 1, 2 ^ i, by omega, by go_num, by (show Value.int .i64 _ = _; rw [HSH.out]), HN, hE3⟩
            case measure => simp [intOf]; omega
          · have HN := Lib.hid (HI.out.miss hm)
            rw [decide_eq_false (fun e => hm e.symm)] at hse
            clear hm
            go_wp2_with fail
            refine ⟨?_, ?measure⟩
            iterate 60 (try apply Exists.intro)
            refine ⟨?rel, rfl⟩
            case rel => exact ⟨i + 1, bit, by omega, by go_num, rfl, HN, hE3⟩
            case measure => simp [intOf]; omega
        · have i5 : decide ((i : Int) < 5) = false := decide_eq_false (by omega)
          obtain rfl : i = 5 := by omega
          rcases HI.out.stop with ⟨rfl, hf⟩ | ⟨j, hj, rfl, hf⟩
          · have HV := Lib.hid (HBD.out hf)
            clear hf
            go_wp2_with fail
            refine bodyPost_ret (v := .tuple #[.int .i64 0, .bool false]) (by simp [results, Tryz.results96, go_sem, *]) rfl ?_
            exact ⟨false, by rw [HV.out], hbi⟩
          · have HTW1 := Lib.hid (HTW.out j hf)
            have HNX1 := Lib.hid (HNX.out j hf hj)
            have hab := and_bit ⟨b, by omega⟩ ⟨j, hj⟩
            have htn := two_ne ⟨j, hj⟩
            have hadd := bit_add ⟨b, by omega⟩ ⟨j, hj⟩
            simp only at hab htn hadd
            obtain ⟨z, hz⟩ : ∃ z : Int, ((2 ^ j : Nat) : Int) = z := ⟨_, rfl⟩
            rw [hz] at hab htn hadd ⊢
            clear hf
            by_cases hbit : b / 2 ^ j % 2 = 1
            · rw [decide_eq_true hbit] at hab
              have hab2 : (bits BinOp.and IntKind.i64 (b : Int) z != 0) = true := by rw [bne, hab]; rfl
              have HV := Lib.hid (HTW1.out hbit)
              clear hbit hadd hz
              go_wp2_with fail
              refine bodyPost_ret (v := .tuple #[.int .i64 0, .bool false]) (by simp [results, Tryz.results96, go_sem, *]) rfl ?_
              exact ⟨false, by rw [HV.out], hbi⟩
            · rw [decide_eq_false hbit] at hab
              have hab2 : (bits BinOp.and IntKind.i64 (b : Int) z != 0) = false := by rw [bne, hab]; rfl
              have HN := Lib.hid (HNX1.out hbit)
              have HAD := Lib.hid (hadd hbit).2
              clear hbit hadd hz
              go_wp2_with fail
              go_roundw
              case rel => exact ⟨k + 1, b + 2 ^ j, by omega, by go_num, by rw [HAD.out], HN, hbi⟩
              case measure => simp [intOf]; omega
    · have k5 : decide ((k : Int) < (ws.length : Int)) = false := decide_eq_false (by omega)
      obtain rfl : k = ws.length := by omega
      have HV : Hid (rfV (ws.map (·.data.toList)) = b) := RfSt.stop (by rw [HML.out]; exact HS.out)
      go_wp2_with fail
      refine bodyPost_ret (v := .tuple #[.int .i64 b, .bool true]) (by simp [results, Tryz.results96, go_sem, *]) rfl ?_
      exact ⟨true, by rw [HV.out], hb⟩
end Go.Proofs.YtidfhkdonhjgaaaGreatDoor
