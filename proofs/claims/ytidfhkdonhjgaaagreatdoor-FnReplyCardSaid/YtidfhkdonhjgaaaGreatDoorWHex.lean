/-
  The hexadecimal text of bytes: the program's Hex (encoding/hex) and the reference's loop.
-/
import Derived.Test.YtidfhkdonhjgaaaGreatDoorWTxtP
import Derived.Test.YtidfhkdonhjgaaaGreatDoorWStr
import Derived.Test.YtidfhkdonhjgaaaGreatDoorShf
import Derived.Test.YtidfhkdonhjgaaaGreatDoorWNameOk
import Derived.Test.YtidfhkdonhjgaaaGreatDoorXOwn
namespace Go.Proofs.YtidfhkdonhjgaaaGreatDoor
open Go.RowKit
set_option linter.unusedVariables false
set_option linter.unusedSimpArgs false

set_option maxRecDepth 100000 in
set_option maxHeartbeats 1000000 in
theorem implHex_any (s : ByteArray) (w : World) (hs : s.size ≤ 1048576) :
    Calls Tryz.prog 74 #[.string s] w fun e w' => e = .returned (.string (bs (Lib.Hx.encode s.data.toList))) ∧ Ext w w' := by
  have hk := Lib.run_convert_string_bytes w 9 28 5 s Tryz.underlying9 Tryz.underlying28 Tryz.underlying5
  have hb := Lib.bytesWorld_below w 5 s
  have hc := Lib.bytesWorld_cell w 5 s
  have hz := Lib.bytesWorld_size w 5 s
  generalize Lib.bytesWorld w 5 s = w1 at hk hb hc hz
  generalize grownCap w s.size 0 5 = cap at hk
  have hl : s.data.toList.length = s.size := by simp
  obtain ⟨l, hll⟩ : ∃ l, s.data.toList = l := ⟨_, rfl⟩
  rw [hll] at hc hl ⊢
  rw [← hl] at hk hs
  have HC := Lib.hid hc
  have HZ := Lib.hid hz
  have HL := Lib.hid hl
  clear hc hz hll hl
  go_enter Tryz.func74, Tryz.ntmps74
  go_wp2_with fail
  refine (Tryz.hex_EncodeToString_bytes w.heap.size 0 cap l w1 (fun i hi => ?_) (by have := HZ.out; omega) (by omega)).mono ?_
  · rw [Nat.zero_add, HC.out i (by have := HL.out; omega)]
    simp [List.getD, hi]
  rintro e w2 ⟨rfl, hb2⟩
  go_wp2_with fail
  go_ret
  exact ⟨rfl, Below.ext hb hb2⟩
set_option maxHeartbeats 1000000 in
theorem hexOrDash_any (s : ByteArray) (w : World) (hs : s.size ≤ 1048576) :
    Calls Tryz.prog 33 #[.string s] w fun e w' => e = .returned (.string (bs (hexL s.data.toList))) ∧ Ext w w' := by
  by_cases he : s = ⟨#[]⟩
  · subst he
    go_enter Tryz.func33, Tryz.ntmps33
    go_wp2_with fail
    go_ret
    exact ⟨by simp [hexL, bs], bxt⟩
  have h1 : s.toList.isEmpty = false := by rw [str_empty]; exact decide_eq_false he
  have h2 : hexL s.data.toList = Lib.Hx.encode s.data.toList := by
    unfold hexL
    rw [if_neg]
    intro e
    apply he
    obtain ⟨⟨l⟩⟩ := s
    simp at e
    subst e; rfl
  have H2 := Lib.hid h2
  clear h2
  go_enter Tryz.func33, Tryz.ntmps33
  go_wp2_with fail
  refine (implHex_any s _ hs).mono ?_
  rintro e w1 ⟨rfl, hb⟩
  go_wp2_with fail
  go_ret
  exact ⟨by rw [H2.out]; rfl, hb⟩
theorem l1Hex_any (x : Int) (w : World) (h0 : 0 ≤ x) (h1 : x < 16) :
    Calls Tryz.prog 84 #[.int .u8 x] w fun e w' => e = .returned (.int .u8 ((Lib.Hx.digit x.toNat).toNat : Int)) ∧ w' = w := by
  have hd := hx_digit x.toNat (by omega)
  by_cases h : x < 10
  · have d : decide (x < 10) = true := decide_eq_true h
    have e1 : IntKind.u8.wrap (x + 48) = x + 48 := IntWalk.u8_in _ (by omega)
    rw [if_pos (by omega)] at hd
    have HD := Lib.hid hd
    clear hd
    go_enter Tryz.func84, Tryz.ntmps84
    go_wp2_with fail
    go_ret
    refine ⟨?_, rfl⟩
    rw [HD.out]
    refine congrArg (fun z => Ending.returned (Value.int .u8 z)) ?_
    first | (rw [e1]; omega) | (rw [e2]; omega) | omega
  · have d : decide (x < 10) = false := decide_eq_false h
    have e1 : IntKind.u8.wrap (x - 10) = x - 10 := IntWalk.u8_in _ (by omega)
    have e2 : IntKind.u8.wrap (x - 10 + 97) = x - 10 + 97 := IntWalk.u8_in _ (by omega)
    rw [if_neg (by omega)] at hd
    have HD := Lib.hid hd
    clear hd
    go_enter Tryz.func84, Tryz.ntmps84
    go_wp2_with fail
    go_ret
    refine ⟨?_, rfl⟩
    rw [HD.out]
    refine congrArg (fun z => Ending.returned (Value.int .u8 z)) ?_
    first | (rw [e1]; omega) | (rw [e2]; omega) | omega
theorem info_u8h : (Tryz.prog.info? 5).map (fun i => (i.zero, i.size, i.bytes)) = some (some (.int .u8 0), 1, 1) := by kernel_rfl
def HexRel (l : List UInt8) (W : World) (B : Nat) (v3 v4 : Value) (wr : World) : Prop :=
  ∃ (k : Nat) (g : Option Addr) (q : Nat), k ≤ l.length ∧ v4 = .int .i64 k ∧ v3 = .slice g (2 * k) q ∧ Hid (Own wr B 5 1 (.slice g (2 * k) q) (2 * k) (bv (Lib.Hx.encode (l.take k)))) ∧ Below B W wr
set_option maxRecDepth 100000 in
set_option maxHeartbeats 4000000 in
theorem specHex_any (s : ByteArray) (w : World) (hs : s.size ≤ 1048576) :
    Calls Tryz.prog 37 #[.string s] w fun e w' => e = .returned (.string (bs (Lib.Hx.encode s.data.toList))) ∧ Ext w w' := by
  obtain ⟨i0, hi, hz0, hz1, hz2⟩ := info_parts info_u8h
  have hsz : s.data.toList.length = s.size := by simp
  go_enter Tryz.func37, Tryz.ntmps37
  go_wp2_with fail
  go_loopw [3, 4] (HexRel s.data.toList w w.heap.size) (fun _ i _ => s.size - (intOf i).toNat)
  case atStart => exact ⟨0, some ⟨w.heap.size, 0, none⟩, 0, Nat.zero_le _, rfl, rfl, Own.none0 _, bxt⟩
  case round =>
    obtain ⟨k, g, q, hk, rfl, rfl, HO, hb⟩ := hrel
    by_cases hlt : k < s.size
    · have k1 : (k : Int) < (s.size : Int) := by omega
      have k3 : (0 : Int) ≤ (k : Int) := by omega
      have k5 : decide ((k : Int) < (s.size : Int)) = true := decide_eq_true k1
      have hb8 : s[k].toNat < 256 := s[k].toNat_lt
      have hbs := hb.size
      have hnx := encode_take (l := s.data.toList) (k := k) (by omega)
      have e1 : (s.data.toList[k]'(by omega)) = s[k] := by simp; rfl
      rw [e1] at hnx
      have HNX := Lib.hid hnx
      clear hnx e1
      obtain ⟨x, hx⟩ : ∃ x : Nat, s[k].toNat = x := ⟨_, rfl⟩
      have hx2 := hx
      rw [hx2] at hb8
      go_wp2_with fail
      have m1 : IntKind.u8.wrap ((x : Int) / 16) = (x : Int) / 16 := IntWalk.u8_in _ (by omega)
      have m2 : Int.tmod (x : Int) 16 = (x : Int) % 16 := Int.tmod_eq_emod_of_nonneg (by omega)
      go_wp2_with fail
      first
        | go_region_law (first
            | (go_simp; go_at_call 84; refine (l1Hex_any _ _ (by omega) (by omega)).mono ?_; rintro e w' ⟨rfl, rfl⟩)
            | (refine step_app (B := w.heap.size) (n := 2 * k) (xs := bv (Lib.Hx.encode (s.data.toList.take k))) (s := 1) (v := .slice g (2 * k) q) rfl (.tmp 12) (.tmp 23) 28 rfl 5 i0 _ _ Tryz.underlying28 hi hz0 hz1 hz2 rfl (by decide) (by simp [Act.eval, Act.put]) (by repeat' (first | with_reducible exact HO.out | with_reducible refine Own.alloc1 ?_ _ | with_reducible refine Own.drew1 ?_ | with_reducible refine Own.drewN1 ?_)) (some ⟨wr.heap.size, 0, none⟩) 2 2 [.int .u8 ((Lib.Hx.digit ((x : Int) / 16).toNat).toNat : Int), .int .u8 ((Lib.Hx.digit ((x : Int) % 16).toNat).toNat : Int)] (by simp [Act.eval, Act.put]) ⟨rfl, Nat.le_refl _, (by decide), fun _ => ⟨wr.heap.size, 0, rfl, (by simp), at_cons (by repeat' (first | with_reducible refine keep_drew ?_ | with_reducible refine keep_drewN ?_ | (simp [go_sem]; done))) (at_cons (by repeat' (first | with_reducible refine keep_drew ?_ | with_reducible refine keep_drewN ?_ | (simp [go_sem]; done))) (at_nil))⟩⟩ (by simp [Value.oneCell']) (by omega) (by decide) (by simp; omega) ?_; intro g2 q2 w6 hown2 hg2; have H2 := Lib.hid hown2; have hbel : Below w.heap.size w w6 := below_foot (B := w.heap.size) (Below.extB hb (show Ext wr _ from bxt) hbs) (show Own _ w.heap.size 5 1 (.slice g (2 * k) q) (2 * k) (bv (Lib.Hx.encode (s.data.toList.take k))) from (by repeat' (first | with_reducible exact HO.out | with_reducible refine Own.alloc1 ?_ _ | with_reducible refine Own.drew1 ?_ | with_reducible refine Own.drewN1 ?_))) (Nat.le_refl _) (by simp; omega) hg2; clear hown2 hg2))
        | fail
      all_goals
        have HN : Hid (Own w6 w.heap.size 5 1 (.slice g2 (2 * (k + 1)) q2) (2 * (k + 1)) (bv (Lib.Hx.encode (s.data.toList.take (k + 1))))) := by
          have h := H2.out
          rw [show 2 * k + 2 = 2 * (k + 1) by omega] at h
          rw [HNX.out, bv_app, hx]
          have q1 : ((x : Int) / 16).toNat = x / 16 := by omega
          have q2 : ((x : Int) % 16).toNat = x % 16 := by omega
          rw [q1, q2] at h
          exact h
        clear H2
        go_wp2_with fail
        go_roundw
        case rel => exact ⟨k + 1, g2, q2, by omega, by go_num, by rw [show 2 * k + 2 = 2 * (k + 1) by omega], HN, hbel⟩
        case measure => simp [intOf]; omega
    · have k5 : decide ((k : Int) < (s.size : Int)) = false := decide_eq_false (by omega)
      obtain rfl : k = s.size := by omega
      have hcv := conv_own 28 9 5 Tryz.underlying28 Tryz.underlying5 Tryz.underlying9 HO.out
      rw [← hsz, List.take_length] at hcv
      rw [hsz] at hcv
      go_wp2_with fail
      go_ret
      exact ⟨rfl, hb⟩
end Go.Proofs.YtidfhkdonhjgaaaGreatDoor
