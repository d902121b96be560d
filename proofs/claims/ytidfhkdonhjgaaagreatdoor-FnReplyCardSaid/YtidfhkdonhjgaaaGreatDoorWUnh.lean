/-
  Bytes out of their hexadecimal text: the program's Unhex (encoding/hex) and the reference's loop.
-/
import Derived.Test.YtidfhkdonhjgaaaGreatDoorWGl
import Derived.Test.YtidfhkdonhjgaaaGreatDoorWGsP
import Derived.Test.YtidfhkdonhjgaaaGreatDoorWHex
import Derived.Test.YtidfhkdonhjgaaaGreatDoorWNum
import Derived.Test.YtidfhkdonhjgaaaGreatDoorWFlg
namespace Go.Proofs.YtidfhkdonhjgaaaGreatDoor
open Go.RowKit
set_option linter.unusedVariables false
set_option linter.unusedSimpArgs false

def TxPost (s : ByteArray) (w : World) (e : Ending) (w' : World) : Prop := ∃ (t : ByteArray) (b : Bool), e = .returned (.tuple #[.string t, .bool b]) ∧ TxIs s.data.toList t ∧ t.size ≤ s.size ∧ Ext w w'
theorem txIs_none {s : List UInt8} (h : ∀ x : List UInt8, x ≠ [] → s ≠ Lib.Hx.encode x) : TxIs s ⟨#[]⟩ := by
  intro x hx
  by_cases h0 : x = []
  · subst h0; rfl
  · unfold hexL at hx
    rw [if_neg h0] at hx
    exact absurd hx (h x h0)
set_option maxRecDepth 100000 in
set_option maxHeartbeats 4000000 in
theorem implUnhex_any (s : ByteArray) (w : World) (hg : Gl w) (hs : s.size ≤ 1048576) :
    Calls Tryz.prog 63 #[.string s] w (TxPost s w) := by
  have hsz : s.data.toList.length = s.size := by simp
  obtain ⟨tp, p, hv⟩ := hg.el
  have hE : w.cell? ⟨3, 0, none⟩ = some (.iface tp p) := (World.var?_cell (by kernel_rfl) hv 0).trans rfl
  have HE := Lib.hid hE
  clear hg hv hE
  have hU : (undef : Value) = .tuple #[] := rfl
  have hdl := Lib.Hx.decode_len s.data.toList
  cases hr : (Lib.Hx.decode s.data.toList).2 with
  | ok =>
    obtain ⟨l, hl⟩ : ∃ l, (Lib.Hx.decode s.data.toList).1 = l := ⟨_, rfl⟩
    rw [hl] at hdl
    have HR := Lib.hid hr
    have HL := Lib.hid hl
    have HX : Hid (∀ x : List UInt8, s.data.toList = Lib.Hx.encode x → l = x) := fun x hx => by rw [← hl, hx, hx_decode]
    have HM : Hid (s.data.toList ≠ [45]) := fun e => by
      have h2 : (Lib.Hx.decode [45]).2 = .ok := by rw [← e]; exact hr
      rw [Lib.Hx.decode_one, if_pos (by decide)] at h2
      cases h2
    clear hr hl
    by_cases heq : bs (Lib.Hx.encode l) = s
    · have HQ := Lib.hid heq
      clear heq
      go_enter Tryz.func63, Tryz.ntmps63
      go_wp2_with fail
      refine (Tryz.hex_DecodeString_owns s _ _ HE.out (by omega)).mono ?_
      rintro e w1 ⟨v, rfl, hown, hb1⟩
      rw [HR.out, show Lib.Hx.errVal _ _ .ok = .nilIface from rfl]
      rw [HL.out] at hown
      obtain ⟨g, q, rfl⟩ := row_shape hown
      have hcv := conv_own 28 9 5 Tryz.underlying28 Tryz.underlying5 Tryz.underlying9 (Own.of_row hown)
      have HO := Lib.hid hown
      clear hown
      go_wp2_with fail
      refine (implHex_any (bs l) _ (by rw [bs_size]; omega)).mono ?_
      rintro e w2 ⟨rfl, hb2⟩
      rw [bs_data, HQ.out]
      have hcv2 := conv_own 28 9 5 Tryz.underlying28 Tryz.underlying5 Tryz.underlying9 ((Own.of_row HO.out).ext hb2)
      go_wp2_with fail
      refine bodyPost_ret (v := .tuple #[.string (bs l), .bool true]) (by simp [results, Tryz.results63, go_sem, bs, *]) rfl ?_
      refine ⟨bs l, true, rfl, ?_, by rw [bs_size]; omega, bxt⟩
      intro x hx
      unfold hexL at hx
      by_cases h0 : x = []
      · rw [if_pos h0] at hx; exact absurd hx HM.out
      · rw [if_neg h0] at hx; rw [HX.out x hx]
    · have HN : Hid (TxIs s.data.toList ⟨#[]⟩) := txIs_none (fun x _ hx => heq (by rw [HX.out x hx, ← hx, bs_of]))
      have hne2 : ((bs (Lib.Hx.encode l)).toList == s.toList) = false := str_ne heq
      clear heq
      go_enter Tryz.func63, Tryz.ntmps63
      go_wp2_with fail
      refine (Tryz.hex_DecodeString_owns s _ _ HE.out (by omega)).mono ?_
      rintro e w1 ⟨v, rfl, hown, hb1⟩
      rw [HR.out, show Lib.Hx.errVal _ _ .ok = .nilIface from rfl]
      rw [HL.out] at hown
      obtain ⟨g, q, rfl⟩ := row_shape hown
      have hcv := conv_own 28 9 5 Tryz.underlying28 Tryz.underlying5 Tryz.underlying9 (Own.of_row hown)
      clear hown
      go_wp2_with fail
      refine (implHex_any (bs l) _ (by rw [bs_size]; omega)).mono ?_
      rintro e w2 ⟨rfl, hb2⟩
      rw [bs_data]
      go_wp2_with fail
      refine bodyPost_ret (v := .tuple #[.string ⟨#[]⟩, .bool false]) (by simp [results, Tryz.results63, go_sem, *]) rfl ?_
      exact ⟨_, false, rfl, HN.out, Nat.zero_le _, bxt⟩
  | bad c =>
    have HR := Lib.hid hr
    have HN : Hid (TxIs s.data.toList ⟨#[]⟩) := txIs_none (fun x _ hx => by rw [hx, hx_decode] at hr; cases hr)
    clear hr
    go_enter Tryz.func63, Tryz.ntmps63
    go_wp2_with fail
    refine (Tryz.hex_DecodeString_owns s _ _ HE.out (by omega)).mono ?_
    rintro e w1 ⟨v, rfl, hown, hb1⟩
    rw [HR.out, show Lib.Hx.errVal _ _ (.bad c) = .iface _ (.int .u8 (c.toNat : Int)) from rfl]
    clear hown
    go_wp2_with fail
    refine bodyPost_ret (v := .tuple #[.string ⟨#[]⟩, .bool false]) (by simp [results, Tryz.results63, go_sem, *]) rfl ?_
    exact ⟨_, false, rfl, HN.out, Nat.zero_le _, bxt⟩
  | odd =>
    have HR := Lib.hid hr
    have HN : Hid (TxIs s.data.toList ⟨#[]⟩) := txIs_none (fun x _ hx => by rw [hx, hx_decode] at hr; cases hr)
    clear hr
    go_enter Tryz.func63, Tryz.ntmps63
    go_wp2_with fail
    refine (Tryz.hex_DecodeString_owns s _ _ HE.out (by omega)).mono ?_
    rintro e w1 ⟨v, rfl, hown, hb1⟩
    rw [HR.out, show Lib.Hx.errVal _ _ .odd = .iface tp p from rfl]
    clear hown
    go_wp2_with fail
    refine bodyPost_ret (v := .tuple #[.string ⟨#[]⟩, .bool false]) (by simp [results, Tryz.results63, go_sem, *]) rfl ?_
    exact ⟨_, false, rfl, HN.out, Nat.zero_le _, bxt⟩
/-- a hexadecimal digit's value, or -1 -/
def hf (x : Nat) : Int := if 48 ≤ x ∧ x ≤ 57 then (x : Int) - 48 else if 97 ≤ x ∧ x ≤ 102 then (x : Int) - 97 + 10 else -1
theorem hf_digit (d : Nat) (h : d < 16) : hf (Lib.Hx.digit d).toNat = d := by
  have : ∀ d : Fin 16, hf (Lib.Hx.digit d.val).toNat = d.val := by decide +kernel
  exact this ⟨d, h⟩
theorem hf_lt (x : Nat) : -1 ≤ hf x ∧ hf x ≤ 15 := by unfold hf; split <;> (try split) <;> omega
set_option maxHeartbeats 1000000 in
theorem l1Half_any (x : Nat) (w : World) (h : x < 256) :
    Calls Tryz.prog 95 #[.int .u8 x] w fun e w' => e = .returned (.int .i64 (hf x)) ∧ w' = w := by
  have hU : (undef : Value) = .tuple #[] := rfl
  have w1 : IntKind.i64.wrap (x : Int) = (x : Int) := IntWalk.i64_in _ (by omega)
  have w2 : IntKind.i64.wrap ((x : Int) - 48) = (x : Int) - 48 := IntWalk.i64_in _ (by omega)
  have w3 : IntKind.i64.wrap ((x : Int) - 97) = (x : Int) - 97 := IntWalk.i64_in _ (by omega)
  have w4 : IntKind.i64.wrap ((x : Int) - 97 + 10) = (x : Int) - 97 + 10 := IntWalk.i64_in _ (by omega)
  rcases (by omega : x < 48 ∨ (48 ≤ x ∧ x ≤ 57) ∨ (57 < x ∧ x < 97) ∨ (97 ≤ x ∧ x ≤ 102) ∨ 102 < x) with hc | hc | hc | hc | hc
  all_goals
    have HV : Hid (hf x = hf x) := rfl
    try have d1 : decide ((48 : Int) ≤ (x : Int)) = true := decide_eq_true (by omega)
    try have d1 : decide ((48 : Int) ≤ (x : Int)) = false := decide_eq_false (by omega)
    try have d2 : decide ((x : Int) ≤ 57) = true := decide_eq_true (by omega)
    try have d2 : decide ((x : Int) ≤ 57) = false := decide_eq_false (by omega)
    try have d3 : decide ((97 : Int) ≤ (x : Int)) = true := decide_eq_true (by omega)
    try have d3 : decide ((97 : Int) ≤ (x : Int)) = false := decide_eq_false (by omega)
    try have d4 : decide ((x : Int) ≤ 102) = true := decide_eq_true (by omega)
    try have d4 : decide ((x : Int) ≤ 102) = false := decide_eq_false (by omega)
    have HC := Lib.hid hc
    clear hc
    go_enter Tryz.func95, Tryz.ntmps95
    go_wp2_with fail
    go_ret
    have hc := HC.out
    refine ⟨?_, rfl⟩
    refine congrArg (fun z => Ending.returned (Value.int .i64 z)) ?_
    unfold hf
    first
      | (rw [if_pos (by omega)]; done)
      | (rw [if_neg (by omega), if_pos (by omega)]; done)
      | (rw [if_neg (by omega), if_neg (by omega)]; done)
      | (rw [if_pos (by omega)]; omega)
      | (rw [if_neg (by omega), if_pos (by omega)]; omega)
/-- the loop of Unhex: j pairs are read into out -/
def UnSt (s : List UInt8) (j : Nat) (out : List UInt8) : Prop := out.length = j ∧ ∀ x : List UInt8, s = Lib.Hx.encode x → x.take j = out
theorem UnSt.pair {s : List UInt8} {j : Nat} {out : List UInt8} (h : UnSt s j out) (hj : 2 * j + 1 < s.length) {x : List UInt8} (hx : s = Lib.Hx.encode x) : ∃ b : UInt8, x[j]? = some b ∧ hf (s[2 * j]'(by omega)).toNat = ((b.toNat / 16 : Nat) : Int) ∧ hf (s[2 * j + 1]'hj).toNat = ((b.toNat % 16 : Nat) : Int) := by
  have hl : s.length = 2 * x.length := by rw [hx, Lib.Hx.encode_length]
  have hjx : j < x.length := by omega
  have h8 : x[j].toNat < 256 := x[j].toNat_lt
  obtain ⟨e1, e2⟩ := Lib.Hx.encode_at x j x[j] (List.getElem?_eq_getElem hjx)
  rw [← hx, List.getElem?_eq_getElem (by omega)] at e1 e2
  injection e1 with e1
  injection e2 with e2
  exact ⟨x[j], List.getElem?_eq_getElem hjx, by rw [e1]; exact hf_digit _ (by omega), by rw [e2]; exact hf_digit _ (by omega)⟩
theorem UnSt.next {s : List UInt8} {j : Nat} {out : List UInt8} (h : UnSt s j out) (hj : 2 * j + 1 < s.length) {a b : Int} (ha : hf (s[2 * j]'(by omega)).toNat = a) (hb : hf (s[2 * j + 1]'hj).toNat = b) (c : UInt8) (hc : (c.toNat : Int) = 16 * a + b) : UnSt s (j + 1) (out ++ [c]) := by
  refine ⟨by simp [h.1], fun x hx => ?_⟩
  obtain ⟨y, hy, h1, h2⟩ := h.pair hj hx
  rw [List.take_add_one, hy, h.2 x hx]
  have : y = c := by
    apply UInt8.toNat_inj.1
    rw [ha] at h1; rw [hb] at h2
    omega
  rw [this]; rfl
def UnRel (s : ByteArray) (W : World) (B : Nat) (v4 v5 : Value) (wr : World) : Prop :=
  ∃ (j : Nat) (out : List UInt8) (g : Option Addr) (q : Nat), 2 * j ≤ s.size ∧ v5 = .int .i64 ((2 * j : Nat) : Int) ∧ v4 = .slice g j q ∧ Hid (UnSt s.data.toList j out) ∧ Hid (Own wr B 5 1 (.slice g j q) j (bv out)) ∧ Below B W wr
theorem info_u8x : (Tryz.prog.info? 5).map (fun i => (i.zero, i.size, i.bytes)) = some (some (.int .u8 0), 1, 1) := by kernel_rfl
set_option maxRecDepth 100000 in
set_option maxHeartbeats 4000000 in
theorem specUnhex_any (s : ByteArray) (w : World) (hs : s.size ≤ 1048576) :
    Calls Tryz.prog 55 #[.string s] w (TxPost s w) := by
  obtain ⟨i0, hi, hz0, hz1, hz2⟩ := info_parts info_u8x
  have hsz : s.data.toList.length = s.size := by simp
  have hU : (undef : Value) = .tuple #[] := rfl
  by_cases hodd : s.size % 2 = 1
  · have d1 : ((s.size : Int) % 2 == 1) = true := by rw [beq_iff_eq]; omega
    have HN : Hid (TxIs s.data.toList ⟨#[]⟩) := txIs_none (fun x _ hx => by (have h := Lib.Hx.encode_length x; rw [← hx, hsz] at h; omega))
    clear hodd
    go_enter Tryz.func55, Tryz.ntmps55
    go_wp2_with fail
    refine bodyPost_ret (v := .tuple #[.string ⟨#[]⟩, .bool false]) (by simp [results, Tryz.results55, go_sem, *]) rfl ?_
    exact ⟨_, false, rfl, HN.out, Nat.zero_le _, bxt⟩
  have d1 : ((s.size : Int) % 2 == 1) = false := by rw [beq_eq_false_iff_ne]; omega
  have HEV : Hid (s.size % 2 = 0) := by unfold Hid; omega
  clear hodd
  go_enter Tryz.func55, Tryz.ntmps55
  go_wp2_with fail
  go_loopw [4, 5, 6, 7] (fun v4 v5 _ _ wr => UnRel s w w.heap.size v4 v5 wr) (fun _ i _ _ _ => s.size - (intOf i).toNat)
  case atStart => exact ⟨0, [], some ⟨w.heap.size, 0, none⟩, 0, Nat.zero_le _, rfl, rfl, Lib.hid ⟨rfl, fun x _ => rfl⟩, Own.none0 _, bxt⟩
  case round =>
    obtain ⟨j, out, g, q, hj, rfl, rfl, HS, HO, hb⟩ := hrel
    have hbs := hb.size
    obtain ⟨k, hk2⟩ : ∃ k, 2 * j = k := ⟨_, rfl⟩
    rw [hk2]
    by_cases hlt : k < s.size
    · have hkk : k + 1 < s.size := by (have := HEV.out; omega)
      have k1 : (k : Int) < (s.size : Int) := by omega
      have k2 : (k : Int) + 1 < (s.size : Int) := by omega
      have k3 : (0 : Int) ≤ (k : Int) := by omega
      have k4 : (0 : Int) ≤ (k : Int) + 1 := by omega
      have k5 : decide ((k : Int) < (s.size : Int)) = true := decide_eq_true k1
      have w1 : IntKind.i64.wrap ((k : Int) + 1) = (k : Int) + 1 := IntWalk.i64_in _ (by omega)
      have e1 : (s.data.toList[2 * j]'(by omega)) = s[k] := by subst hk2; simp; rfl
      have e2 : (s.data.toList[2 * j + 1]'(by omega)) = s[k + 1] := by subst hk2; simp; rfl
      have hp := fun (x : List UInt8) (hx : s.data.toList = Lib.Hx.encode x) => HS.out.pair (by omega) hx
      have hnx := fun (a b : Int) (ha : hf (s.data.toList[2 * j]'(by omega)).toNat = a) (hb : hf (s.data.toList[2 * j + 1]'(by omega)).toNat = b) => HS.out.next (by omega) ha hb
      simp only [e1, e2] at hp hnx
      obtain ⟨x0, hx0⟩ : ∃ x : Nat, s[k].toNat = x := ⟨_, rfl⟩
      obtain ⟨x1, hx1⟩ : ∃ x : Nat, s[k + 1].toNat = x := ⟨_, rfl⟩
      have h0 : x0 < 256 := by rw [← hx0]; exact s[k].toNat_lt
      have h1 : x1 < 256 := by rw [← hx1]; exact s[k + 1].toNat_lt
      rw [hx0, hx1] at hnx
      simp only [hx0, hx1] at hp
      obtain ⟨a, ha⟩ : ∃ a, hf x0 = a := ⟨_, rfl⟩
      obtain ⟨b, hb'⟩ : ∃ b, hf x1 = b := ⟨_, rfl⟩
      have ha2 := hf_lt x0
      have hb2 := hf_lt x1
      rw [ha] at ha2
      rw [hb'] at hb2
      simp only [ha, hb'] at hp
      have HP := Lib.hid hp
      have HNX := Lib.hid (hnx a b ha hb')
      have HA := Lib.hid ha
      have HBB := Lib.hid hb'
      clear hp hnx e1 e2 ha hb'
      go_wp2_with fail
      refine (l1Half_any x0 _ h0).mono ?_
      rintro e w2 ⟨rfl, rfl⟩
      rw [HA.out]
      go_wp2_with fail
      refine (l1Half_any x1 _ h1).mono ?_
      rintro e w2 ⟨rfl, rfl⟩
      rw [HBB.out]
      by_cases hbad : a < 0 ∨ b < 0
      · have HN : Hid (TxIs s.data.toList ⟨#[]⟩) := txIs_none (fun x _ hx => by
          obtain ⟨y, _, h1, h2⟩ := HP.out x hx
          omega)
        rcases hbad with hbad | hbad
        · have da : decide (a < 0) = true := decide_eq_true hbad
          clear hbad
          go_wp2_with fail
          refine bodyPost_ret (v := .tuple #[.string ⟨#[]⟩, .bool false]) (by simp [results, Tryz.results55, go_sem, *]) rfl ?_
          exact ⟨_, false, rfl, HN.out, Nat.zero_le _, hb⟩
        · have db : decide (b < 0) = true := decide_eq_true hbad
          clear hbad
          rcases Int.lt_or_le a 0 with ha0 | ha0
          · have da : decide (a < 0) = true := decide_eq_true ha0
            clear ha0
            go_wp2_with fail
            refine bodyPost_ret (v := .tuple #[.string ⟨#[]⟩, .bool false]) (by simp [results, Tryz.results55, go_sem, *]) rfl ?_
            exact ⟨_, false, rfl, HN.out, Nat.zero_le _, hb⟩
          · have da : decide (a < 0) = false := decide_eq_false (by omega)
            clear ha0
            go_wp2_with fail
            refine bodyPost_ret (v := .tuple #[.string ⟨#[]⟩, .bool false]) (by simp [results, Tryz.results55, go_sem, *]) rfl ?_
            exact ⟨_, false, rfl, HN.out, Nat.zero_le _, hb⟩
      · have da : decide (a < 0) = false := decide_eq_false (by omega)
        have db : decide (b < 0) = false := decide_eq_false (by omega)
        have m1 : IntKind.i64.wrap (16 * a) = 16 * a := IntWalk.i64_in _ (by omega)
        have m2 : IntKind.i64.wrap (16 * a + b) = 16 * a + b := IntWalk.i64_in _ (by omega)
        have m3 : IntKind.u8.wrap (16 * a + b) = 16 * a + b := IntWalk.u8_in _ (by omega)
        have hc : ((UInt8.ofNat (16 * a + b).toNat).toNat : Int) = 16 * a + b := by rw [UInt8.toNat_ofNat']; omega
        have HN1 := Lib.hid (HNX.out (UInt8.ofNat (16 * a + b).toNat) hc)
        have HCC := Lib.hid hc
        have m5 : IntKind.i64.wrap ((k : Int) + 2) = (k : Int) + 2 := IntWalk.i64_in _ (by omega)
        clear hbad hc
        go_wp2_with ((at_builtin; refine wpList_appL (B := w.heap.size) (v := .slice g j q) rfl _ _ 28 rfl 5 i0 _ _ Tryz.underlying28 hi hz0 hz1 hz2 rfl (by decide) rfl (HO.out.ext bxt) (some ⟨w2.heap.size, 0, none⟩) 1 1 [.int .u8 (16 * a + b)] rfl (Rd.lit _ _ _ _ 1 _ rfl rfl (by omega)) (by simp [Value.oneCell']) (by omega) (by omega) (by simp; omega) ?_))
        intro g2 q2' w4 hown hg hwl
        have hb4 : Below w.heap.size w w4 := Below.grown (Below.ext hb (show Ext w2 _ from bxt)) hg (by simp; omega) (fun x hx => (HO.out.lt x hx).1)
        have HO2 : Hid (Own w4 w.heap.size 5 1 (.slice g2 (j + 1) q2') (j + 1) (bv (out ++ [UInt8.ofNat (16 * a + b).toNat]))) := by
          unfold Hid
          rw [bv_app, show bv [UInt8.ofNat (16 * a + b).toNat] = [.int .u8 (16 * a + b)] by (show [Value.int .u8 _] = _; rw [HCC.out])]
          exact hown
        have HKK : Hid (((k : Int) + 2) = ((2 * (j + 1) : Nat) : Int)) := by unfold Hid; omega
        have hfin : 2 * (j + 1) ≤ s.size := by omega
        have HRR : Hid (UnRel s w w.heap.size (.slice g2 (j + 1) q2') (.int .i64 ((k : Int) + 2)) w4) := by
          unfold Hid
          rw [HKK.out]
          exact ⟨j + 1, _, g2, q2', hfin, rfl, rfl, HN1, HO2, hb4⟩
        clear hown hg hwl
        go_wp2_with fail
        refine ⟨?_, ?measure⟩
        iterate 60 (try apply Exists.intro)
        refine ⟨?rel, rfl⟩
        case rel => exact HRR.out
        case measure => simp [intOf]; omega
    · have k5 : decide ((k : Int) < (s.size : Int)) = false := decide_eq_false (by omega)
      have hcv := conv_own 28 9 5 Tryz.underlying28 Tryz.underlying5 Tryz.underlying9 HO.out
      have HT : Hid (TxIs s.data.toList (bs out)) := by
        intro x hx
        by_cases h0 : x = []
        · subst h0
          have h2 : s.data.toList = [45] := hx
          have h3 := HEV.out
          rw [← hsz, h2] at h3
          simp at h3
        · unfold hexL at hx
          rw [if_neg h0] at hx
          have h3 := HS.out.2 x hx
          have h4 : s.data.toList.length = 2 * x.length := by rw [hx, Lib.Hx.encode_length]
          rw [← h3, List.take_of_length_le (by omega)]
      have HZ : Hid ((bs out).size ≤ s.size) := by unfold Hid; rw [bs_size, HS.out.1]; omega
      go_wp2_with fail
      refine bodyPost_ret (v := .tuple #[.string (bs out), .bool true]) (by simp [results, Tryz.results55, go_sem, bs, *]) rfl ?_
      exact ⟨_, true, rfl, HT.out, HZ.out, hb⟩
end Go.Proofs.YtidfhkdonhjgaaaGreatDoor
