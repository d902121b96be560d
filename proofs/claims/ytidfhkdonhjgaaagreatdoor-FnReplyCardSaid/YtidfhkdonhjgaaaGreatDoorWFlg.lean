/-
  The text of flags: the program's FlagsText (strings.Join) and the reference's.
-/
import Derived.Test.YtidfhkdonhjgaaaGreatDoorWTxtP
import Derived.Test.YtidfhkdonhjgaaaGreatDoorWStr
import Derived.Test.YtidfhkdonhjgaaaGreatDoorShf
import Derived.Test.YtidfhkdonhjgaaaGreatDoorCSmall
import Derived.Test.YtidfhkdonhjgaaaGreatDoorWLines
namespace Go.Proofs.YtidfhkdonhjgaaaGreatDoor
open Go.RowKit
set_option linter.unusedVariables false
set_option linter.unusedSimpArgs false

/-- the flags' names, one by one -/
def fnm : Nat → List UInt8
  | 0 => [115, 101, 101, 110]
  | 1 => [97, 110, 115, 119, 101, 114, 101, 100]
  | 2 => [102, 108, 97, 103, 103, 101, 100]
  | 3 => [100, 101, 108, 101, 116, 101, 100]
  | _ => [100, 114, 97, 102, 116]
def fnms : List ByteArray := [bs (fnm 0), bs (fnm 1), bs (fnm 2), bs (fnm 3), bs (fnm 4)]
/-- the names of the first k flags that are set -/
def flK (f : Nat) : Nat → List ByteArray
  | 0 => []
  | k + 1 => flK f k ++ (if f / 2 ^ k % 2 = 1 then [bs (fnm k)] else [])
theorem flK_len (f : Nat) : ∀ k, (flK f k).length ≤ k
  | 0 => by simp [flK]
  | k + 1 => by
    have := flK_len f k
    unfold flK
    rw [List.length_append]
    split <;> simp <;> omega
theorem flK_names (f : Nat) : (flK f 5).map (fun s => s.data.toList) = flNames f := by
  unfold flNames
  simp only [flK, List.map_append, List.nil_append]
  have e : ∀ (p : Prop) [Decidable p] (l : List UInt8), (if p then [bs l] else []).map (fun s : ByteArray => s.data.toList) = if p then [l] else [] := by
    intro p _ l; split <;> simp [bs]
  simp only [e]
  rfl
theorem bit_one (f k : Nat) (hf : f ≤ 31) (r : Bool) (hr : r = decide (f / 2 ^ k % 2 = 1)) : (bits BinOp.and IntKind.i64 ((f : Int) / 2 ^ k) 1 == 1) = r := by
  have h1 : ∀ x : Fin 32, bits BinOp.and IntKind.i64 (x.val : Int) 1 = ((x.val % 2 : Nat) : Int) := by decide +kernel
  have h2 : f / 2 ^ k ≤ 31 := Nat.le_trans (Nat.div_le_self _ _) hf
  have h4 : ((f / 2 ^ k : Nat) : Int) = (f : Int) / 2 ^ k := by simp
  rw [← h4, hr]
  generalize f / 2 ^ k = x at h2 ⊢
  rw [h1 ⟨x, by omega⟩]
  rcases Nat.mod_two_eq_zero_or_one x with h | h <;> rw [h] <;> rfl
set_option maxHeartbeats 1000000 in
theorem implJoined_any (xs : List ByteArray) (sep : ByteArray) (a : Option Addr) (c : Nat) (w : World) (R : Rd w a c 1 xs.length (xs.flatMap strCells)) (hl : (Lib.join (xs.map (·.data.toList)) sep.data.toList).length ≤ 1048576) (hn : xs.length ≤ 1048576) :
    Calls Tryz.prog 71 #[.slice a xs.length c, .string sep] w fun e w' => e = .returned (.string (bs (Lib.join (xs.map (·.data.toList)) sep.data.toList))) ∧ Ext w w' := by
  cases xs with
  | nil =>
    go_enter Tryz.func71, Tryz.ntmps71
    go_wp2_with fail
    refine (Tryz.strings_Join_none _ _ _ _).mono ?_
    rintro e w1 ⟨rfl, rfl⟩
    go_wp2_with fail
    go_ret
    exact ⟨rfl, bxt⟩
  | cons x r =>
    obtain ⟨b, o, rfl, hb, hat⟩ := R.ptr (by simp)
    obtain ⟨xs, hxs⟩ : ∃ xs, x :: r = xs := ⟨_, rfl⟩
    rw [hxs] at hl hat hn R ⊢
    have hj := R.nc
    have hc : ∀ (j : Nat) y, xs[j]? = some y → w.cell? ⟨b, o + j, none⟩ = some (.string y) := fun j y hy => by
      obtain ⟨hj, rfl⟩ := List.getElem?_eq_some_iff.1 hy
      exact strCells_at hat j hj
    have HC := Lib.hid hc
    have HL := Lib.hid hl
    clear hc hat hl hxs
    go_enter Tryz.func71, Tryz.ntmps71
    go_wp2_with fail
    refine (Tryz.strings_Join b o c xs sep _ HC.out hb (by omega) (by omega) (by have := HL.out; omega)).mono ?_
    rintro e w1 ⟨rfl, hb1⟩
    go_wp2_with fail
    go_ret
    exact ⟨rfl, hb1⟩
def NmRel (f : Nat) (W : World) (B : Nat) (v5 v11 : Value) (wr : World) : Prop :=
  ∃ (k : Nat) (g : Option Addr) (q : Nat), k ≤ 5 ∧ v11 = .int .i64 k ∧ v5 = .slice g (flK f k).length q ∧ Hid (Own wr B 9 1 (.slice g (flK f k).length q) (flK f k).length ((flK f k).flatMap strCells)) ∧ Below B W wr
set_option maxRecDepth 100000 in
set_option maxHeartbeats 4000000 in
theorem namesOf_any (f : Nat) (hf : f ≤ 31) (a : Option Addr) (c : Nat) (w : World) (R : Rd w a c 1 5 (fnms.flatMap strCells)) :
    Calls Tryz.prog 72 #[.slice a 5 c, .int .i64 f] w fun e w' => ∃ g q, e = .returned (.slice g (flK f 5).length q) ∧ Own w' w.heap.size 9 1 (.slice g (flK f 5).length q) (flK f 5).length ((flK f 5).flatMap strCells) ∧ Ext w w' := by
  obtain ⟨i0, hi, hz0, hz1, hz2⟩ := info_parts info_strL
  obtain ⟨b, o, rfl, hb0, hat⟩ := R.ptr (by simp)
  have HAT := Lib.hid hat
  clear hat
  go_enter Tryz.func72, Tryz.ntmps72
  go_wp2_with fail
  go_loopw [5, 6, 7, 11] (fun v5 _ _ v11 wr => NmRel f w w.heap.size v5 v11 wr) (fun _ _ _ i _ => 5 - (intOf i).toNat)
  case atStart => exact ⟨0, some ⟨w.heap.size, 0, none⟩, 0, Nat.zero_le _, rfl, rfl, Own.none0 _, bxt⟩
  case round =>
    obtain ⟨k, g, q, hk, rfl, rfl, HO, hb⟩ := hrel
    have hkl := flK_len f k
    have hbs := hb.size
    by_cases hlt : k < 5
    · have k1 : (k : Int) < 5 := by omega
      have k3 : (0 : Int) ≤ (k : Int) := by omega
      have k5 : decide ((k : Int) < 5) = true := decide_eq_true k1
      have hc1 : wr.cell? ⟨b, o + k, none⟩ = some (.string (bs (fnm k))) := by
        have h := strCells_at HAT.out k (by simpa [fnms] using hlt)
        rw [hb.cell (p := ⟨b, o + k, none⟩) hb0, h]
        have : k = 0 ∨ k = 1 ∨ k = 2 ∨ k = 3 ∨ k = 4 := by omega
        rcases this with rfl | rfl | rfl | rfl | rfl <;> rfl
      have HNX : Hid (flK f (k + 1) = flK f k ++ (if f / 2 ^ k % 2 = 1 then [bs (fnm k)] else [])) := rfl
      by_cases hbit : f / 2 ^ k % 2 = 1
      · have hbt := bit_one f k hf true (by simp [hbit])
        have HNX : Hid (flK f (k + 1) = flK f k ++ [bs (fnm k)]) := by have h := HNX.out; rw [if_pos hbit] at h; exact h
        have HBT := Lib.hid hbit
        clear hbit
        go_wp2_with ((at_builtin; refine wpList_appL (B := w.heap.size) (v := .slice g (flK f k).length q) rfl _ _ 45 rfl 9 i0 _ _ Tryz.underlying45 hi hz0 hz1 hz2 rfl (by decide) rfl (HO.out.ext bxt) (some ⟨wr.heap.size, 0, none⟩) 1 1 (strCells (bs (fnm k))) rfl (Rd.lit _ _ _ _ 1 _ rfl rfl (by omega)) (by simp [strCells, Value.oneCell']) (by omega) (by omega) (by have := hb.size; simp; omega) ?_))
        intro g2 q2 w2 hown hg hwl
        have hb2 : Below w.heap.size w w2 := Below.grown (Below.ext hb (show Ext wr _ from bxt)) hg (by have := hb.size; simp; omega) (fun x hx => (HO.out.lt x hx).1)
        have HO2 : Hid (Own w2 w.heap.size 9 1 (.slice g2 (flK f (k + 1)).length q2) (flK f (k + 1)).length ((flK f (k + 1)).flatMap strCells)) := by
          unfold Hid
          rw [HNX.out]
          simpa using hown
        have HV : Hid ((Value.slice g2 ((flK f k).length + 1) q2) = .slice g2 (flK f (k + 1)).length q2) := by unfold Hid; rw [HNX.out]; simp
        clear hown hg hwl
        go_wp2_with fail
        go_roundw
        case rel => exact ⟨k + 1, g2, q2, by omega, by go_num, HV.out, HO2, hb2⟩
        case measure => simp [intOf]; omega
      · have hbt := bit_one f k hf false (by simp; omega)
        have HNX : Hid (flK f (k + 1) = flK f k) := by have h := HNX.out; rw [if_neg hbit, List.append_nil] at h; exact h
        clear hbit
        have HN : Hid (NmRel f w w.heap.size (.slice g (flK f k).length q) (.int .i64 ((k : Int) + 1)) wr) := ⟨k + 1, g, q, by omega, by go_num, by rw [HNX.out], by rw [HNX.out]; exact HO, hb⟩
        go_wp2_with fail
        go_roundw
        case rel => exact HN.out
        case measure => simp [intOf]; omega
    · have k5 : decide ((k : Int) < 5) = false := decide_eq_false (by omega)
      obtain rfl : k = 5 := by omega
      go_wp2_with fail
      go_ret
      exact ⟨g, q, rfl, HO.out, hb⟩
set_option maxRecDepth 100000 in
theorem flagWords_any (w : World) :
    Calls Tryz.prog 73 #[] w fun e w' => ∃ g q, e = .returned (.slice g 5 q) ∧ Rd w' g q 1 5 (fnms.flatMap strCells) ∧ Ext w w' := by
  go_enter Tryz.func73, Tryz.ntmps73
  go_wp2_with fail
  go_ret
  exact ⟨some ⟨w.heap.size, 0, none⟩, 5, rfl, Rd.lit _ _ _ 5 1 _ rfl rfl (by omega), bxt⟩
def flB (f : Int) : ByteArray := bs (flText f.toNat)
theorem flText_K (f : Nat) : Lib.join ((flK f 5).map (·.data.toList)) [32] = flText f := by unfold flText; rw [← flK_names]
set_option maxRecDepth 100000 in
set_option maxHeartbeats 1000000 in
theorem implFlagsText_any (f : Int) (w : World) (h0 : 0 ≤ f) (h1 : f ≤ 31) :
    Calls Tryz.prog 32 #[.int .i64 f] w fun e w' => e = .returned (.string (bs (flText f.toNat))) ∧ Ext w w' := by
  obtain ⟨n, rfl⟩ : ∃ n : Nat, f = n := ⟨f.toNat, by omega⟩
  have hn : n ≤ 31 := by omega
  have hk := flK_len n 5
  have ht := flText_K n
  have hl := flText_len n hn
  have HT := Lib.hid ht
  have HL := Lib.hid hl
  clear ht hl
  go_enter Tryz.func32, Tryz.ntmps32
  go_wp2_with fail
  refine (flagsOk_any _ _ true (Lib.hid ⟨fun _ => ⟨h0, h1⟩, fun _ => rfl⟩)).mono ?_
  rintro e w1 ⟨rfl, rfl⟩
  go_wp2_with fail
  refine (flagWords_any _).mono ?_
  rintro e w2 ⟨g, q, rfl, hr2, hb2⟩
  go_wp2_with fail
  refine (namesOf_any n hn g q _ hr2).mono ?_
  rintro e w3 ⟨g3, q3, rfl, ho3, hb3⟩
  have H3 := Lib.hid ho3
  clear ho3 hr2
  go_wp2_with fail
  refine (implJoined_any (flK n 5) ⟨#[32]⟩ g3 q3 _ (Rd.of_Own H3.out) (by have h := HL.out; rw [← HT.out] at h; show (Lib.join _ [32]).length ≤ _; omega) (by omega)).mono ?_
  rintro e w4 ⟨rfl, hb4⟩
  go_wp2_with fail
  go_ret
  refine ⟨?_, bxt⟩
  have h := HT.out
  rw [h]
  rfl
theorem info_u8j : (Tryz.prog.info? 5).map (fun i => (i.zero, i.size, i.bytes)) = some (some (.int .u8 0), 1, 1) := by kernel_rfl
/-- what is joined of the first k -/
def jnK (xs : List (List UInt8)) (sep : List UInt8) (k : Nat) : List UInt8 := Lib.join (xs.take k) sep
theorem jnK_next (xs : List (List UInt8)) (sep : List UInt8) (k : Nat) (hk : k < xs.length) : jnK xs sep (k + 1) = jnK xs sep k ++ (if 0 < k then sep else []) ++ xs[k] := by
  unfold jnK
  cases k with
  | zero =>
    cases xs with
    | nil => simp at hk
    | cons x r => simp [Lib.join_one, Lib.join_nil]
  | succ k =>
    cases xs with
    | nil => simp at hk
    | cons x r =>
      have hk' : k < r.length := by simpa using hk
      rw [List.take_succ_cons, List.take_succ_cons, Lib.join_cons, Lib.join_cons, Lib.joinTail_take_succ sep r k r[k] (List.getElem?_eq_getElem hk')]
      simp
theorem jnK_le (xs : List (List UInt8)) (sep : List UInt8) (k : Nat) : (jnK xs sep k).length ≤ (Lib.join xs sep).length := by
  unfold jnK
  cases xs with
  | nil => simp
  | cons x r =>
    cases k with
    | zero => simp [Lib.join_nil]
    | succ k =>
      rw [List.take_succ_cons, Lib.join_cons, Lib.join_cons, List.length_append, List.length_append]
      have := Lib.joinTail_take_le sep r k
      omega
def JnRel (xs : List ByteArray) (sep : ByteArray) (W : World) (B : Nat) (v5 v6 : Value) (wr : World) : Prop :=
  ∃ (k n : Nat) (g : Option Addr) (q : Nat), k ≤ xs.length ∧ v6 = .int .i64 k ∧ v5 = .slice g n q ∧ Hid ((jnK (xs.map (·.data.toList)) sep.data.toList k).length = n) ∧ Hid (wr.ownsRow B 5 1 (.slice g n q) n (bv (jnK (xs.map (·.data.toList)) sep.data.toList k))) ∧ Below B W wr
theorem row_shape {w : World} {B E s n : Nat} {v : Value} {xs : List Value} (h : w.ownsRow B E s v n xs) : ∃ g q, v = .slice g n q := by
  rcases h.2 with ⟨rfl, h0⟩ | ⟨g, c, cur, rfl, _⟩
  · exact ⟨none, 0, by rw [h0]⟩
  · exact ⟨_, _, rfl⟩
set_option maxRecDepth 100000 in
set_option maxHeartbeats 4000000 in
theorem specJoined_any (xs : List ByteArray) (sep : ByteArray) (a : Option Addr) (c : Nat) (w : World) (R : Rd w a c 1 xs.length (xs.flatMap strCells)) (hl : (Lib.join (xs.map (·.data.toList)) sep.data.toList).length ≤ 1048576) (hn : xs.length ≤ 1048576) :
    Calls Tryz.prog 83 #[.slice a xs.length c, .string sep] w fun e w' => e = .returned (.string (bs (Lib.join (xs.map (·.data.toList)) sep.data.toList))) ∧ Ext w w' := by
  obtain ⟨i0, hi, hz0, hz1, hz2⟩ := info_parts info_u8j
  obtain ⟨J, hJ⟩ : ∃ J, J = Lib.join (xs.map (·.data.toList)) sep.data.toList := ⟨_, rfl⟩
  rw [← hJ] at hl ⊢
  have HJ := Lib.hid hJ
  clear hJ
  go_enter Tryz.func83, Tryz.ntmps83
  go_wp2_with fail
  go_loopw [5, 6] (JnRel xs sep w w.heap.size) (fun _ i _ => xs.length - (intOf i).toNat)
  case atStart => exact ⟨0, 0, some ⟨w.heap.size, 0, none⟩, 0, Nat.zero_le _, rfl, rfl, rfl, World.ownsRow_lit w #[] 0 (Nat.le_refl _) (Nat.zero_le _) (by simp [bv, jnK, Lib.join_nil]), bxt⟩
  case round =>
    obtain ⟨k, n, g, q, hk, rfl, rfl, HL, HO, hb⟩ := hrel
    have hbs := hb.size
    have hle : Hid (∀ k, (jnK (xs.map (·.data.toList)) sep.data.toList k).length ≤ 1048576) := fun k => by
      have := jnK_le (xs.map (·.data.toList)) sep.data.toList k
      rw [← HJ.out] at this
      omega
    by_cases hlt : k < xs.length
    · have k1 : (k : Int) < (xs.length : Int) := by omega
      have k3 : (0 : Int) ≤ (k : Int) := by omega
      have k5 : decide ((k : Int) < (xs.length : Int)) = true := decide_eq_true k1
      obtain ⟨b, o, rfl, hb0, hat⟩ := R.ptr (by omega)
      have hc1 : wr.cell? ⟨b, o + k, none⟩ = some (.string xs[k]) := by
        have h := strCells_at hat k hlt
        rw [hb.cell (p := ⟨b, o + k, none⟩) hb0, h]
      have hnx := jnK_next (xs.map (·.data.toList)) sep.data.toList k (by simpa using hlt)
      simp only [List.getElem_map] at hnx
      have HNX := Lib.hid hnx
      obtain ⟨x, hx⟩ : ∃ x, xs[k] = x := ⟨_, rfl⟩
      rw [hx] at hc1
      have hxl : (jnK (xs.map (·.data.toList)) sep.data.toList (k + 1)).length = n + (if 0 < k then sep.data.toList else []).length + x.size := by
        rw [hnx, List.length_append, List.length_append, HL.out, hx]; simp
      have HXL := Lib.hid hxl
      have hl1 := hle.out (k + 1)
      rw [hxl] at hl1
      have HX := Lib.hid hx
      clear hat hnx hxl hx
      by_cases hk0 : k = 0
      · subst hk0
        simp only [Nat.add_zero] at hc1
        simp at hl1
        go_wp2_with ((at_builtin; refine Lib.wpList_append_own_string _ rfl _ _ 28 9 rfl w.heap.size 5 i0 Tryz.underlying28 Tryz.underlying9 hi hz0 hz1 hz2 (.slice g n q) n _ rfl HO.out x rfl (by unfold maxLen; omega) (by omega) (by omega) ?_))
        intro v2 w2 hown hg hnil
        obtain ⟨g2, q2, rfl⟩ := row_shape hown
        have hb2 : Below w.heap.size w w2 := below_app hb HO.out (Nat.le_refl _) hbs hg
        have HN : Hid (JnRel xs sep w w.heap.size (.slice g2 (n + x.size) q2) (.int .i64 ((0 : Nat) + 1 : Nat)) w2) := by
          refine ⟨1, n + x.size, g2, q2, by omega, by simp, rfl, ?_, ?_, hb2⟩
          · have h := HXL.out; unfold Hid; simpa using h
          · unfold Hid; rw [HNX.out, HX.out]
            simp only [Nat.lt_irrefl, if_false, List.append_nil]
            rw [bv_app, ← str_bv]; exact hown
        clear hown hg hnil
        go_wp2_with fail
        go_roundw
        case rel => simpa using HN.out
        case measure => simp [intOf]; omega
      · have hkp : 0 < k := by omega
        have d0 : decide ((0 : Int) < (k : Int)) = true := decide_eq_true (by omega)
        rw [if_pos hkp] at hl1
        simp at hl1
        go_wp2_with ((at_builtin; refine Lib.wpList_append_own_string _ rfl _ _ 28 9 rfl w.heap.size 5 i0 Tryz.underlying28 Tryz.underlying9 hi hz0 hz1 hz2 (.slice g n q) n _ rfl HO.out sep rfl (by unfold maxLen; omega) (by omega) (by omega) ?_))
        intro v2 w2 hown hg hnil
        obtain ⟨g2, q2, rfl⟩ := row_shape hown
        have hb2 : Below w.heap.size w w2 := below_app hb HO.out (Nat.le_refl _) hbs hg
        have hbs2 := hb2.size
        have hc2 : w2.cell? ⟨b, o + k, none⟩ = some (.string x) := by
          rw [← hc1]
          exact (grown_off hg).1 b (o + k) (by omega) (fun e => by have := (HO.out.lt b e).1; omega)
        have HO2 := Lib.hid hown
        clear hown hg hnil
        go_wp2_with ((at_builtin; refine Lib.wpList_append_own_string _ rfl _ _ 28 9 rfl w.heap.size 5 i0 Tryz.underlying28 Tryz.underlying9 hi hz0 hz1 hz2 (.slice g2 (n + sep.size) q2) (n + sep.size) _ rfl HO2.out x rfl (by unfold maxLen; omega) (by omega) (by omega) ?_))
        intro v3 w3 hown hg hnil
        obtain ⟨g3, q3, rfl⟩ := row_shape hown
        have hb3 : Below w.heap.size w w3 := below_app hb2 HO2.out (Nat.le_refl _) hbs2 hg
        have HN : Hid (JnRel xs sep w w.heap.size (.slice g3 (n + sep.size + x.size) q3) (.int .i64 ((k : Int) + 1)) w3) := by
          refine ⟨k + 1, n + sep.size + x.size, g3, q3, by omega, by simp, rfl, ?_, ?_, hb3⟩
          · have h := HXL.out; rw [if_pos hkp] at h; unfold Hid; simpa using h
          · unfold Hid; rw [HNX.out, HX.out, if_pos hkp]
            rw [bv_app, bv_app, ← str_bv, ← str_bv]; simpa only [List.append_assoc] using hown
        clear hown hg hnil
        go_wp2_with fail
        go_roundw
        case rel => simpa using HN.out
        case measure => simp [intOf]; omega
    · have k5 : decide ((k : Int) < (xs.length : Int)) = false := decide_eq_false (by omega)
      obtain rfl : k = xs.length := by omega
      have hj : jnK (xs.map (·.data.toList)) sep.data.toList xs.length = J := by
        unfold jnK; rw [List.take_of_length_le (by simp), HJ.out]
      have hO := HO.out
      rw [hj] at hO
      have hcv := conv_own 28 9 5 Tryz.underlying28 Tryz.underlying5 Tryz.underlying9 (Own.of_row hO)
      clear hO
      go_wp2_with fail
      go_ret
      exact ⟨rfl, hb⟩
set_option maxRecDepth 100000 in
theorem l5Words_any (w : World) :
    Calls Tryz.prog 82 #[] w fun e w' => e = .returned (.slice (some ⟨w.heap.size, 0, none⟩) 5 5) ∧ At w' w.heap.size 0 (fnms.flatMap strCells) ∧ w.heap.size < w'.heap.size ∧ Ext w w' := by
  go_enter Tryz.func82, Tryz.ntmps82
  go_wp2_with fail
  go_ret
  exact ⟨rfl, at_alloc rfl rfl, by simp, bxt⟩
def FlRel (f : Nat) (W : World) (B : Nat) (v3 v4 : Value) (wr : World) : Prop :=
  ∃ (k : Nat) (g : Option Addr) (q : Nat), k ≤ 5 ∧ v4 = .int .i64 k ∧ v3 = .slice g (flK f k).length q ∧ Hid (Own wr B 9 1 (.slice g (flK f k).length q) (flK f k).length ((flK f k).flatMap strCells)) ∧ Below B W wr
set_option maxRecDepth 100000 in
set_option maxHeartbeats 4000000 in
theorem specFlagsText_any (f : Int) (w : World) (h0 : 0 ≤ f) (h1 : f ≤ 31) :
    Calls Tryz.prog 36 #[.int .i64 f] w fun e w' => e = .returned (.string (bs (flText f.toNat))) ∧ Ext w w' := by
  obtain ⟨i0, hi, hz0, hz1, hz2⟩ := info_parts info_strL
  obtain ⟨n, rfl⟩ : ∃ n : Nat, f = n := ⟨f.toNat, by omega⟩
  have hf : n ≤ 31 := by omega
  have ht : Lib.join ((flK n 5).map (·.data.toList)) [32] = flText n := by unfold flText; rw [← flK_names]
  have hl := flText_len n hf
  have HT := Lib.hid ht
  have HL := Lib.hid hl
  clear ht hl
  go_enter Tryz.func36, Tryz.ntmps36
  go_wp2_with fail
  go_loopw [3, 4] (FlRel n w w.heap.size) (fun _ i _ => 5 - (intOf i).toNat)
  case atStart => exact ⟨0, some ⟨w.heap.size, 0, none⟩, 0, Nat.zero_le _, rfl, rfl, Own.none0 _, bxt⟩
  case round =>
    obtain ⟨k, g, q, hk, rfl, rfl, HO, hb⟩ := hrel
    have hkl := flK_len n k
    have hbs := hb.size
    by_cases hlt : k < 5
    · have k1 : (k : Int) < 5 := by omega
      have k3 : (0 : Int) ≤ (k : Int) := by omega
      have k5 : decide ((k : Int) < 5) = true := decide_eq_true k1
      have HNX : Hid (flK n (k + 1) = flK n k ++ (if n / 2 ^ k % 2 = 1 then [bs (fnm k)] else [])) := rfl
      go_wp2_with fail
      refine (sFlagsOk_any _ _ true (Lib.hid ⟨fun _ => ⟨h0, h1⟩, fun _ => rfl⟩)).mono ?_
      rintro e w1 ⟨rfl, rfl⟩
      by_cases hbit : n / 2 ^ k % 2 = 1
      · have hbt := bit_one n k hf true (by simp [hbit])
        have HNX : Hid (flK n (k + 1) = flK n k ++ [bs (fnm k)]) := by have h := HNX.out; rw [if_pos hbit] at h; exact h
        have HBT := Lib.hid hbit
        clear hbit
        go_wp2_with fail
        refine (l5Words_any _).mono ?_
        rintro e w2 ⟨rfl, hat, hs2, hb2⟩
        have hc1 : w2.cell? ⟨w1.heap.size, 0 + k, none⟩ = some (.string (bs (fnm k))) := by
          have h := strCells_at hat k (by simpa [fnms] using hlt)
          rw [h]
          have : k = 0 ∨ k = 1 ∨ k = 2 ∨ k = 3 ∨ k = 4 := by omega
          rcases this with rfl | rfl | rfl | rfl | rfl <;> rfl
        have hc2 : w2.cell? ⟨w1.heap.size, k, none⟩ = some (.string (bs (fnm k))) := by rw [Nat.zero_add] at hc1; exact hc1
        have HO1 := Lib.hid (HO.out.ext hb2)
        have hbl := hb2.size
        clear hat
        go_wp2_with ((at_builtin; refine wpList_appL (B := w.heap.size) (v := .slice g (flK n k).length q) rfl _ _ 45 rfl 9 i0 _ _ Tryz.underlying45 hi hz0 hz1 hz2 rfl (by decide) rfl (HO1.out.ext bxt) (some ⟨w2.heap.size, 0, none⟩) 1 1 (strCells (bs (fnm k))) rfl (Rd.lit _ _ _ _ 1 _ rfl rfl (by omega)) (by simp [strCells, Value.oneCell']) (by omega) (by omega) (by simp; omega) ?_))
        intro g2 q2 w3 hown hg hwl
        have hb3 : Below w.heap.size w w3 := Below.grown (Below.ext (Below.ext hb hb2) (show Ext w2 _ from bxt)) hg (by simp; omega) (fun x hx => (HO1.out.lt x hx).1)
        have HO2 : Hid (Own w3 w.heap.size 9 1 (.slice g2 (flK n (k + 1)).length q2) (flK n (k + 1)).length ((flK n (k + 1)).flatMap strCells)) := by
          unfold Hid
          rw [HNX.out]
          simpa using hown
        have HV : Hid ((Value.slice g2 ((flK n k).length + 1) q2) = .slice g2 (flK n (k + 1)).length q2) := by unfold Hid; rw [HNX.out]; simp
        clear hown hg hwl
        go_wp2_with fail
        go_roundw
        case rel => exact ⟨k + 1, g2, q2, by omega, by go_num, HV.out, HO2, hb3⟩
        case measure => simp [intOf]; omega
      · have hbt := bit_one n k hf false (by simp; omega)
        have HNX : Hid (flK n (k + 1) = flK n k) := by have h := HNX.out; rw [if_neg hbit, List.append_nil] at h; exact h
        clear hbit
        have HN : Hid (FlRel n w w.heap.size (.slice g (flK n k).length q) (.int .i64 ((k : Int) + 1)) w1) := ⟨k + 1, g, q, by omega, by go_num, by rw [HNX.out], by rw [HNX.out]; exact HO, hb⟩
        go_wp2_with fail
        go_roundw
        case rel => exact HN.out
        case measure => simp [intOf]; omega
    · have k5 : decide ((k : Int) < 5) = false := decide_eq_false (by omega)
      obtain rfl : k = 5 := by omega
      have hU : (undef : Value) = .tuple #[] := rfl
      go_wp2_with fail
      refine (specJoined_any (flK n 5) ⟨#[32]⟩ g q _ (Rd.of_Own HO.out) (by have h := HL.out; rw [← HT.out] at h; show (Lib.join _ [32]).length ≤ _; omega) (by omega)).mono ?_
      rintro e w4 ⟨rfl, hb4⟩
      go_wp2_with fail
      go_ret
      refine ⟨?_, bxt⟩
      have h := HT.out
      rw [h]
      rfl
end Go.Proofs.YtidfhkdonhjgaaaGreatDoor
