/-
  The numeral of a number: the program's Digits (strconv.Itoa) and the reference's loop.
-/
import Derived.Test.YtidfhkdonhjgaaaGreatDoorWCatP
import Derived.Test.YtidfhkdonhjgaaaGreatDoorShf
import Derived.Test.YtidfhkdonhjgaaaGreatDoorWStr
import Derived.Lib.LaidTab
import Derived.IntWalk
import Derived.WalkSmall
namespace Go.Proofs.YtidfhkdonhjgaaaGreatDoor
open Go.RowKit
set_option linter.unusedVariables false
set_option linter.unusedSimpArgs false

/-- the table of the powers of ten -/
def Pw (w : World) : Prop := Lib.TabIs Tryz.prog w "internal/strconv.uint64pow10" .u64 Lib.pow10Tab
theorem Pw.ext {w w' : World} (h : Pw w) (hb : Ext w w') : Pw w' := by
  have hg : Tryz.prog.globalNamed "internal/strconv.uint64pow10" = some 6 := by kernel_rfl
  have hc := Lib.TabIs.cell h hg 0 (by decide)
  exact var?_below hb hg (cell_lt hc) h
set_option maxHeartbeats 1000000 in
theorem implDigits_any (n : Int) (w : World) (ht : Pw w) (h0 : 0 ≤ n) (h1 : n ≤ 999999999) :
    Calls Tryz.prog 31 #[.int .i64 n] w fun e w' => e = .returned (.string (dgB n)) ∧ Ext w w' := by
  have hi : Lib.itoa n = Lib.decDigits n.toNat := itoa_nat h0
  have HI := Lib.hid hi
  clear hi
  go_enter Tryz.func31, Tryz.ntmps31
  go_wp2_with fail
  refine (Tryz.strconv_Itoa n (by omega) (by omega) _ ht).mono ?_
  rintro e w1 ⟨rfl, k, os, rfl⟩
  have hb : Ext w (Sort.grow (w.drewN k) os) := ⟨rfl, rfl, rfl, by (show w.heap.size ≤ (w.heap ++ os).size; rw [Array.size_append]; omega), fun j hj => Array.getElem?_append_left hj⟩
  generalize Sort.grow (w.drewN k) os = w1 at hb ⊢
  go_wp2_with fail
  go_ret
  refine ⟨?_, hb⟩
  rw [HI.out]; rfl
theorem bs_dig (d : Nat) (out : List UInt8) : bs (UInt8.ofNat (48 + d) :: out) = ⟨#[48 + UInt8.ofNat d]⟩ ++ bs out := by
  rw [show UInt8.ofNat (48 + d) :: out = [UInt8.ofNat (48 + d)] ++ out from rfl, ← bs_app]
  congr 1
  simp [bs]
def DigRel (n : Nat) (W : World) (v0 v4 : Value) (wr : World) : Prop :=
  ∃ (m : Nat) (out : List UInt8), m ≤ n ∧ v0 = .int .i64 m ∧ v4 = .string (bs out) ∧ Hid (DgSt n m out) ∧ Ext W wr
set_option maxRecDepth 100000 in
set_option maxHeartbeats 2000000 in
theorem specDigits_any (n : Int) (w : World) (h0 : 0 ≤ n) (h1 : n ≤ 999999999) :
    Calls Tryz.prog 35 #[.int .i64 n] w fun e w' => e = .returned (.string (dgB n)) ∧ Ext w w' := by
  obtain ⟨k, rfl⟩ : ∃ k : Nat, n = k := ⟨n.toNat, by omega⟩
  have hk : k ≤ 999999999 := by omega
  clear h0 h1
  by_cases hz : k = 0
  · subst hz
    go_enter Tryz.func35, Tryz.ntmps35
    go_wp2_with fail
    go_ret
    exact ⟨by simp [dgB, bs, dec_small], bxt⟩
  have hz1 : ((k : Int) == 0) = false := by rw [beq_eq_false_iff_ne]; omega
  have hz2 : decide ((k : Int) < 0) = false := decide_eq_false (by omega)
  go_enter Tryz.func35, Tryz.ntmps35
  go_wp2_with fail
  go_loopw [0, 4, 5] (fun a b _ wr => DigRel k w a b wr) (fun a _ _ _ => (intOf a).toNat)
  case atStart => exact ⟨k, [], Nat.le_refl _, rfl, rfl, Lib.hid (dgSt_start hz), bxt⟩
  case round =>
    obtain ⟨m, out, hm, rfl, rfl, HS, hb⟩ := hrel
    by_cases hm0 : m = 0
    · subst hm0
      have HE := Lib.hid HS.out.stop
      go_wp2_with fail
      go_ret
      refine ⟨?_, hb⟩
      rw [HE.out]; rfl
    · have e0 : ((m : Int) != 0) = true := by rw [bne_iff_ne]; omega
      have HN := Lib.hid (HS.out.next hm0)
      have hv : ((UInt8.ofNat (48 + m % 10)).toNat : Int) = 48 + (m : Int) % 10 := by rw [dec_byte (by omega)]; omega
      have d0 : decide ((m : Int) % 10 < 0) = false := decide_eq_false (by omega)
      have hk : (convert 28 9 (.slice (some ⟨wr.heap.size, 0, none⟩) 1 1)).run Tryz.prog (wr.alloc (.cells #[.int .u8 (48 + (m : Int) % 10)] 5)) = .ok (.string ⟨#[UInt8.ofNat (48 + m % 10)]⟩) (wr.alloc (.cells #[.int .u8 (48 + (m : Int) % 10)] 5)) :=
        conv_at _ _ _ 5 wr.heap.size 0 1 [UInt8.ofNat (48 + m % 10)] Tryz.underlying28 Tryz.underlying5 Tryz.underlying9 (at_alloc rfl (by simp only [bv, List.map_cons, List.map_nil, hv]))
      have HV := Lib.hid hv
      have hbs := hb.size
      have hcat : ¬ 9223372036854775807 < 1 + (bs out).size := by (have h1 := HS.out.len; have h2 := dec_len9 (n := k) (by omega); rw [bs_size]; omega)
      clear hv
      go_wp2_with fail
      go_roundw
      case rel => exact ⟨m / 10, UInt8.ofNat (48 + m % 10) :: out, by omega, by go_num, by rw [bs_dig], HN, bxt⟩
      case measure => simp [intOf]; omega
end Go.Proofs.YtidfhkdonhjgaaaGreatDoor
