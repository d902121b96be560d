/-
  A number out of its numeral: the program's Number (strconv.Atoi) and the reference's loop.
-/
import Derived.Test.YtidfhkdonhjgaaaGreatDoorWGl
import Derived.Test.YtidfhkdonhjgaaaGreatDoorWGsP
import Derived.Test.YtidfhkdonhjgaaaGreatDoorCSmall
namespace Go.Proofs.YtidfhkdonhjgaaaGreatDoor
open Go.RowKit
set_option linter.unusedVariables false
set_option linter.unusedSimpArgs false

theorem numIs_of {w : List UInt8} {n : Int} (h : ∀ m : Nat, m ≤ 999999999 → w = Lib.decDigits m → n = m) : NumIs w n := h
theorem str_ne {a b : ByteArray} (h : ¬ a = b) : (a.toList == b.toList) = false := by
  apply beq_false_of_ne
  intro e
  apply h
  rw [ByteArray.toList_eq, ByteArray.toList_eq] at e
  rw [← bs_of a, e, bs_of]
def NumPost (s : ByteArray) (w : World) (e : Ending) (w' : World) : Prop := ∃ (n : Int) (b : Bool), e = .returned (.tuple #[.int .i64 n, .bool b]) ∧ NumIs s.data.toList n ∧ (0 ≤ n ∧ n ≤ 999999999) ∧ Ext w w'
theorem ext_bytes {w w' : World} {e : Nat} (h : w' = w ∨ ∃ t, w' = Lib.bytesWorld w e t) : Ext w w' := by
  rcases h with rfl | ⟨t, rfl⟩
  · exact Below.refl _ _
  · exact Lib.bytesWorld_below w e t
set_option maxRecDepth 100000 in
set_option maxHeartbeats 4000000 in
theorem implNumber_any (s : ByteArray) (w : World) (hg : Gl w) (hs : s.size ≤ 1048576) :
    Calls Tryz.prog 58 #[.string s] w (NumPost s w) := by
  have HG := Lib.hid hg
  clear hg
  have hat := fun (m : Nat) (hm : m ≤ 999999999) (e : s.data.toList = Lib.decDigits m) => (congrArg Lib.atoiAll e).trans (atoi_dec m hm)
  have hU : (undef : Value) = .tuple #[] := rfl
  by_cases e0 : Lib.atoiAll s.data.toList = Lib.atoiAll []
  · have HN : Hid (NumIs s.data.toList 0) := fun m hm e => by (have h1 := e0.symm.trans (hat m hm e); first | (exact absurd h1 (by simp [Lib.atoiAll])) | cases h1 | injection h1)
    have HR := Lib.hid e0
    clear e0 hat
    obtain ⟨tp, p, hv⟩ := HG.out.es
    have HV := Lib.hid hv
    clear hv
    go_enter Tryz.func58, Tryz.ntmps58
    go_wp2_with fail
    refine (Tryz.strconv_Atoi_syntax_var s (by omega) HR.out tp p _ HV.out).mono ?_
    rintro e w1 ⟨N, rfl, _, _, hb1⟩
    go_wp2_with fail
    refine bodyPost_ret (v := .tuple #[.int .i64 0, .bool false]) (by simp [results, Tryz.results58, go_sem, *]) rfl ?_
    exact ⟨0, false, rfl, HN.out, by omega, hb1⟩
  cases hr : Lib.atoiAll s.data.toList with
  | range =>
    have HN : Hid (NumIs s.data.toList 0) := fun m hm e => by have := hat m hm e; rw [hr] at this; cases this
    have HR := Lib.hid hr
    clear hr hat e0
    obtain ⟨tp, p, hv⟩ := HG.out.er
    have HV := Lib.hid hv
    clear hv
    go_enter Tryz.func58, Tryz.ntmps58
    go_wp2_with fail
    refine (Tryz.strconv_Atoi_range_var s (by omega) HR.out tp p _ HV.out).mono ?_
    rintro e w1 ⟨N, rfl, _, _, hb1⟩
    go_wp2_with fail
    refine bodyPost_ret (v := .tuple #[.int .i64 0, .bool false]) (by simp [results, Tryz.results58, go_sem, *]) rfl ?_
    exact ⟨0, false, rfl, HN.out, by omega, hb1⟩
  | ok v =>
    have hvm : ∀ m : Nat, m ≤ 999999999 → s.data.toList = Lib.decDigits m → v = m := fun m hm e => by
      have := hat m hm e
      rw [hr] at this
      injection this
    have HVM := Lib.hid hvm
    have HR := Lib.hid hr
    clear hr hat hvm e0
    by_cases hin : 0 ≤ v ∧ v ≤ 999999999
    · by_cases heq : dgB v = s
      · have HE := Lib.hid heq
        go_enter Tryz.func58, Tryz.ntmps58
        go_wp2_with fail
        refine (Tryz.strconv_Atoi_ok s (by omega) v HR.out _).mono ?_
        rintro e w1 ⟨rfl, hw1⟩
        have hb1 := ext_bytes hw1
        clear hw1
        go_wp2_with fail
        refine (within_any v 0 999999999 _ true (Lib.hid ⟨fun _ => hin, fun _ => rfl⟩)).mono ?_
        rintro e w2 ⟨rfl, rfl⟩
        go_wp2_with fail
        refine (implDigits_any v _ (HG.out.pw.ext bxt) hin.1 hin.2).mono ?_
        rintro e w3 ⟨rfl, hb3⟩
        rw [HE.out]
        clear heq
        go_wp2_with fail
        refine bodyPost_ret (v := .tuple #[.int .i64 v, .bool true]) (by simp [results, Tryz.results58, go_sem, *]) rfl ?_
        exact ⟨v, true, rfl, HVM.out, hin, bxt⟩
      · have HN : Hid (NumIs s.data.toList 0) := fun m hm e => absurd (by
          rw [HVM.out m hm e, ← bs_of s, e]; simp [dgB]) heq
        have hne2 : ((dgB v).toList == s.toList) = false := str_ne heq
        clear heq
        go_enter Tryz.func58, Tryz.ntmps58
        go_wp2_with fail
        refine (Tryz.strconv_Atoi_ok s (by omega) v HR.out _).mono ?_
        rintro e w1 ⟨rfl, hw1⟩
        have hb1 := ext_bytes hw1
        clear hw1
        go_wp2_with fail
        refine (within_any v 0 999999999 _ true (Lib.hid ⟨fun _ => hin, fun _ => rfl⟩)).mono ?_
        rintro e w2 ⟨rfl, rfl⟩
        go_wp2_with fail
        refine (implDigits_any v _ (HG.out.pw.ext bxt) hin.1 hin.2).mono ?_
        rintro e w3 ⟨rfl, hb3⟩
        go_wp2_with fail
        refine bodyPost_ret (v := .tuple #[.int .i64 0, .bool false]) (by simp [results, Tryz.results58, go_sem, *]) rfl ?_
        exact ⟨0, false, rfl, HN.out, by omega, bxt⟩
    · have HN : Hid (NumIs s.data.toList 0) := fun m hm e => absurd ⟨by rw [HVM.out m hm e]; omega, by rw [HVM.out m hm e]; omega⟩ hin
      go_enter Tryz.func58, Tryz.ntmps58
      go_wp2_with fail
      refine (Tryz.strconv_Atoi_ok s (by omega) v HR.out _).mono ?_
      rintro e w1 ⟨rfl, hw1⟩
      have hb1 := ext_bytes hw1
      clear hw1
      go_wp2_with fail
      refine (within_any v 0 999999999 _ false (Lib.hid ⟨fun h => (by cases h), fun h => absurd h hin⟩)).mono ?_
      rintro e w2 ⟨rfl, rfl⟩
      clear hin
      go_wp2_with fail
      refine bodyPost_ret (v := .tuple #[.int .i64 0, .bool false]) (by simp [results, Tryz.results58, go_sem, *]) rfl ?_
      exact ⟨0, false, rfl, HN.out, by omega, bxt⟩
  | _ => exact absurd (hr.trans (by rfl)) e0
/-- the digits that are read -/
def NmSt (l : List UInt8) (k : Nat) : Prop := ∀ b ∈ l.take k, 48 ≤ b.toNat ∧ b.toNat ≤ 57
def NumRel (s : ByteArray) (W : World) (v4 v5 : Value) (wr : World) : Prop :=
  ∃ k : Nat, k ≤ s.size ∧ v5 = .int .i64 k ∧ v4 = .int .i64 (valD (s.data.toList.take k)) ∧ Hid (NmSt s.data.toList k) ∧ Ext W wr
theorem valD_take {l : List UInt8} {k : Nat} (hk : k < l.length) : valD (l.take (k + 1)) = 10 * valD (l.take k) + (l[k].toNat - 48) := by
  rw [List.take_add_one, List.getElem?_eq_getElem hk]
  exact valD_snoc _ _
set_option maxRecDepth 100000 in
set_option maxHeartbeats 4000000 in
theorem specNumber_any (s : ByteArray) (w : World) :
    Calls Tryz.prog 54 #[.string s] w (NumPost s w) := by
  have hsz : s.data.toList.length = s.size := by simp
  have hU : (undef : Value) = .tuple #[] := rfl
  by_cases hlen : 1 ≤ s.size ∧ s.size ≤ 9
  · have d1 : decide ((s.size : Int) < 1) = false := decide_eq_false (by omega)
    have d2 : decide ((9 : Int) < (s.size : Int)) = false := decide_eq_false (by omega)
    go_enter Tryz.func54, Tryz.ntmps54
    go_wp2_with fail
    go_loopw [4, 5] (NumRel s w) (fun _ i _ => s.size - (intOf i).toNat)
    case atStart => exact ⟨0, Nat.zero_le _, rfl, rfl, Lib.hid (fun b hb => by simp at hb), bxt⟩
    case round =>
      obtain ⟨k, hk, rfl, rfl, HS, hb⟩ := hrel
      by_cases hlt : k < s.size
      · have k1 : (k : Int) < (s.size : Int) := by omega
        have k3 : (0 : Int) ≤ (k : Int) := by omega
        have k5 : decide ((k : Int) < (s.size : Int)) = true := decide_eq_true k1
        have e1 : (s.data.toList[k]'(by omega)) = s[k] := by simp; rfl
        obtain ⟨x, hx⟩ : ∃ x : Nat, s[k].toNat = x := ⟨_, rfl⟩
        have hx8 : x < 256 := by rw [← hx]; exact s[k].toNat_lt
        have hmem : s[k] ∈ s.data.toList := by rw [← e1]; exact List.getElem_mem _
        by_cases hd : 48 ≤ x ∧ x ≤ 57
        · have d3 : decide ((x : Int) < 48) = false := decide_eq_false (by omega)
          have d4 : decide ((57 : Int) < (x : Int)) = false := decide_eq_false (by omega)
          have hnx := valD_take (l := s.data.toList) (k := k) (by omega)
          rw [e1, hx] at hnx
          have hv : valD (s.data.toList.take k) < 10 ^ k := valD_lt k _ (by simp; omega) HS.out
          have hp : 10 ^ k ≤ 10 ^ 8 := Nat.pow_le_pow_right (by decide) (by omega)
          have HNX := Lib.hid hnx
          have HNS : Hid (NmSt s.data.toList (k + 1)) := by
            intro b hbm
            rw [List.take_add_one, List.getElem?_eq_getElem (by omega), e1, List.mem_append] at hbm
            rcases hbm with h | h
            · exact HS.out b h
            · simp only [Option.toList, List.mem_singleton] at h
              subst h
              rw [hx]; exact hd
          obtain ⟨v, hvv⟩ : ∃ v, valD (s.data.toList.take k) = v := ⟨_, rfl⟩
          have HVV := Lib.hid hvv
          rw [hvv] at hv
          have hv8 : v < 100000000 := by omega
          have m1 : IntKind.i64.wrap (10 * (v : Int)) = 10 * (v : Int) := IntWalk.i64_in _ (by omega)
          have m2 : IntKind.u8.wrap ((x : Int) - 48) = (x : Int) - 48 := IntWalk.u8_in _ (by omega)
          have m3 : IntKind.i64.wrap ((x : Int) - 48) = (x : Int) - 48 := IntWalk.i64_in _ (by omega)
          have m4 : IntKind.i64.wrap (10 * (v : Int) + ((x : Int) - 48)) = 10 * (v : Int) + ((x : Int) - 48) := IntWalk.i64_in _ (by omega)
          clear hnx e1 hmem hp hvv
          rw [HVV.out]
          go_wp2_with fail
          go_roundw
          case rel => exact ⟨k + 1, by omega, by go_num, by (rw [HNX.out, HVV.out]; congr 1; omega), HNS, hb⟩
          case measure => simp [intOf]; omega
        · have HN : Hid (NumIs s.data.toList 0) := fun m hm e => by
            have h := dec_digit m s[k] (by rw [← e]; exact hmem)
            rw [hx] at h
            exact absurd h hd
          clear hmem e1
          rcases Nat.lt_or_ge x 48 with h48 | h48
          · have d3 : decide ((x : Int) < 48) = true := decide_eq_true (by omega)
            clear hd
            go_wp2_with fail
            refine bodyPost_ret (v := .tuple #[.int .i64 0, .bool false]) (by simp [results, Tryz.results54, go_sem, *]) rfl ?_
            exact ⟨0, false, rfl, HN.out, by omega, hb⟩
          · have d3 : decide ((x : Int) < 48) = false := decide_eq_false (by omega)
            have d4 : decide ((57 : Int) < (x : Int)) = true := decide_eq_true (by omega)
            clear hd
            go_wp2_with fail
            refine bodyPost_ret (v := .tuple #[.int .i64 0, .bool false]) (by simp [results, Tryz.results54, go_sem, *]) rfl ?_
            exact ⟨0, false, rfl, HN.out, by omega, hb⟩
      · have k5 : decide ((k : Int) < (s.size : Int)) = false := decide_eq_false (by omega)
        obtain rfl : k = s.size := by omega
        obtain ⟨v, hvv⟩ : ∃ v, valD (s.data.toList.take s.size) = v := ⟨_, rfl⟩
        have hv : v < 10 ^ s.size := by rw [← hvv]; exact valD_lt s.size _ (by simp) HS.out
        have hp : 10 ^ s.size ≤ 10 ^ 9 := Nat.pow_le_pow_right (by decide) (by omega)
        have hv9 : v ≤ 999999999 := by omega
        have HM : Hid (∀ m : Nat, m ≤ 999999999 → s.data.toList = Lib.decDigits m → (v : Int) = m) := fun m hm e => by
          have h2 : valD (s.data.toList.take s.size) = m := by rw [← hsz, List.take_length, e, valD_dec]
          omega
        rw [hvv]
        clear hvv hv hp
        by_cases heq : dgB v = s
        · have HE := Lib.hid heq
          clear heq
          go_wp2_with fail
          refine (specDigits_any v _ (by omega) (by omega)).mono ?_
          rintro e w3 ⟨rfl, hb3⟩
          rw [HE.out]
          go_wp2_with fail
          refine bodyPost_ret (v := .tuple #[.int .i64 v, .bool true]) (by simp [results, Tryz.results54, go_sem, *]) rfl ?_
          exact ⟨v, true, rfl, HM.out, by omega, bxt⟩
        · have HN : Hid (NumIs s.data.toList 0) := fun m hm e => absurd (by
            have h := HM.out m hm e
            rw [h, ← bs_of s, e]; simp [dgB]) heq
          have hne2 : ((dgB v).toList == s.toList) = false := str_ne heq
          clear heq
          go_wp2_with fail
          refine (specDigits_any v _ (by omega) (by omega)).mono ?_
          rintro e w3 ⟨rfl, hb3⟩
          go_wp2_with fail
          refine bodyPost_ret (v := .tuple #[.int .i64 0, .bool false]) (by simp [results, Tryz.results54, go_sem, *]) rfl ?_
          exact ⟨0, false, rfl, HN.out, by omega, bxt⟩
  · have HN : Hid (NumIs s.data.toList 0) := fun m hm e => absurd ⟨by (have := dec_len1 m; rw [← e] at this; omega), by (have := dec_len9 hm; rw [← e] at this; omega)⟩ hlen
    rcases Nat.lt_or_ge s.size 1 with h1 | h1
    · have d1 : decide ((s.size : Int) < 1) = true := decide_eq_true (by omega)
      clear hlen
      go_enter Tryz.func54, Tryz.ntmps54
      go_wp2_with fail
      refine bodyPost_ret (v := .tuple #[.int .i64 0, .bool false]) (by simp [results, Tryz.results54, go_sem, *]) rfl ?_
      exact ⟨0, false, rfl, HN.out, by omega, bxt⟩
    · have d1 : decide ((s.size : Int) < 1) = false := decide_eq_false (by omega)
      have d2 : decide ((9 : Int) < (s.size : Int)) = true := decide_eq_true (by omega)
      clear hlen
      go_enter Tryz.func54, Tryz.ntmps54
      go_wp2_with fail
      refine bodyPost_ret (v := .tuple #[.int .i64 0, .bool false]) (by simp [results, Tryz.results54, go_sem, *]) rfl ?_
      exact ⟨0, false, rfl, HN.out, by omega, bxt⟩
end Go.Proofs.YtidfhkdonhjgaaaGreatDoor
