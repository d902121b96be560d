/-
  Decimal numerals and hexadecimal texts as lists of bytes: the plain law.
-/
import Derived.Lib.ItoaNum
import Derived.Lib.AtoiAll
import Derived.Lib.HexFns2
namespace Go.Proofs.YtidfhkdonhjgaaaGreatDoor
open Go Go.Lib
set_option linter.unusedVariables false
set_option linter.unusedSimpArgs false

theorem dec_small {n : Nat} (h : n < 10) : decDigits n = [UInt8.ofNat (48 + n)] := by rw [decDigits, dif_pos h]
theorem dec_big {n : Nat} (h : ¬ n < 10) : decDigits n = decDigits (n / 10) ++ [UInt8.ofNat (48 + n % 10)] := by rw [decDigits, dif_neg h]
/-- the loop of the reference's Digits: m is left, out is told -/
def DgSt (n m : Nat) (out : List UInt8) : Prop := if m = 0 then out = decDigits n else decDigits n = decDigits m ++ out
theorem dgSt_start {n : Nat} (h : n ≠ 0) : DgSt n n [] := by unfold DgSt; rw [if_neg h]; simp
theorem DgSt.next {n m : Nat} {out : List UInt8} (h : DgSt n m out) (hm : m ≠ 0) : DgSt n (m / 10) (UInt8.ofNat (48 + m % 10) :: out) := by
  unfold DgSt at h ⊢
  rw [if_neg hm] at h
  by_cases h1 : m < 10
  · rw [if_pos (by omega), h, dec_small h1, Nat.mod_eq_of_lt h1]; rfl
  · rw [if_neg (by omega), h, dec_big h1]; simp
theorem DgSt.stop {n : Nat} {out : List UInt8} (h : DgSt n 0 out) : out = decDigits n := by unfold DgSt at h; simpa using h
theorem DgSt.len {n m : Nat} {out : List UInt8} (h : DgSt n m out) : out.length ≤ (decDigits n).length := by
  unfold DgSt at h
  split at h
  · rw [h]; exact Nat.le_refl _
  · rw [h, List.length_append]; omega
theorem dec_byte {d : Nat} (h : d < 10) : (UInt8.ofNat (48 + d)).toNat = 48 + d := by rw [UInt8.toNat_ofNat']; omega
/-- every byte of a numeral is a digit -/
theorem dec_digit (n : Nat) : ∀ b ∈ decDigits n, 48 ≤ b.toNat ∧ b.toNat ≤ 57 := by
  induction n using Nat.strongRecOn with
  | _ n ih =>
    by_cases h : n < 10
    · rw [dec_small h]; intro b hb; simp only [List.mem_singleton] at hb; subst hb; rw [dec_byte h]; omega
    · rw [dec_big h]; intro b hb; rw [List.mem_append] at hb
      rcases hb with hb | hb
      · exact ih _ (by omega) b hb
      · simp only [List.mem_singleton] at hb; subst hb; rw [dec_byte (by omega)]; omega
/-- the number that digits spell -/
def valD (l : List UInt8) : Nat := l.foldl (fun a b => 10 * a + (b.toNat - 48)) 0
theorem valD_snoc (l : List UInt8) (b : UInt8) : valD (l ++ [b]) = 10 * valD l + (b.toNat - 48) := by simp [valD, List.foldl_append]
theorem valD_dec (n : Nat) : valD (decDigits n) = n := by
  induction n using Nat.strongRecOn with
  | _ n ih =>
    by_cases h : n < 10
    · rw [dec_small h]; simp only [valD, List.foldl_cons, List.foldl_nil]; rw [dec_byte h]; omega
    · rw [dec_big h, valD_snoc, ih _ (by omega), dec_byte (by omega)]; omega
theorem dec_inj {m n : Nat} (h : decDigits m = decDigits n) : m = n := by rw [← valD_dec m, h, valD_dec]
theorem dec_ne (n : Nat) : decDigits n ≠ [] := by
  intro h
  have h1 := decDigits_length n
  have h2 := nDigits_pos n
  rw [h] at h1; simp at h1; omega
theorem dec_len_le : ∀ (k n : Nat), n < 10 ^ (k + 1) → (decDigits n).length ≤ k + 1
  | 0, n, h => by rw [dec_small (by simpa using h)]; simp
  | k + 1, n, h => by
    by_cases h1 : n < 10
    · rw [dec_small h1]; simp
    · rw [dec_big h1, List.length_append]
      have := dec_len_le k (n / 10) (by rw [Nat.pow_succ] at h; omega)
      simp; omega
theorem dec_len9 {n : Nat} (h : n ≤ 999999999) : (decDigits n).length ≤ 9 := dec_len_le 8 n (by omega)
theorem dec_len1 (n : Nat) : 1 ≤ (decDigits n).length := by rw [decDigits_length]; exact nDigits_pos n
theorem itoa_nat {n : Int} (h : 0 ≤ n) : itoa n = decDigits n.toNat := by unfold itoa; rw [if_neg (by omega)]
/-- the value of at most k digits -/
theorem valD_lt : ∀ (k : Nat) (l : List UInt8), l.length = k → (∀ b ∈ l, 48 ≤ b.toNat ∧ b.toNat ≤ 57) → valD l < 10 ^ k
  | 0, l, hl, _ => by rw [List.length_eq_zero_iff.1 hl]; simp [valD]
  | k + 1, l, hl, hd => by
    have hne : l ≠ [] := by intro e; subst e; simp at hl
    obtain ⟨t, b, rfl⟩ : ∃ t b, l = t ++ [b] := ⟨l.dropLast, l.getLast hne, (List.dropLast_concat_getLast hne).symm⟩
    have h1 := valD_lt k t (by simpa using hl) (fun x hx => hd x (by simp [hx]))
    have h2 := hd b (by simp)
    rw [valD_snoc, Nat.pow_succ]; omega
/-- strconv's words -/
theorem parse_snoc : ∀ (l : List UInt8) (acc u : Nat) (b : UInt8), parseUint10 acc l = .ok u → 48 ≤ b.toNat ∧ b.toNat ≤ 57 → u * 10 + (b.toNat - 48) ≤ 999999999 → parseUint10 acc (l ++ [b]) = .ok (u * 10 + (b.toNat - 48))
  | [], acc, u, b, h, hb, hu => by
    simp only [parseUint10] at h
    injection h with h
    subst h
    simp only [List.nil_append, parseUint10]
    rw [if_pos hb, if_neg (by omega), if_neg (by omega)]
  | c :: r, acc, u, b, h, hb, hu => by
    simp only [parseUint10] at h
    simp only [List.cons_append, parseUint10]
    split at h
    · rename_i hc
      rw [if_pos hc]
      split at h
      · cases h
      · rename_i h1
        rw [if_neg h1]
        split at h
        · cases h
        · rename_i h2
          rw [if_neg h2]
          exact parse_snoc r _ u b h hb hu
    · cases h
theorem parse_dec (n : Nat) (h : n ≤ 999999999) : parseUint10 0 (decDigits n) = .ok n := by
  induction n using Nat.strongRecOn with
  | _ n ih =>
    by_cases h1 : n < 10
    · rw [dec_small h1]
      simp only [parseUint10]
      rw [dec_byte h1, if_pos (by omega), if_neg (by omega), if_neg (by omega)]
      congr 1; omega
    · rw [dec_big h1]
      have h2 := parse_snoc (decDigits (n / 10)) 0 (n / 10) (UInt8.ofNat (48 + n % 10)) (ih _ (by omega) (by omega)) (by rw [dec_byte (by omega)]; omega) (by rw [dec_byte (by omega)]; omega)
      rw [h2, dec_byte (by omega)]
      congr 1; omega
theorem atoi_dec (n : Nat) (h : n ≤ 999999999) : atoiAll (decDigits n) = .ok (n : Int) := by
  have hd := dec_digit n
  have hp := parse_dec n h
  cases hl : decDigits n with
  | nil => exact absurd hl (dec_ne n)
  | cons c r =>
    rw [hl] at hd hp
    have hc := hd c (by simp)
    have h43 : ¬ c.toNat = 43 := by omega
    have h45 : ¬ c.toNat = 45 := by omega
    have h9 : ¬ 9223372036854775808 ≤ n := by omega
    simp [atoiAll, h43, h45, parseMag, hp, h9]
/-- hexadecimal -/
theorem hx_digit (d : Nat) (h : d < 16) : (Hx.digit d).toNat = if d < 10 then 48 + d else 87 + d := by
  have : ∀ d : Fin 16, (Hx.digit d.val).toNat = if d.val < 10 then 48 + d.val else 87 + d.val := by decide +kernel
  exact this ⟨d, h⟩
theorem hx_v (d : Nat) (h : d < 16) : Hx.v (Hx.digit d) = d := by
  have : ∀ d : Fin 16, Hx.v (Hx.digit d.val) = d.val := by decide +kernel
  exact this ⟨d, h⟩
theorem hx_decode (l : List UInt8) : Hx.decode (Hx.encode l) = (l, .ok) := by
  induction l with
  | nil => exact Hx.decode_nil
  | cons a t ih =>
    have h1 : a.toNat < 256 := a.toNat_lt
    rw [Hx.encode_cons, Hx.decode_two, hx_v _ (by omega), hx_v _ (by omega), if_neg (by omega), if_neg (by omega), ih]
    have e : UInt8.ofNat (a.toNat / 16 * 16 + a.toNat % 16) = a := by
      rw [show a.toNat / 16 * 16 + a.toNat % 16 = a.toNat by omega]; simp
    rw [e]
/-- the loop of the reference's Hex: k bytes are told -/
theorem encode_take {l : List UInt8} {k : Nat} (hk : k < l.length) : Hx.encode (l.take (k + 1)) = Hx.encode (l.take k) ++ [Hx.digit (l[k].toNat / 16), Hx.digit (l[k].toNat % 16)] := by
  rw [List.take_add_one, List.getElem?_eq_getElem hk]
  unfold Hx.encode
  rw [List.flatMap_append]
  simp
end Go.Proofs.YtidfhkdonhjgaaaGreatDoor
