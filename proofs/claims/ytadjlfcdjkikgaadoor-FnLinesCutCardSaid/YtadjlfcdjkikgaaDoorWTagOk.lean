/-
  Whether a string is a tag: the program's function and the reference's.
-/
import Derived.Test.YtadjlfcdjkikgaaDoorCSmall
import Derived.Test.YtadjlfcdjkikgaaDoorWNameOk
import Derived.Test.YtadjlfcdjkikgaaDoorXMark
import Derived.Lib.ConvBytes
import Derived.Lib.AtoiErrMem
import Derived.IntWalk
namespace Go.Proofs.YtadjlfcdjkikgaaDoor
open Go.RowKit
set_option linter.unusedVariables false
set_option linter.unusedSimpArgs false

theorem str_is (s : ByteArray) (l : List UInt8) : (s.toList == l) = decide (s = ⟨l.toArray⟩) := by
  rw [ByteArray.toList_eq]
  by_cases e : s = ⟨l.toArray⟩
  · subst e; simp
  · rw [decide_eq_false e]
    apply beq_false_of_ne
    intro e2
    apply e
    rw [← e2]
/-- the letter of upper case -/
def upB (b : UInt8) : UInt8 := if 97 ≤ b.toNat ∧ b.toNat ≤ 122 then UInt8.ofNat (b.toNat - 32) else b
set_option maxRecDepth 4000 in
set_option maxHeartbeats 1000000 in
theorem upper1_any (b : UInt8) (w : World) :
    Calls Tryd.prog 71 #[.string ⟨#[b]⟩] w fun e w' => e = .returned (.string ⟨#[upB b]⟩) ∧ Ext w w' := by
  have hk := Lib.run_convert_string_bytes w 9 41 5 (⟨#[b]⟩ : ByteArray) Tryd.underlying9 Tryd.underlying41 Tryd.underlying5
  have hb := Lib.bytesWorld_below w 5 (⟨#[b]⟩ : ByteArray)
  have hc : (Lib.bytesWorld w 5 (⟨#[b]⟩ : ByteArray)).cell? ⟨w.heap.size, 0, none⟩ = some (.int .u8 b.toNat) := by
    have := Lib.bytesWorld_cell w 5 (⟨#[b]⟩ : ByteArray) 0 (by simp [ByteArray.size])
    simpa using this
  have hz := Lib.bytesWorld_size w 5 (⟨#[b]⟩ : ByteArray)
  have hfz : (Lib.bytesWorld w 5 (⟨#[b]⟩ : ByteArray)).frozen? ⟨w.heap.size, 0, none⟩ = false := by
    simp [World.frozen?, Lib.bytesWorld_at_new, Lib.bytesCells]
  generalize Lib.bytesWorld w 5 (⟨#[b]⟩ : ByteArray) = w1 at hk hb hc hz hfz
  generalize grownCap w (⟨#[b]⟩ : ByteArray).size 0 5 = cap at hk
  have h1 : (⟨#[b]⟩ : ByteArray).size = 1 := rfl
  rw [h1] at hk
  have hbl := b.toNat_lt
  have hsz : w.heap.size < w1.heap.size := by omega
  go_enter Tryd.func71, Tryd.ntmps71
  go_wp2_with fail
  go_loopw [10] (fun i wr => (i = .int .i64 0 ∧ wr = w1) ∨ (i = .int .i64 1 ∧ wr.cell? ⟨w.heap.size, 0, none⟩ = some (.int .u8 (upB b).toNat) ∧ Below w.heap.size w wr)) (fun i _ => 1 - (intOf i).toNat)
  case atStart => exact Or.inl ⟨rfl, rfl⟩
  case round =>
    rcases hrel with ⟨rfl, rfl⟩ | ⟨rfl, hc2, hb2⟩
    · have w1e : ∀ x : Int, 97 ≤ x → x ≤ 122 → IntKind.u8.wrap (x - 97) = x - 97 := fun x _ _ => IntWalk.u8_in _ (by omega)
      by_cases hlo : 97 ≤ b.toNat
      · by_cases hhi : b.toNat ≤ 122
        · have e1 : IntKind.u8.wrap ((b.toNat : Int) - 97) = (b.toNat : Int) - 97 := IntWalk.u8_in _ (by omega)
          have e2 : IntKind.u8.wrap ((b.toNat : Int) - 97 + 65) = (b.toNat : Int) - 32 := by rw [IntWalk.u8_in _ (by omega)]; omega
          have d1 : decide ((97 : Int) ≤ (b.toNat : Int)) = true := by simp; omega
          have d2 : decide ((b.toNat : Int) ≤ 122) = true := by simp; omega
          go_wp2_with fail
          go_roundw
          case rel =>
            refine Or.inr ⟨?_, ?_, ?_⟩
            · go_num
            · have : ((upB b).toNat : Int) = (b.toNat : Int) - 32 := by unfold upB; rw [if_pos ⟨hlo, hhi⟩]; simp; omega
              rw [this]; simp [go_sem, *]
            · refine Below.setCell hb ?_ _
              exact Nat.le_refl _
          case measure => simp [intOf]
        · have d1 : decide ((97 : Int) ≤ (b.toNat : Int)) = true := by simp; omega
          have d2 : decide ((b.toNat : Int) ≤ 122) = false := by simp; omega
          go_wp2_with fail
          go_roundw
          case rel => exact Or.inr ⟨by go_num, by (have : upB b = b := by unfold upB; rw [if_neg (by omega)]); rw [this]; exact hc, hb⟩
          case measure => simp [intOf]
      · have d1 : decide ((97 : Int) ≤ (b.toNat : Int)) = false := by simp; omega
        go_wp2_with fail
        go_roundw
        case rel => exact Or.inr ⟨by go_num, by (have : upB b = b := by unfold upB; rw [if_neg (by omega)]); rw [this]; exact hc, hb⟩
        case measure => simp [intOf]
    · have hk2 := run_convert_bytes_arg wr 41 5 Tryd.underlying41 Tryd.underlying5 w.heap.size 0 1 cap [((upB b).toNat : Int)] rfl (fun i hi => by
        have h : i = 0 := by omega
        subst h
        simpa using hc2) 9 Tryd.underlying9
      go_wp2_with fail
      go_ret
      refine ⟨?_, hb2⟩
      have : strOfNums [((upB b).toNat : Int)] = ⟨#[upB b]⟩ := by
        apply WideShapes.bytes_inj
        simp [strOfNums]
      rw [this]
      rfl
/-- one letter of a tag -/
def TagL (s : ByteArray) (i : Nat) : Prop := (97 ≤ cat s i ∧ cat s i ≤ 122) ∨ (65 ≤ cat s i ∧ cat s i ≤ 90) ∨ (48 ≤ cat s i ∧ cat s i ≤ 57)
def TagP (s : ByteArray) : Prop := (∀ i, i < s.size → TagL s i) ∧ 1 ≤ s.size ∧ s.size ≤ 8
set_option maxHeartbeats 1000000 in
theorem specTagOk_any (s : ByteArray) (w : World) (hs : s.size ≤ 9223372036854775807) (r : Bool) (Hr : Hid (Tells r (TagP s))) :
    Calls Tryd.prog 49 #[.string s] w fun e w' => e = .returned (.bool r) ∧ w' = w := by
  go_enter Tryd.func49, Tryd.ntmps49
  go_wp2_with fail
  go_loop [3] (fun i => ∃ k : Nat, k ≤ s.size ∧ i = .int .i64 k ∧ Hid (∀ j, j < k → TagL s j)) (fun i => s.size - (intOf i).toNat)
  case atStart => exact ⟨0, Nat.zero_le _, rfl, by simp [Hid]⟩
  case round =>
    obtain ⟨k, hk, rfl, HP⟩ := hrel
    by_cases hlt : k < s.size
    · have hk1 : (k : Int) < (s.size : Int) := by omega
      have HC : Hid (cat s k = s[k].toNat) := cat_eq s k hlt
      have hby : wrap64 (s[k].toNat : Int) = (s[k].toNat : Int) := by have := s[k].toNat_lt; unfold wrap64; omega
      have ways : ∃ d1 d2 d3 d4 d5 d6 : Bool, (decide ((97 : Int) ≤ (s[k].toNat : Int)) = d1 ∧ decide ((s[k].toNat : Int) ≤ 122) = d2 ∧ decide ((65 : Int) ≤ (s[k].toNat : Int)) = d3 ∧ decide ((s[k].toNat : Int) ≤ 90) = d4 ∧ decide ((48 : Int) ≤ (s[k].toNat : Int)) = d5 ∧ decide ((s[k].toNat : Int) ≤ 57) = d6) := ⟨_, _, _, _, _, _, rfl, rfl, rfl, rfl, rfl, rfl⟩
      obtain ⟨d1, d2, d3, d4, d5, d6, h1, h2, h3, h4, h5, h6⟩ := ways
      have HT : Hid (TagL s k ↔ (d1 && d2 || (d3 && d4 || d5 && d6)) = true) := by
        unfold TagL Hid
        rw [cat_eq s k hlt, ← h1, ← h2, ← h3, ← h4, ← h5, ← h6]
        simp
        omega
      clear HC
      obtain ⟨A, hA⟩ : ∃ A, (d1 && d2) = A := ⟨_, rfl⟩
      obtain ⟨B, hB⟩ : ∃ B, (d3 && d4) = B := ⟨_, rfl⟩
      obtain ⟨C, hC⟩ : ∃ C, (d5 && d6) = C := ⟨_, rfl⟩
      rw [hA, hB, hC] at HT
      cases A <;> cases B <;> cases C
      all_goals go_wp2_with ((go_at_call 43; refine (l1In_dec _ _ _ _).mono ?_; rintro e w1 ⟨rfl, rfl⟩))
      all_goals first
        | go_ret
        | go_round
      all_goals have hT := HT.out
      all_goals simp only [Bool.false_or, Bool.or_false, Bool.true_or, Bool.or_true, iff_true, iff_false, Bool.false_eq_true] at hT
      all_goals first
        | (refine ⟨ret_no Hr.out (fun hn => hT (hn.1 _ hlt)), (by first | rfl | trivial)⟩)
        | (refine ⟨k + 1, ?_, ?_, fun j hj => ?_⟩; omega; go_num; rcases Nat.lt_or_ge j k with h | h; exact HP.out j h; obtain rfl : j = k := (by omega); exact hT)
        | (simp [intOf]; omega)
    · obtain ⟨d, hd⟩ := boolOf ((1 : Int) ≤ (s.size : Int) ∧ (s.size : Int) ≤ 8)
      have HD := Lib.hid hd
      clear hd
      go_wp2_with ((go_at_call 43; refine (l1In_any _ _ _ _ d HD).mono ?_; rintro e w1 ⟨rfl, rfl⟩))
      go_ret
      refine ⟨ret_bool ?_, rfl⟩
      have hp : ∀ j, j < s.size → TagL s j := fun j hj => HP.out j (by omega)
      cases d
      · exact (Hr.out.eq_false (fun hn => no_of HD.out ⟨by have := hn.2.1; omega, by have := hn.2.2; omega⟩)).symm
      · have h := yes_of HD.out
        exact (Hr.out.eq_true ⟨hp, by omega, by omega⟩).symm
theorem upper1_of (x : ByteArray) (b : UInt8) (w : World) (h : Hid (x = ⟨#[b]⟩)) :
    Calls Tryd.prog 71 #[.string x] w fun e w' => e = .returned (.string ⟨#[upB b]⟩) ∧ Ext w w' := by
  rw [h.out]; exact upper1_any b w
theorem upB_tag (b : UInt8) : (97 ≤ b.toNat ∧ b.toNat ≤ 122 ∨ 65 ≤ b.toNat ∧ b.toNat ≤ 90 ∨ 48 ≤ b.toNat ∧ b.toNat ≤ 57) ↔ (65 ≤ (upB b).toNat ∧ (upB b).toNat ≤ 90 ∨ 48 ≤ (upB b).toNat ∧ (upB b).toNat ≤ 57) := by
  have := b.toNat_lt
  unfold upB
  split
  · rename_i h
    have : (UInt8.ofNat (b.toNat - 32)).toNat = b.toNat - 32 := by simp; omega
    rw [this]; omega
  · omega
theorem extract_one (s : ByteArray) (k : Nat) (h : k < s.size) : s.extract k (k + 1) = ⟨#[s[k]]⟩ := by
  apply WideShapes.bytes_inj
  have h2 : s.data.toList.length = s.size := by simp
  have h3 : s.data.toList.drop k = s[k] :: s.data.toList.drop (k + 1) := by rw [List.drop_eq_getElem_cons (by rw [h2]; exact h)]; rfl
  simp [h3]
set_option maxRecDepth 4000 in
set_option maxHeartbeats 1000000 in
theorem implTagOk_any (s : ByteArray) (w : World) (hs : s.size ≤ 9223372036854775807) (r : Bool) (Hr : Hid (Tells r (TagP s))) :
    Calls Tryd.prog 57 #[.string s] w fun e w' => e = .returned (.bool r) ∧ Ext w w' := by
  go_enter Tryd.func57, Tryd.ntmps57
  go_wp2_with fail
  go_loopw [7] (fun i wr => ∃ k : Nat, k ≤ s.size ∧ i = .int .i64 k ∧ Hid (∀ j, j < k → TagL s j) ∧ Ext w wr) (fun i _ => s.size - (intOf i).toNat)
  case atStart => exact ⟨0, Nat.zero_le _, rfl, by simp [Hid], Below.refl _ _⟩
  case round =>
    obtain ⟨k, hk, rfl, HP, hb⟩ := hrel
    by_cases hlt : k < s.size
    · have hk1 : (k : Int) < (s.size : Int) := by omega
      have hk2 : (k : Int) + 1 ≤ (s.size : Int) := by omega
      have hadd : IntKind.i64.wrap ((k : Int) + 1) = (k : Int) + 1 := IntWalk.i64_in _ (by omega)
      have hex := extract_one s k hlt
      have HX := Lib.hid hex
      clear hex
      have HT : Hid (TagL s k ↔ ((65 : Int) ≤ ((upB s[k]).toNat : Int) ∧ ((upB s[k]).toNat : Int) ≤ 90) ∨ ((48 : Int) ≤ ((upB s[k]).toNat : Int) ∧ ((upB s[k]).toNat : Int) ≤ 57)) := by
        unfold TagL Hid
        rw [cat_eq s k hlt, upB_tag]
        omega
      rcases (by omega : ((upB s[k]).toNat : Int) < 48 ∨ (48 ≤ ((upB s[k]).toNat : Int) ∧ ((upB s[k]).toNat : Int) ≤ 57) ∨ (57 < ((upB s[k]).toNat : Int) ∧ ((upB s[k]).toNat : Int) < 65) ∨ (65 ≤ ((upB s[k]).toNat : Int) ∧ ((upB s[k]).toNat : Int) ≤ 90) ∨ 90 < ((upB s[k]).toNat : Int)) with h | h | h | h | h
      all_goals (first | have h3 : decide ((65 : Int) ≤ ((upB s[k]).toNat : Int)) = true := (by simp; omega) | have h3 : decide ((65 : Int) ≤ ((upB s[k]).toNat : Int)) = false := (by simp; omega))
      all_goals (first | have h4 : decide (((upB s[k]).toNat : Int) ≤ 90) = true := (by simp; omega) | have h4 : decide (((upB s[k]).toNat : Int) ≤ 90) = false := (by simp; omega))
      all_goals (first | have h5 : decide ((48 : Int) ≤ ((upB s[k]).toNat : Int)) = true := (by simp; omega) | have h5 : decide ((48 : Int) ≤ ((upB s[k]).toNat : Int)) = false := (by simp; omega))
      all_goals (first | have h6 : decide (((upB s[k]).toNat : Int) ≤ 57) = true := (by simp; omega) | have h6 : decide (((upB s[k]).toNat : Int) ≤ 57) = false := (by simp; omega))
      all_goals have hix : (((⟨#[upB s[k]]⟩ : ByteArray)[0]'(by exact Nat.one_pos)).toNat : Int) = ((upB s[k]).toNat : Int) := rfl
      all_goals have HH := Lib.hid h
      all_goals clear h
      all_goals go_wp2_with ((go_at_call 71; refine (upper1_of _ s[k] _ HX).mono ?_; rintro e w1 ⟨rfl, hb1⟩))
      all_goals first
        | go_ret
        | go_roundw
      all_goals have hT := HT.out
      all_goals have hH := HH.out
      all_goals first
        | (refine ⟨ret_no Hr.out (fun hn => by have := hT.1 (hn.1 _ hlt); omega), ?_⟩; exact bxt)
        | (refine ⟨k + 1, ?_, ?_, fun j hj => ?_, ?_⟩; omega; go_num; rcases Nat.lt_or_ge j k with h | h; exact HP.out j h; obtain rfl : j = k := (by omega); exact hT.2 (by omega); exact bxt)
        | (simp [intOf]; omega)
    · obtain ⟨d, hd⟩ := boolOf ((1 : Int) ≤ (s.size : Int) ∧ (s.size : Int) ≤ 8)
      have HD := Lib.hid hd
      clear hd
      go_wp2_with ((go_at_call 53; refine (within_any _ _ _ _ d HD).mono ?_; rintro e w1 ⟨rfl, rfl⟩))
      go_ret
      refine ⟨ret_bool ?_, hb⟩
      have hp : ∀ j, j < s.size → TagL s j := fun j hj => HP.out j (by omega)
      cases d
      · exact (Hr.out.eq_false (fun hn => no_of HD.out ⟨by have := hn.2.1; omega, by have := hn.2.2; omega⟩)).symm
      · have h := yes_of HD.out
        exact (Hr.out.eq_true ⟨hp, by omega, by omega⟩).symm
end Go.Proofs.YtadjlfcdjkikgaaDoor
