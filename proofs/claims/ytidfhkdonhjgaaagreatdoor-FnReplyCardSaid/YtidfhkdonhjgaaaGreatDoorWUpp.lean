/-
  Letters of upper case: the program's Upper and the reference's.
-/
import Derived.Test.YtidfhkdonhjgaaaGreatDoorWGsP
import Derived.Test.YtidfhkdonhjgaaaGreatDoorWStr
namespace Go.Proofs.YtidfhkdonhjgaaaGreatDoor
open Go.RowKit
set_option linter.unusedVariables false
set_option linter.unusedSimpArgs false

/-- the first k letters are done -/
def upTo (l : List UInt8) (k : Nat) : List UInt8 := (l.take k).map upU ++ l.drop k
theorem upTo_zero (l : List UInt8) : upTo l 0 = l := by simp [upTo]
theorem upTo_all (l : List UInt8) : upTo l l.length = upW l := by simp [upTo, upW]
theorem upTo_len (l : List UInt8) (k : Nat) (hk : k ≤ l.length) : (upTo l k).length = l.length := by simp [upTo]; omega
theorem upTo_at {l : List UInt8} {k : Nat} (hk : k < l.length) : upTo l k = (l.take k).map upU ++ l[k] :: l.drop (k + 1) := by unfold upTo; rw [← List.drop_eq_getElem_cons hk]
theorem upTo_next {l : List UInt8} {k : Nat} (hk : k < l.length) : upTo l (k + 1) = (l.take k).map upU ++ upU l[k] :: l.drop (k + 1) := by
  unfold upTo
  rw [List.take_add_one, List.getElem?_eq_getElem hk, List.map_append]
  simp [Option.toList]
theorem at_put {w : World} {G : Nat} {xs zs : List Value} {y v : Value} (h : At w G 0 (xs ++ y :: zs)) : At (w.setCell ⟨G, xs.length, none⟩ v) G 0 (xs ++ v :: zs) := fun j u hu => by
  by_cases hj : j = xs.length
  · subst hj
    rw [List.getElem?_append_right (Nat.le_refl _), Nat.sub_self, List.getElem?_cons_zero] at hu
    injection hu with hu
    subst hu
    have h0 := h xs.length y (by rw [List.getElem?_append_right (Nat.le_refl _), Nat.sub_self, List.getElem?_cons_zero])
    rw [Nat.zero_add] at h0 ⊢
    exact World.cell?_setCell_same _ _ _ h0
  · rw [World.cell?_setCell_other _ _ _ _ (fun e => hj (by injection e with _ e _; omega))]
    refine h j u ?_
    rw [← hu]
    rcases Nat.lt_or_ge j xs.length with h1 | h1
    · rw [List.getElem?_append_left h1, List.getElem?_append_left h1]
    · obtain ⟨d, rfl⟩ : ∃ d, j = xs.length + (d + 1) := ⟨j - xs.length - 1, by omega⟩
      rw [List.getElem?_append_right (by omega), List.getElem?_append_right (by omega), Nat.add_sub_cancel_left, List.getElem?_cons_succ, List.getElem?_cons_succ]
theorem up_hit {w : World} {G : Nat} {l : List UInt8} {k : Nat} (hk : k < l.length) {x : Int} (hx : ((upU l[k]).toNat : Int) = x) (h : At w G 0 (bv (upTo l k))) : At (w.setCell ⟨G, k, none⟩ (.int .u8 x)) G 0 (bv (upTo l (k + 1))) := by
  rw [upTo_at hk, bv_app] at h
  have h2 := at_put (v := .int .u8 x) h
  have e : (bv ((l.take k).map upU)).length = k := by simp [bv]; omega
  rw [e] at h2
  rw [upTo_next hk, bv_app, ← hx]
  rw [← hx] at h2
  exact h2
theorem up_miss {l : List UInt8} {k : Nat} (hk : k < l.length) (h : upU l[k] = l[k]) : upTo l (k + 1) = upTo l k := by rw [upTo_next hk, upTo_at hk, h]
theorem up_cell {w : World} {G : Nat} {l : List UInt8} {k : Nat} (hk : k < l.length) (h : At w G 0 (bv (upTo l k))) : w.cell? ⟨G, k, none⟩ = some (.int .u8 (l[k].toNat : Int)) := by
  have h2 := h k (.int .u8 (l[k].toNat : Int)) (by
    rw [upTo_at hk, bv_app]
    have e : (bv ((l.take k).map upU)).length = k := by simp [bv]; omega
    rw [List.getElem?_append_right (by omega), e, Nat.sub_self]
    rfl)
  rwa [Nat.zero_add] at h2
def UpRel (l : List UInt8) (W : World) (G : Nat) (i : Value) (wr : World) : Prop :=
  ∃ k : Nat, k ≤ l.length ∧ i = .int .i64 k ∧ Hid (At wr G 0 (bv (upTo l k))) ∧ Hid (∀ j, j < l.length → wr.frozen? ⟨G, j, none⟩ = false) ∧ Below G W wr ∧ G < wr.heap.size
set_option maxRecDepth 100000 in
set_option maxHeartbeats 4000000 in
theorem implUpper_any (s : ByteArray) (w : World) (hs : s.size ≤ 1048576) :
    Calls Tryz.prog 86 #[.string s] w fun e w' => e = .returned (.string (bs (upW s.data.toList))) ∧ Ext w w' := by
  have hU : (undef : Value) = .tuple #[] := rfl
  have hk := Lib.run_convert_string_bytes w 9 28 5 s Tryz.underlying9 Tryz.underlying28 Tryz.underlying5
  have hb := Lib.bytesWorld_below w 5 s
  have hz := Lib.bytesWorld_size w 5 s
  have hsz : s.data.toList.length = s.size := by simp
  have hat : At (Lib.bytesWorld w 5 s) w.heap.size 0 (bv s.data.toList) := fun j u hu => by
    have hj : j < s.data.toList.length := by (have := (List.getElem?_eq_some_iff.1 hu).1; rw [bv_len] at this; exact this)
    rw [Nat.zero_add, Lib.bytesWorld_cell w 5 s j (by omega)]
    rw [← hu]
    simp only [bv, List.getElem?_map, List.getElem?_eq_getElem hj, List.getD_eq_getElem?_getD]
    rfl
  have hfz : ∀ j, j < s.data.toList.length → (Lib.bytesWorld w 5 s).frozen? ⟨w.heap.size, j, none⟩ = false := fun j hj => by
    simp [World.frozen?, Lib.bytesWorld_at_new, Lib.bytesCells]; intros; omega
  generalize Lib.bytesWorld w 5 s = w1 at hk hb hat hz hfz
  generalize grownCap w s.size 0 5 = cap at hk
  obtain ⟨l, hl⟩ : ∃ l, s.data.toList = l := ⟨_, rfl⟩
  rw [hl] at hat hfz hsz ⊢
  have HAT := Lib.hid hat
  have HFZ := Lib.hid hfz
  have HSZ := Lib.hid hsz
  have hG : w.heap.size < w1.heap.size := by omega
  have hll : l.length ≤ 1048576 := by omega
  rw [← HSZ.out] at hk
  clear hat hfz hl hz hsz
  go_enter Tryz.func86, Tryz.ntmps86
  go_wp2_with fail
  go_loopw [4, 5, 10] (fun _ _ i wr => UpRel l w w.heap.size i wr) (fun _ _ i _ => l.length - (intOf i).toNat)
  case atStart => exact ⟨0, Nat.zero_le _, rfl, by (rw [upTo_zero]; exact HAT), HFZ, hb, hG⟩
  case round =>
    obtain ⟨k, hk, rfl, HA, HF, hbr, hGr⟩ := hrel
    by_cases hlt : k < l.length
    · have k1 : (k : Int) < (l.length : Int) := by omega
      have k3 : (0 : Int) ≤ (k : Int) := by omega
      have k5 : decide ((k : Int) < (l.length : Int)) = true := decide_eq_true k1
      have hc := up_cell hlt HA.out
      have hf := HF.out k hlt
      have hup : upU l[k] = if 97 ≤ l[k].toNat ∧ l[k].toNat ≤ 122 then UInt8.ofNat (l[k].toNat - 32) else l[k] := rfl
      have hx8 : l[k].toNat < 256 := l[k].toNat_lt
      have hhit := fun (x : Int) (hx : ((upU l[k]).toNat : Int) = x) => up_hit hlt hx HA.out
      have hmiss := up_miss (l := l) (k := k) hlt
      obtain ⟨y, hy⟩ : ∃ y, l[k] = y := ⟨_, rfl⟩
      rw [hy] at hc hup hx8 hmiss
      simp only [hy] at hhit
      have hyz : ((UInt8.ofNat (y.toNat - 32)).toNat : Int) = ((y.toNat - 32 : Nat) : Int) := by rw [UInt8.toNat_ofNat']; omega
      obtain ⟨x, hx⟩ : ∃ x : Nat, y.toNat = x := ⟨_, rfl⟩
      rw [hx] at hc hup hx8 hyz
      have HH := Lib.hid hhit
      have HMS := Lib.hid hmiss
      have HUP := Lib.hid hup
      have HYZ := Lib.hid hyz
      have HXX := Lib.hid hx
      clear hhit hmiss hup hyz hy hx
      by_cases hin : 97 ≤ x ∧ x ≤ 122
      · have d1 : decide ((97 : Int) ≤ (x : Int)) = true := decide_eq_true (by omega)
        have d2 : decide ((x : Int) ≤ 122) = true := decide_eq_true (by omega)
        have m0 : IntKind.u8.wrap ((x : Int) - 97) = (x : Int) - 97 := IntWalk.u8_in _ (by omega)
        have m1 : IntKind.u8.wrap ((x : Int) - 97 + 65) = (x : Int) - 97 + 65 := IntWalk.u8_in _ (by omega)
        have m2 : IntKind.u8.wrap ((x : Int) - 32) = (x : Int) - 32 := IntWalk.u8_in _ (by omega)
        have HN : Hid (UpRel l w w.heap.size (.int .i64 ((k : Int) + 1)) (wr.setCell ⟨w.heap.size, k, none⟩ (.int .u8 ((x : Int) - 97 + 65)))) := by
          refine ⟨k + 1, by omega, by simp, HH.out _ ?_, fun j hj => ?_, hbr.setCell (Nat.le_refl _) _, by simpa using hGr⟩
          · rw [HUP.out, if_pos hin, HYZ.out]; omega
          · rw [World.frozen?_setCell]; exact HF.out j hj
        clear hin
        go_wp2_with fail
        go_roundw
        case rel => exact HN.out
        case measure => simp [intOf]; omega
      · have HN : Hid (UpRel l w w.heap.size (.int .i64 ((k : Int) + 1)) wr) := by
          refine ⟨k + 1, by omega, by simp, ?_, HF, hbr, hGr⟩
          unfold Hid
          rw [HMS.out (by rw [HUP.out, if_neg hin])]
          exact HA.out
        rcases Nat.lt_or_ge x 97 with h9 | h9
        · have d1 : decide ((97 : Int) ≤ (x : Int)) = false := decide_eq_false (by omega)
          clear hin
          go_wp2_with fail
          go_roundw
          case rel => exact HN.out
          case measure => simp [intOf]; omega
        · have d1 : decide ((97 : Int) ≤ (x : Int)) = true := decide_eq_true (by omega)
          have d2 : decide ((x : Int) ≤ 122) = false := decide_eq_false (by omega)
          clear hin
          go_wp2_with fail
          go_roundw
          case rel => exact HN.out
          case measure => simp [intOf]; omega
    · have k5 : decide ((k : Int) < (l.length : Int)) = false := decide_eq_false (by omega)
      obtain rfl : k = l.length := by omega
      have ha := HA.out
      rw [upTo_all] at ha
      have hcv := conv_at _ 28 9 5 w.heap.size 0 cap (upW l) Tryz.underlying28 Tryz.underlying5 Tryz.underlying9 ha
      rw [show (upW l).length = l.length by simp [upW]] at hcv
      clear ha
      go_wp2_with fail
      go_ret
      exact ⟨rfl, hbr⟩
set_option maxRecDepth 100000 in
set_option maxHeartbeats 4000000 in
theorem specUpper_any (s : ByteArray) (w : World) (hs : s.size ≤ 1048576) :
    Calls Tryz.prog 114 #[.string s] w fun e w' => e = .returned (.string (bs (upW s.data.toList))) ∧ Ext w w' := by
  have hU : (undef : Value) = .tuple #[] := rfl
  have hk := Lib.run_convert_string_bytes w 9 28 5 s Tryz.underlying9 Tryz.underlying28 Tryz.underlying5
  have hb := Lib.bytesWorld_below w 5 s
  have hz := Lib.bytesWorld_size w 5 s
  have hsz : s.data.toList.length = s.size := by simp
  have hat : At (Lib.bytesWorld w 5 s) w.heap.size 0 (bv s.data.toList) := fun j u hu => by
    have hj : j < s.data.toList.length := by (have := (List.getElem?_eq_some_iff.1 hu).1; rw [bv_len] at this; exact this)
    rw [Nat.zero_add, Lib.bytesWorld_cell w 5 s j (by omega)]
    rw [← hu]
    simp only [bv, List.getElem?_map, List.getElem?_eq_getElem hj, List.getD_eq_getElem?_getD]
    rfl
  have hfz : ∀ j, j < s.data.toList.length → (Lib.bytesWorld w 5 s).frozen? ⟨w.heap.size, j, none⟩ = false := fun j hj => by
    simp [World.frozen?, Lib.bytesWorld_at_new, Lib.bytesCells]; intros; omega
  generalize Lib.bytesWorld w 5 s = w1 at hk hb hat hz hfz
  generalize grownCap w s.size 0 5 = cap at hk
  obtain ⟨l, hl⟩ : ∃ l, s.data.toList = l := ⟨_, rfl⟩
  rw [hl] at hat hfz hsz ⊢
  have HAT := Lib.hid hat
  have HFZ := Lib.hid hfz
  have HSZ := Lib.hid hsz
  have hG : w.heap.size < w1.heap.size := by omega
  have hll : l.length ≤ 1048576 := by omega
  rw [← HSZ.out] at hk
  clear hat hfz hl hz hsz
  go_enter Tryz.func114, Tryz.ntmps114
  go_wp2_with fail
  go_loopw [4] (fun i wr => UpRel l w w.heap.size i wr) (fun i _ => l.length - (intOf i).toNat)
  case atStart => exact ⟨0, Nat.zero_le _, rfl, by (rw [upTo_zero]; exact HAT), HFZ, hb, hG⟩
  case round =>
    obtain ⟨k, hk, rfl, HA, HF, hbr, hGr⟩ := hrel
    by_cases hlt : k < l.length
    · have k1 : (k : Int) < (l.length : Int) := by omega
      have k3 : (0 : Int) ≤ (k : Int) := by omega
      have k5 : decide ((k : Int) < (l.length : Int)) = true := decide_eq_true k1
      have hc := up_cell hlt HA.out
      have hf := HF.out k hlt
      have hup : upU l[k] = if 97 ≤ l[k].toNat ∧ l[k].toNat ≤ 122 then UInt8.ofNat (l[k].toNat - 32) else l[k] := rfl
      have hx8 : l[k].toNat < 256 := l[k].toNat_lt
      have hhit := fun (x : Int) (hx : ((upU l[k]).toNat : Int) = x) => up_hit hlt hx HA.out
      have hmiss := up_miss (l := l) (k := k) hlt
      obtain ⟨y, hy⟩ : ∃ y, l[k] = y := ⟨_, rfl⟩
      rw [hy] at hc hup hx8 hmiss
      simp only [hy] at hhit
      have hyz : ((UInt8.ofNat (y.toNat - 32)).toNat : Int) = ((y.toNat - 32 : Nat) : Int) := by rw [UInt8.toNat_ofNat']; omega
      obtain ⟨x, hx⟩ : ∃ x : Nat, y.toNat = x := ⟨_, rfl⟩
      rw [hx] at hc hup hx8 hyz
      have HH := Lib.hid hhit
      have HMS := Lib.hid hmiss
      have HUP := Lib.hid hup
      have HYZ := Lib.hid hyz
      have HXX := Lib.hid hx
      clear hhit hmiss hup hyz hy hx
      by_cases hin : 97 ≤ x ∧ x ≤ 122
      · have d1 : decide ((97 : Int) ≤ (x : Int)) = true := decide_eq_true (by omega)
        have d2 : decide ((x : Int) ≤ 122) = true := decide_eq_true (by omega)
        have m0 : IntKind.u8.wrap ((x : Int) - 97) = (x : Int) - 97 := IntWalk.u8_in _ (by omega)
        have m1 : IntKind.u8.wrap ((x : Int) - 97 + 65) = (x : Int) - 97 + 65 := IntWalk.u8_in _ (by omega)
        have m2 : IntKind.u8.wrap ((x : Int) - 32) = (x : Int) - 32 := IntWalk.u8_in _ (by omega)
        have HN : Hid (UpRel l w w.heap.size (.int .i64 ((k : Int) + 1)) (wr.setCell ⟨w.heap.size, k, none⟩ (.int .u8 ((x : Int) - 32)))) := by
          refine ⟨k + 1, by omega, by simp, HH.out _ ?_, fun j hj => ?_, hbr.setCell (Nat.le_refl _) _, by simpa using hGr⟩
          · rw [HUP.out, if_pos hin, HYZ.out]; omega
          · rw [World.frozen?_setCell]; exact HF.out j hj
        clear hin
        go_wp2_with fail
        go_roundw
        case rel => exact HN.out
        case measure => simp [intOf]; omega
      · have HN : Hid (UpRel l w w.heap.size (.int .i64 ((k : Int) + 1)) wr) := by
          refine ⟨k + 1, by omega, by simp, ?_, HF, hbr, hGr⟩
          unfold Hid
          rw [HMS.out (by rw [HUP.out, if_neg hin])]
          exact HA.out
        rcases Nat.lt_or_ge x 97 with h9 | h9
        · have d1 : decide ((97 : Int) ≤ (x : Int)) = false := decide_eq_false (by omega)
          clear hin
          go_wp2_with fail
          go_roundw
          case rel => exact HN.out
          case measure => simp [intOf]; omega
        · have d1 : decide ((97 : Int) ≤ (x : Int)) = true := decide_eq_true (by omega)
          have d2 : decide ((x : Int) ≤ 122) = false := decide_eq_false (by omega)
          clear hin
          go_wp2_with fail
          go_roundw
          case rel => exact HN.out
          case measure => simp [intOf]; omega
    · have k5 : decide ((k : Int) < (l.length : Int)) = false := decide_eq_false (by omega)
      obtain rfl : k = l.length := by omega
      have ha := HA.out
      rw [upTo_all] at ha
      have hcv := conv_at _ 28 9 5 w.heap.size 0 cap (upW l) Tryz.underlying28 Tryz.underlying5 Tryz.underlying9 ha
      rw [show (upW l).length = l.length by simp [upW]] at hcv
      clear ha
      go_wp2_with fail
      go_ret
      exact ⟨rfl, hbr⟩
end Go.Proofs.YtidfhkdonhjgaaaGreatDoor
