/-
  The reference's candidates: l14Flags and l14Kinds.
-/
import Derived.Test.YtidfhkdonhjgaaaGreatDoorWRfS
import Derived.Test.YtidfhkdonhjgaaaGreatDoorWPts
import Derived.Test.YtidfhkdonhjgaaaGreatDoorWUnh
namespace Go.Proofs.YtidfhkdonhjgaaaGreatDoor
open Go.RowKit
set_option linter.unusedVariables false
set_option linter.unusedSimpArgs false

/-- the data of texts -/
abbrev dat (ws : List ByteArray) : List (List UInt8) := ws.map (·.data.toList)
theorem dlen (b : ByteArray) : b.data.toList.length = b.size := by simp
theorem map_bs_dat (L : List (List UInt8)) : dat (L.map bs) = L := by
  unfold dat
  rw [List.map_map]
  conv => rhs; rw [← List.map_id L]
  exact List.map_congr_left (fun l _ => bs_data l)
theorem parts_size (c : UInt8) : ∀ (l acc : List UInt8), ∀ x ∈ partsL c acc l, x.length ≤ acc.length + l.length
  | [], acc, x, h => by simp only [partsL, List.mem_singleton] at h; subst h; simp
  | b :: t, acc, x, h => by
    unfold partsL at h
    split at h
    · rw [List.mem_cons] at h
      rcases h with rfl | h
      · omega
      · have := parts_size c t [] x h; simp at this ⊢; omega
    · have := parts_size c t (acc ++ [b]) x h; simp at this ⊢; omega
theorem specReadFlags_L (L : List (List UInt8)) (a : Option Addr) (c : Nat) (w : World) (R : Rd w a c 1 L.length ((L.map bs).flatMap strCells)) (hs : ∀ x ∈ L.map bs, x.size ≤ 1048576) :
    Calls Tryz.prog 96 #[.slice a L.length c] w fun e w' => ∃ b : Bool, e = .returned (.tuple #[.int .i64 (rfV L), .bool b]) ∧ Ext w w' := by
  have h := specReadFlags_any (L.map bs) a c w (by rw [List.length_map]; exact R) hs
  rw [List.length_map] at h
  refine h.mono fun e w' ⟨b, he, hb⟩ => ⟨b, ?_, hb⟩
  rw [he, show (L.map bs).map (fun x : ByteArray => x.data.toList) = L from map_bs_dat L]
theorem implReadFlags_L (L : List (List UInt8)) (a : Option Addr) (c : Nat) (w : World) (R : Rd w a c 1 L.length ((L.map bs).flatMap strCells)) (hs : ∀ x ∈ L.map bs, x.size ≤ 1048576) :
    Calls Tryz.prog 62 #[.slice a L.length c] w fun e w' => ∃ b : Bool, e = .returned (.tuple #[.int .i64 (rfV L), .bool b]) ∧ Ext w w' := by
  have h := implReadFlags_any (L.map bs) a c w (by rw [List.length_map]; exact R) hs
  rw [List.length_map] at h
  refine h.mono fun e w' ⟨b, he, hb⟩ => ⟨b, ?_, hb⟩
  rw [he, show (L.map bs).map (fun x : ByteArray => x.data.toList) = L from map_bs_dat L]
set_option maxRecDepth 100000 in
set_option maxHeartbeats 4000000 in
theorem l14Flags_any (ws : List ByteArray) (a : Option Addr) (c : Nat) (w : World) (R : Rd w a c 1 ws.length (ws.flatMap strCells)) (hl : (Lib.join (dat ws) [32]).length ≤ 1048576) (hn : ws.length ≤ 1048576) :
    Calls Tryz.prog 56 #[.slice a ws.length c] w fun e w' => e = .returned (.int .i64 (fl2 (dat ws))) ∧ Ext w w' := by
  obtain ⟨J, hJ⟩ : ∃ J, Lib.join (dat ws) [32] = J := ⟨_, rfl⟩
  have HJ := Lib.hid hJ
  rw [hJ] at hl
  have hf : fl2 (dat ws) = if J.length < 3 then 0 else rfV (wordsL ((J.take (J.length - 1)).drop 1)) := by unfold fl2; rw [hJ]
  have HF := Lib.hid hf
  have hsz : (bs J).size = J.length := bs_size J
  clear hJ hf
  go_enter Tryz.func56, Tryz.ntmps56
  go_wp2_with fail
  refine (specJoined_any ws ⟨#[32]⟩ a c _ R (by show (Lib.join (dat ws) [32]).length ≤ _; rw [HJ.out]; exact hl) hn).mono ?_
  rintro e w1 ⟨rfl, hb1⟩
  rw [show (Lib.join (List.map (fun x : ByteArray => x.data.toList) ws) (⟨#[32]⟩ : ByteArray).data.toList) = J from HJ.out]
  by_cases h3 : J.length < 3
  · have d : decide ((J.length : Int) < 3) = true := decide_eq_true (by omega)
    have HZ := Lib.hid (HF.out.trans (if_pos h3))
    clear h3
    go_wp2_with fail
    go_ret
    exact ⟨by rw [HZ.out]; rfl, hb1⟩
  · have d : decide ((J.length : Int) < 3) = false := decide_eq_false (by omega)
    have HZ := Lib.hid (HF.out.trans (if_neg h3))
    obtain ⟨p, hp⟩ : ∃ p, J.length = p + 1 := ⟨J.length - 1, by omega⟩
    rw [hp] at hsz d
    have HP := Lib.hid hp
    have hp2 : 2 ≤ p := by omega
    have hp3 : p ≤ 1048576 := by omega
    have w1' : IntKind.i64.wrap ((p : Int) + 1 - 1) = (p : Int) := by rw [IntWalk.i64_in _ (by omega)]; omega
    have w2' : IntKind.i64.wrap (p : Int) = (p : Int) := IntWalk.i64_in _ (by omega)
    have q1 : (1 : Int) ≤ (p : Int) := by omega
    have q2 : (p : Int) ≤ (p : Int) + 1 := by omega
    have HEX := Lib.hid (ext_bs (bs J) 1 p)
    clear h3 hp
    have hLs : ((bs J).extract 1 p).size ≤ 1048576 := by rw [HEX.out, bs_size]; simp; omega
    obtain ⟨L, hL⟩ : ∃ L, partsL 32 [] ((bs J).extract 1 p).data.toList = L := ⟨_, rfl⟩
    have HL := Lib.hid hL
    have HPS : Hid (∀ x ∈ L.map bs, x.size ≤ 1048576) := by
      intro x hx
      obtain ⟨y, hy, rfl⟩ := List.mem_map.1 hx
      rw [← hL] at hy
      have h1 := parts_size 32 _ _ y hy
      have h2 := dlen ((bs J).extract 1 p)
      rw [bs_size]
      simp only [List.length_nil] at h1
      omega
    have HLL : Hid (wordsL ((J.take (J.length - 1)).drop 1) = L) := by
      unfold Hid
      rw [← hL, HEX.out, bs_data, bs_data, HP.out]
      rfl
    clear hL
    go_wp2_with fail
    refine (specParts_any 32 ((bs J).extract 1 p) _ hLs L HL).mono ?_
    rintro e w2 ⟨g, q, rfl, ho, hb2⟩
    have HO := Lib.hid ho
    clear ho
    go_wp2_with fail
    refine (specReadFlags_L L g q _ (Rd.of_Own HO.out) HPS.out).mono ?_
    rintro e w3 ⟨b, rfl, hb3⟩
    go_wp2_with fail
    go_ret
    exact ⟨by rw [HZ.out, HLL.out]; rfl, bxt⟩
end Go.Proofs.YtidfhkdonhjgaaaGreatDoor
