/-
  The reference's candidates: l14Kinds.
-/
import Derived.Test.YtidfhkdonhjgaaaGreatDoorWKnd
import Derived.Test.YtidfhkdonhjgaaaGreatDoorFamReply
namespace Go.Proofs.YtidfhkdonhjgaaaGreatDoor
open Go.RowKit
set_option linter.unusedVariables false
set_option linter.unusedSimpArgs false

def kindsL (x1 : ByteArray) (n : Nat) (a c d f : Int) (t : ByteArray) : List DReply :=
  [⟨9, 0, 0, 0, ⟨#[]⟩, ⟨#[]⟩⟩, ⟨10, 0, 0, 0, ⟨#[]⟩, ⟨#[]⟩⟩, ⟨11, 0, 0, 0, ⟨#[]⟩, ⟨#[]⟩⟩, ⟨16, 0, 0, 0, ⟨#[]⟩, ⟨#[]⟩⟩, ⟨1, a, 0, 0, ⟨#[]⟩, ⟨#[]⟩⟩, ⟨2, a, 0, 0, ⟨#[]⟩, ⟨#[]⟩⟩, ⟨6, 0, 0, 0, x1, ⟨#[]⟩⟩, ⟨7, 0, 0, 0, x1, ⟨#[]⟩⟩] ++ if 3 < n then [⟨4, a, 0, 0, ⟨#[]⟩, t⟩, ⟨8, c, 0, 0, x1, ⟨#[]⟩⟩, ⟨3, a, c, f, ⟨#[]⟩, ⟨#[]⟩⟩, ⟨5, c, d, 0, x1, ⟨#[]⟩⟩] else []
def KdPost (xs : List ByteArray) (w : World) (e : Ending) (w' : World) : Prop :=
  ∃ (a c d f : Int) (t : ByteArray) (L : List DReply) (g : Option Addr) (q : Nat), L = kindsL (xs.getD 1 ⟨#[]⟩) xs.length a c d f t ∧ e = .returned (.slice g L.length q) ∧ Own w' w.heap.size 23 6 (.slice g L.length q) L.length (L.flatMap DReply.cells) ∧ Ext w w' ∧ t.size ≤ 1048576 ∧
    NumIs (xs.getD 0 ⟨#[]⟩).data.toList a ∧ (3 < xs.length → NumIs (xs.getD 2 ⟨#[]⟩).data.toList c ∧ NumIs (xs.getD 3 ⟨#[]⟩).data.toList d ∧ TxIs (xs.getD 2 ⟨#[]⟩).data.toList t ∧ f = fl2 (dat ((xs.take (xs.length - 1)).drop 3)))
def ks3 : List DReply := [⟨9, 0, 0, 0, ⟨#[]⟩, ⟨#[]⟩⟩, ⟨10, 0, 0, 0, ⟨#[]⟩, ⟨#[]⟩⟩, ⟨11, 0, 0, 0, ⟨#[]⟩, ⟨#[]⟩⟩]
theorem ks3_next (j : Nat) (hj : j < 3) : ks3.take (j + 1) = ks3.take j ++ [⟨(9 + j : Nat), 0, 0, 0, ⟨#[]⟩, ⟨#[]⟩⟩] := by
  have : j = 0 ∨ j = 1 ∨ j = 2 := by omega
  rcases this with rfl | rfl | rfl <;> rfl
def K3Rel (W : World) (B : Nat) (v3 v8 : Value) (wr : World) : Prop :=
  ∃ (j : Nat) (g : Option Addr) (q : Nat), j ≤ 3 ∧ v8 = .int .i64 ((9 + j : Nat) : Int) ∧ v3 = .slice g j q ∧ Hid (Own wr B 23 6 (.slice g j q) j ((ks3.take j).flatMap DReply.cells)) ∧ Below B W wr
theorem getD_at {xs : List ByteArray} (i : Nat) (hi : i < xs.length) : xs[i] = xs.getD i ⟨#[]⟩ := by simp [List.getD, hi]
set_option maxRecDepth 100000 in
set_option maxHeartbeats 8000000 in
theorem l14Kinds_any (xs : List ByteArray) (a0 : Option Addr) (c0 : Nat) (w : World) (R : Rd w a0 c0 1 xs.length (xs.flatMap strCells)) (hn2 : 2 ≤ xs.length) (hn : xs.length ≤ 1048576) (hs : ∀ x ∈ xs, x.size ≤ 1048576) (hj : (Lib.join (dat ((xs.take (xs.length - 1)).drop 3)) [32]).length ≤ 1048576) :
    Calls Tryz.prog 27 #[.slice a0 xs.length c0] w (KdPost xs w) := by
  obtain ⟨i0, hi, hz0, hz1, hz2⟩ := info_parts info_Reply
  obtain ⟨b, o, rfl, hb0, hat⟩ := R.ptr (by omega)
  have HR := Lib.hid R
  have HJ := Lib.hid hj
  have x0w : w.cell? ⟨b, o, none⟩ = some (.string (xs.getD 0 ⟨#[]⟩)) := by have h := strCells_at hat 0 (by omega); rw [Nat.add_zero, getD_at 0 (by omega)] at h; exact h
  have x1w : w.cell? ⟨b, o + 1, none⟩ = some (.string (xs.getD 1 ⟨#[]⟩)) := by have h := strCells_at hat 1 (by omega); rw [getD_at 1 (by omega)] at h; exact h
  have hx2 : 3 < xs.length → w.cell? ⟨b, o + 2, none⟩ = some (.string (xs.getD 2 ⟨#[]⟩)) ∧ w.cell? ⟨b, o + 3, none⟩ = some (.string (xs.getD 3 ⟨#[]⟩)) := fun h4 =>
    ⟨by have h := strCells_at hat 2 (by omega); rw [getD_at 2 (by omega)] at h; exact h, by have h := strCells_at hat 3 (by omega); rw [getD_at 3 (by omega)] at h; exact h⟩
  have hs2 : (xs.getD 2 ⟨#[]⟩).size ≤ 1048576 := by
    rcases Nat.lt_or_ge 2 xs.length with h | h
    · rw [← getD_at 2 h]; exact hs _ (List.getElem_mem h)
    · rw [List.getD_eq_getElem?_getD, List.getElem?_eq_none h]; decide
  have HX0 := Lib.hid x0w
  have HX1 := Lib.hid x1w
  have HX2 := Lib.hid hx2
  obtain ⟨y0, hy0⟩ : ∃ y, xs.getD 0 ⟨#[]⟩ = y := ⟨_, rfl⟩
  obtain ⟨y1, hy1⟩ : ∃ y, xs.getD 1 ⟨#[]⟩ = y := ⟨_, rfl⟩
  obtain ⟨y2, hy2⟩ : ∃ y, xs.getD 2 ⟨#[]⟩ = y := ⟨_, rfl⟩
  obtain ⟨y3, hy3⟩ : ∃ y, xs.getD 3 ⟨#[]⟩ = y := ⟨_, rfl⟩
  rw [hy0] at HX0
  rw [hy1] at HX1
  rw [hy2, hy3] at HX2
  rw [hy2] at hs2
  have HY0 := Lib.hid hy0
  have HY1 := Lib.hid hy1
  have HY2 := Lib.hid hy2
  have HY3 := Lib.hid hy3
  have l0 : (0 : Int) < (xs.length : Int) := by omega
  have l1 : (1 : Int) < (xs.length : Int) := by omega
  clear R hj hat x0w x1w hx2 hs hy0 hy1 hy2 hy3
  go_enter Tryz.func27, Tryz.ntmps27
  have z0 := HX0.out
  go_wp2_with fail
  refine (specNumber_any y0 _).mono ?_
  rintro e w1 ⟨a, ba, rfl, ha, har, hb1⟩
  have HA := Lib.hid ha
  have hE1 : Ext w w1 := Below.ext (show Ext w _ from bxt) hb1
  have z1 := (hE1.cell (p := ⟨b, o + 1, none⟩) hb0).trans HX1.out
  clear ha z0
  go_wp2_with fail
  refine (specNumber_any y1 _).mono ?_
  rintro e w2 ⟨a', ba', rfl, _, _, hb2⟩
  have hE2 : Ext w w2 := Below.ext hE1 hb2
  have hs20 := hE2.size
  clear z1
  go_wp2_with fail
  go_loopw [3, 8] (K3Rel w w.heap.size) (fun _ i _ => 12 - (intOf i).toNat)
  case atStart => exact ⟨0, some ⟨w.heap.size, 0, none⟩, 0, by omega, rfl, rfl, Own.none0 _, hE2⟩
  case round =>
    obtain ⟨j, g, q, hj, rfl, rfl, HO, hb⟩ := hrel
    have hbs := hb.size
    by_cases hlt : j < 3
    · have k5 : decide (((9 + j : Nat) : Int) ≤ 11) = true := decide_eq_true (by omega)
      obtain ⟨z, hz⟩ : ∃ z : Int, ((9 + j : Nat) : Int) = z := ⟨_, rfl⟩
      rw [hz] at k5 ⊢
      have HZ := Lib.hid hz
      have hzb : 9 ≤ z ∧ z ≤ 11 := by omega
      have m1 : IntKind.i64.wrap (z + 1) = z + 1 := IntWalk.i64_in _ (by omega)
      clear hz
      go_wp2_with ((at_builtin; refine wpList_appL (B := w.heap.size) (v := .slice g j q) rfl _ _ 34 rfl 23 i0 _ _ Tryz.underlying34 hi hz0 hz1 hz2 rfl (by decide) rfl (HO.out.ext bxt) (some ⟨wr.heap.size, 0, none⟩) 1 1 [.int .i64 z, .int .i64 0, .int .i64 0, .int .i64 0, .string ⟨#[]⟩, .string ⟨#[]⟩] rfl (Rd.lit wr #[.int .i64 z, .int .i64 0, .int .i64 0, .int .i64 0, .string ⟨#[]⟩, .string ⟨#[]⟩] 23 1 6 wr.heap.size rfl rfl (by omega)) (by simp [Value.oneCell']) (by omega) (by omega) (by simp; omega) ?_))
      intro g2 q2 w3 hown hg hwl
      have hb3 : Below w.heap.size w w3 := Below.grown (Below.ext hb (show Ext wr _ from bxt)) hg (by simp; omega) (fun x hx => (HO.out.lt x hx).1)
      have HN : Hid (K3Rel w w.heap.size (.slice g2 (j + 1) q2) (.int .i64 (z + 1)) w3) := by
        refine ⟨j + 1, g2, q2, by omega, by rw [← HZ.out]; congr 1, rfl, ?_, hb3⟩
        unfold Hid
        rw [ks3_next j hlt, List.flatMap_append, HZ.out]
        exact hown
      clear hown hg hwl
      go_wp2_with fail
      go_roundw
      case rel => exact HN.out
      case measure => (have := HZ.out; simp [intOf]; omega)
    · obtain rfl : j = 3 := by omega
      have z1 := (hb.cell (p := ⟨b, o + 1, none⟩) hb0).trans HX1.out
      rw [show ((9 + 3 : Nat) : Int) = 12 from rfl]
      go_wp2_with fail
      first
        | go_region_law (refine step_app (B := w.heap.size) (n := 3) (xs := (ks3.take 3).flatMap DReply.cells) (s := 6) (v := .slice g 3 q) rfl (.tmp 39) (.tmp 53) 34 rfl 23 i0 _ _ Tryz.underlying34 hi hz0 hz1 hz2 rfl (by decide) (by simp [Act.eval, Act.put]) (by repeat' (first | with_reducible exact HO.out | with_reducible refine Own.alloc1 ?_ _ | with_reducible refine Own.drew1 ?_ | with_reducible refine Own.drewN1 ?_)) (some ⟨wr.heap.size, 0, none⟩) 5 5 [.int .i64 16, .int .i64 0, .int .i64 0, .int .i64 0, .string ⟨#[]⟩, .string ⟨#[]⟩, .int .i64 1, .int .i64 a, .int .i64 0, .int .i64 0, .string ⟨#[]⟩, .string ⟨#[]⟩, .int .i64 2, .int .i64 a, .int .i64 0, .int .i64 0, .string ⟨#[]⟩, .string ⟨#[]⟩, .int .i64 6, .int .i64 0, .int .i64 0, .int .i64 0, .string y1, .string ⟨#[]⟩, .int .i64 7, .int .i64 0, .int .i64 0, .int .i64 0, .string y1, .string ⟨#[]⟩] (by simp [Act.eval, Act.put]) (by first | exact Rd.lit wr.drew #[.int .i64 16, .int .i64 0, .int .i64 0, .int .i64 0, .string ⟨#[]⟩, .string ⟨#[]⟩, .int .i64 1, .int .i64 a, .int .i64 0, .int .i64 0, .string ⟨#[]⟩, .string ⟨#[]⟩, .int .i64 2, .int .i64 a, .int .i64 0, .int .i64 0, .string ⟨#[]⟩, .string ⟨#[]⟩, .int .i64 6, .int .i64 0, .int .i64 0, .int .i64 0, .string y1, .string ⟨#[]⟩, .int .i64 7, .int .i64 0, .int .i64 0, .int .i64 0, .string y1, .string ⟨#[]⟩] 23 5 6 wr.heap.size rfl rfl (by omega) | exact Rd.lit wr #[.int .i64 16, .int .i64 0, .int .i64 0, .int .i64 0, .string ⟨#[]⟩, .string ⟨#[]⟩, .int .i64 1, .int .i64 a, .int .i64 0, .int .i64 0, .string ⟨#[]⟩, .string ⟨#[]⟩, .int .i64 2, .int .i64 a, .int .i64 0, .int .i64 0, .string ⟨#[]⟩, .string ⟨#[]⟩, .int .i64 6, .int .i64 0, .int .i64 0, .int .i64 0, .string y1, .string ⟨#[]⟩, .int .i64 7, .int .i64 0, .int .i64 0, .int .i64 0, .string y1, .string ⟨#[]⟩] 23 5 6 wr.heap.size rfl rfl (by omega) | exact Rd.lit (wr.drewN 2) #[.int .i64 16, .int .i64 0, .int .i64 0, .int .i64 0, .string ⟨#[]⟩, .string ⟨#[]⟩, .int .i64 1, .int .i64 a, .int .i64 0, .int .i64 0, .string ⟨#[]⟩, .string ⟨#[]⟩, .int .i64 2, .int .i64 a, .int .i64 0, .int .i64 0, .string ⟨#[]⟩, .string ⟨#[]⟩, .int .i64 6, .int .i64 0, .int .i64 0, .int .i64 0, .string y1, .string ⟨#[]⟩, .int .i64 7, .int .i64 0, .int .i64 0, .int .i64 0, .string y1, .string ⟨#[]⟩] 23 5 6 wr.heap.size rfl rfl (by omega)) (by simp [Value.oneCell']) (by omega) (by decide) (by simp; omega) ?_; intro g2 q2 w4 hown hg; have hb4 : Below w.heap.size w w4 := below_foot (B := w.heap.size) (Below.extB hb (show Ext wr _ from bxt) hbs) (show Own _ w.heap.size 23 6 (.slice g 3 q) 3 ((ks3.take 3).flatMap DReply.cells) from (by repeat' (first | with_reducible exact HO.out | with_reducible refine Own.alloc1 ?_ _ | with_reducible refine Own.drew1 ?_ | with_reducible refine Own.drewN1 ?_))) (Nat.le_refl _) (by simp; omega) hg; have H4 := Lib.hid hown; clear hown hg)
        | fail
      all_goals
        have hb4s := hb4.size
        have HO8 : Hid (Own w4 w.heap.size 23 6 (.slice g2 8 q2) 8 ((kindsL y1 0 a 0 0 0 ⟨#[]⟩).flatMap DReply.cells)) := H4
        have hn4 : w4.heap.size = w4.heap.size := rfl
        clear H4 hn4
        by_cases h4 : 3 < xs.length
        · have d4 : decide ((3 : Int) < (xs.length : Int)) = true := decide_eq_true (by omega)
          have HL : Hid (∀ c d f t, kindsL y1 xs.length a c d f t = kindsL y1 0 a 0 0 0 ⟨#[]⟩ ++ [⟨4, a, 0, 0, ⟨#[]⟩, t⟩, ⟨8, c, 0, 0, y1, ⟨#[]⟩⟩, ⟨3, a, c, f, ⟨#[]⟩, ⟨#[]⟩⟩, ⟨5, c, d, 0, y1, ⟨#[]⟩⟩]) := fun c d f t => by
            unfold kindsL; rw [if_pos h4, if_neg (by omega)]; rfl
          have l2 : (2 : Int) < (xs.length : Int) := by omega
          have l3 : (3 : Int) < (xs.length : Int) := by omega
          obtain ⟨p, hp⟩ : ∃ p, xs.length = p + 1 := ⟨xs.length - 1, by omega⟩
          have hnc : xs.length ≤ c0 := HR.out.nc
          have HP := Lib.hid hp
          have HX := Lib.hid (HX2.out h4)
          have z2 := (hb4.cell (p := ⟨b, o + 2, none⟩) hb0).trans HX.out.1
          clear h4 hp hnc
          go_wp2_with fail
          refine (specNumber_any y2 _).mono ?_
          rintro e w5 ⟨c, bc, rfl, hc, hcr, hb5⟩
          have HC := Lib.hid hc
          have hB5 : Below w.heap.size w w5 := Below.ext hb4 hb5
          have z2 := (hB5.cell (p := ⟨b, o + 2, none⟩) hb0).trans HX.out.1
          clear hc
          go_wp2_with fail
          refine (specUnhex_any y2 _ hs2).mono ?_
          rintro e w6 ⟨t, bt, rfl, ht, hts, hb6⟩
          have HT := Lib.hid ht
          have hB6 : Below w.heap.size w w6 := Below.ext hB5 hb6
          have hB6s := hB6.size
          have z1 := (hB6.cell (p := ⟨b, o + 1, none⟩) hb0).trans HX1.out
          have HO6 := Lib.hid ((HO8.out.ext hb5).ext hb6)
          clear ht z2
          go_wp2_with ((at_builtin; refine wpList_appL (B := w.heap.size) (v := .slice g2 8 q2) rfl _ _ 34 rfl 23 i0 _ _ Tryz.underlying34 hi hz0 hz1 hz2 rfl (by decide) rfl (HO6.out.ext bxt) (some ⟨w6.heap.size, 0, none⟩) 2 2 [.int .i64 4, .int .i64 a, .int .i64 0, .int .i64 0, .string ⟨#[]⟩, .string t, .int .i64 8, .int .i64 c, .int .i64 0, .int .i64 0, .string y1, .string ⟨#[]⟩] rfl (Rd.lit w6 #[.int .i64 4, .int .i64 a, .int .i64 0, .int .i64 0, .string ⟨#[]⟩, .string t, .int .i64 8, .int .i64 c, .int .i64 0, .int .i64 0, .string y1, .string ⟨#[]⟩] 23 2 6 w6.heap.size rfl rfl (by omega)) (by simp [Value.oneCell']) (by omega) (by omega) (by simp; omega) ?_))
          intro g3 q3 w7 hown hg hwl
          have hb7 : Below w.heap.size w w7 := Below.grown (Below.ext hB6 (show Ext w6 _ from bxt)) hg (by simp; omega) (fun x hx => (HO6.out.lt x hx).1)
          have HO7 : Hid (Own w7 w.heap.size 23 6 (.slice g3 10 q3) 10 ((kindsL y1 0 a 0 0 0 ⟨#[]⟩ ++ ([⟨4, a, 0, 0, ⟨#[]⟩, t⟩, ⟨8, c, 0, 0, y1, ⟨#[]⟩⟩] : List DReply)).flatMap DReply.cells)) := by
            unfold Hid; rw [List.flatMap_append]; exact hown
          have hb7s := hb7.size
          clear hown hg hwl z1
          have hRs : Hid (Rd w (some ⟨b, o + 3, none⟩) (c0 - 3) 1 (p - 3) (((xs.take p).drop 3).flatMap strCells)) := by
            have h := HR.out
            obtain ⟨b', o', e', hb', hat'⟩ := h.ptr (by omega)
            injection e' with e'
            injection e' with e1 e2
            subst e1 e2
            have hlp := HP.out
            have hnc := h.nc
            have hfl : ((xs.take p).drop 3).flatMap strCells = ((xs.flatMap strCells).take p).drop 3 := by rw [flat_strs, flat_strs, List.map_drop, List.map_take]
            refine ⟨?_, by omega, by have := h.cm; omega, fun _ => ⟨b, o + 3, rfl, hb', ?_⟩⟩
            · rw [flat_strs]; simp; omega
            · rw [hfl]; exact (hat'.take p).drop 3
          have hlq : Hid (((xs.take p).drop 3).length = p - 3) := by unfold Hid; simp; have := HP.out; omega
          have hnc := HR.out.nc
          rw [HP.out] at hnc
          have hp3 : 3 ≤ p := by (have := HP.out; omega)
          have hpn : p ≤ 1048576 := by (have := HP.out; omega)
          have m9 : IntKind.i64.wrap ((xs.length : Int) - 1) = (p : Int) := by (have := HP.out; rw [IntWalk.i64_in _ (by omega)]; omega)
          have q1 : (3 : Int) ≤ (p : Int) := by omega
          have q2' : (p : Int) ≤ (c0 : Int) := by omega
          have q4 : ¬ c0 = 3 := by omega
          have hpe : Hid (xs.length - 1 = p) := by unfold Hid; have := HP.out; omega
          have hF := l14Flags_any ((xs.take p).drop 3) (some ⟨b, o + 3, none⟩) (c0 - 3) w7 (by rw [hlq.out]; exact hRs.out.ext hb7) (by have h := HJ.out; rw [hpe.out] at h; exact h) (by rw [hlq.out]; omega)
          rw [hlq.out] at hF
          obtain ⟨f, hf⟩ : ∃ f, fl2 (dat ((xs.take p).drop 3)) = f := ⟨_, rfl⟩
          rw [hf] at hF
          have HF := Lib.hid hf
          have HFC := Lib.hid hF
          clear hf hF
          go_wp2_with fail
          refine HFC.out.mono ?_
          rintro e w8 ⟨rfl, hb8⟩
          have hB8 : Below w.heap.size w w8 := Below.ext hb7 hb8
          have hB8s := hB8.size
          have HO8b := Lib.hid (HO7.out.ext hb8)
          have z3 := (hB8.cell (p := ⟨b, o + 3, none⟩) hb0).trans HX.out.2
          go_wp2_with ((at_builtin; refine wpList_appL (B := w.heap.size) (v := .slice g3 10 q3) rfl _ _ 34 rfl 23 i0 _ _ Tryz.underlying34 hi hz0 hz1 hz2 rfl (by decide) rfl (HO8b.out.ext bxt) (some ⟨w8.heap.size, 0, none⟩) 1 1 [.int .i64 3, .int .i64 a, .int .i64 c, .int .i64 f, .string ⟨#[]⟩, .string ⟨#[]⟩] rfl (Rd.lit w8 #[.int .i64 3, .int .i64 a, .int .i64 c, .int .i64 f, .string ⟨#[]⟩, .string ⟨#[]⟩] 23 1 6 w8.heap.size rfl rfl (by omega)) (by simp [Value.oneCell']) (by omega) (by omega) (by simp; omega) ?_))
          intro g4 q4 w9 hown hg hwl
          have hb9 : Below w.heap.size w w9 := Below.grown (Below.ext hB8 (show Ext w8 _ from bxt)) hg (by simp; omega) (fun x hx => (HO8b.out.lt x hx).1)
          have HO9 : Hid (Own w9 w.heap.size 23 6 (.slice g4 11 q4) 11 ((kindsL y1 0 a 0 0 0 ⟨#[]⟩ ++ ([⟨4, a, 0, 0, ⟨#[]⟩, t⟩, ⟨8, c, 0, 0, y1, ⟨#[]⟩⟩] ++ [⟨3, a, c, f, ⟨#[]⟩, ⟨#[]⟩⟩] : List DReply)).flatMap DReply.cells)) := by
            unfold Hid; rw [← List.append_assoc, List.flatMap_append]; exact hown
          have hb9s := hb9.size
          have z3 := (hb9.cell (p := ⟨b, o + 3, none⟩) hb0).trans HX.out.2
          clear hown hg hwl
          go_wp2_with fail
          refine (specNumber_any y3 _).mono ?_
          rintro e w10 ⟨d, bd, rfl, hd, hdr, hb10⟩
          have HD := Lib.hid hd
          have hB10 : Below w.heap.size w w10 := Below.ext hb9 hb10
          have hB10s := hB10.size
          have HO10 := Lib.hid (HO9.out.ext hb10)
          have z1 := (hB10.cell (p := ⟨b, o + 1, none⟩) hb0).trans HX1.out
          clear hd z3
          go_wp2_with ((at_builtin; refine wpList_appL (B := w.heap.size) (v := .slice g4 11 q4) rfl _ _ 34 rfl 23 i0 _ _ Tryz.underlying34 hi hz0 hz1 hz2 rfl (by decide) rfl (HO10.out.ext bxt) (some ⟨w10.heap.size, 0, none⟩) 1 1 [.int .i64 5, .int .i64 c, .int .i64 d, .int .i64 0, .string y1, .string ⟨#[]⟩] rfl (Rd.lit w10 #[.int .i64 5, .int .i64 c, .int .i64 d, .int .i64 0, .string y1, .string ⟨#[]⟩] 23 1 6 w10.heap.size rfl rfl (by omega)) (by simp [Value.oneCell']) (by omega) (by omega) (by simp; omega) ?_))
          intro g5 q5 w11 hown hg hwl
          have hb11 : Below w.heap.size w w11 := Below.grown (Below.ext hB10 (show Ext w10 _ from bxt)) hg (by simp; omega) (fun x hx => (HO10.out.lt x hx).1)
          have HO11 : Hid (Own w11 w.heap.size 23 6 (.slice g5 12 q5) 12 ((kindsL y1 xs.length a c d f t).flatMap DReply.cells)) := by
            unfold Hid; rw [HL.out, List.flatMap_append]; exact hown
          have HLN : Hid ((kindsL y1 xs.length a c d f t).length = 12) := by unfold Hid; rw [HL.out]; rfl
          clear hown hg hwl z1
          go_wp2_with fail
          refine bodyPost_ret (v := .slice g5 12 q5) (by simp [results, Tryz.results27, go_sem, *]) rfl ?_
          refine ⟨a, c, d, f, t, kindsL y1 xs.length a c d f t, g5, q5, by rw [HY1.out], by rw [HLN.out], by rw [HLN.out]; exact HO11.out, hb11, by omega, by rw [HY0.out]; exact HA.out, fun _ => ⟨by rw [HY2.out]; exact HC.out, by rw [HY3.out]; exact HD.out, by rw [HY2.out]; exact HT.out, by rw [hpe.out]; exact HF.out.symm⟩⟩
        · have d4 : decide ((3 : Int) < (xs.length : Int)) = false := decide_eq_false (by omega)
          have HL : Hid (kindsL y1 xs.length a 0 0 0 ⟨#[]⟩ = kindsL y1 0 a 0 0 0 ⟨#[]⟩) := by unfold Hid kindsL; rw [if_neg h4, if_neg (by omega)]
          have HN4 := Lib.hid h4
          clear h4
          go_wp2_with fail
          refine bodyPost_ret (v := .slice g2 8 q2) (by simp [results, Tryz.results27, go_sem, *]) rfl ?_
          refine ⟨a, 0, 0, 0, ⟨#[]⟩, kindsL y1 xs.length a 0 0 0 ⟨#[]⟩, g2, q2, by rw [HY1.out], by rw [HL.out]; rfl, by rw [HL.out]; exact HO8.out, hb4, Nat.zero_le _, by rw [HY0.out]; exact HA.out, fun h => absurd h HN4.out⟩

end Go.Proofs.YtidfhkdonhjgaaaGreatDoor
