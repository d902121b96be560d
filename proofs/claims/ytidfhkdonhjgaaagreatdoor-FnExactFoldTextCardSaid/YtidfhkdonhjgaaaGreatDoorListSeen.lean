/-
  The library's Clone and Delete at slices of Seen.
-/
import Derived.Test.YtidfhkdonhjgaaaGreatDoorFamSeen
import Derived.Test.YtidfhkdonhjgaaaGreatDoorXOwn
import Derived.WalkSpells
import Derived.Lib.LazyBuf
import Derived.Deep.RegionLaw
namespace Go.Proofs.YtidfhkdonhjgaaaGreatDoor
open Go.RowKit
set_option linter.unusedVariables false
set_option linter.unusedSimpArgs false
theorem DSeen.one (x : DSeen) : ∀ u ∈ x.cells, u.oneCell' = true := by simp [DSeen.cells, Value.oneCell']

set_option maxRecDepth 100000 in
set_option maxHeartbeats 1000000 in
theorem cloneSeenS_any (l : List DSeen) (a : Option Addr) (c : Nat) (w : World) (R : Rd w a c 2 l.length (l.flatMap DSeen.cells)) (hl : l.length ≤ 4194304) :
    Calls Tryz.prog 92 #[.slice a l.length c] w fun e w' => ∃ g q, e = .returned (.slice g l.length q) ∧ Own w' w.heap.size 89 2 (.slice g l.length q) l.length (l.flatMap DSeen.cells) ∧ Ext w w' := by
  obtain ⟨i0, hi, hz0, hz1, hz2⟩ := info_parts info_Seen
  have HR := Lib.hid R
  clear R
  have heq := fun (w : World) (a : Option Addr) (n c : Nat) => Lib.run_eql_slice_nil (P := Tryz.prog) w 39 89 a n c 0 0 Tryz.underlying39
  cases a with
  | none =>
    have HL : Hid (l = []) := by
      rcases l with _ | ⟨x, l⟩
      · rfl
      · obtain ⟨b, o, h, _⟩ := HR.out.ptr (by simp)
        cases h
    go_enter Tryz.func92, Tryz.ntmps92
    go_wp2_with fail
    go_ret
    have hl0 := HL.out
    subst hl0
    exact ⟨_, _, rfl, Own.none0 _, Below.refl _ _⟩
  | some a =>
    go_enter Tryz.func92, Tryz.ntmps92
    go_wp2_with ((at_builtin; refine wpList_app (v := .slice (some ⟨w.heap.size, 0, none⟩) 0 0) rfl _ _ _ rfl 89 i0 _ _ Tryz.underlying39 hi hz0 hz1 hz2 rfl (by decide) rfl (Own.of_row (World.ownsRow_lit w #[] 0 (Nat.le_refl _) (Nat.zero_le _) (by simp))) _ _ _ (l.flatMap DSeen.cells) rfl (HR.out.ext ((Below.refl _ _).alloc (Nat.le_refl _) _)) (one_flat DSeen.one l) (by omega) (by omega) (by simp) ?_; intro g q w1 hown hg))
    simp only [Nat.zero_add, List.nil_append] at hown ⊢
    have HO := Lib.hid hown
    have hb : Below w.heap.size w w1 := ((Below.refl _ _).alloc (Nat.le_refl _) _).grown hg (by simp) (fun k hk => by simp [foot] at hk)
    clear hown
    go_ret
    exact ⟨_, _, rfl, HO.out, hb⟩

set_option maxRecDepth 100000 in
set_option maxHeartbeats 1000000 in
theorem deleteSeenS_any (l : List DSeen) (a : Option Addr) (c B i : Nat) (x y : Int) (w : World) (h : Own w B 89 2 (.slice a l.length c) l.length (l.flatMap DSeen.cells)) (hi : i < l.length) (hx : x = i) (hy : y = (i : Int) + 1) (hl : l.length ≤ 4194304) (r : List DSeen) (Hr : Hid (l.eraseIdx i = r)) :
    Calls Tryz.prog 113 #[.slice a l.length c, .int .i64 x, .int .i64 y] w fun e w' => e = .returned (.slice a r.length c) ∧ Own w' B 89 2 (.slice a r.length c) r.length (r.flatMap DSeen.cells) ∧ w.grownBy w' (foot (.slice a l.length c)) := by
  obtain ⟨i0, hi0, hz0, hz1, hz2⟩ := info_parts info_Seen
  obtain ⟨hcap, hcm⟩ := h.cap
  obtain ⟨g, rfl, hrow⟩ := h.row (by omega)
  have HO := Lib.hid h
  subst hx
  subst hy
  clear h hrow
  go_enter Tryz.func113, Tryz.ntmps113
  go_wp2_with fail
  have h1 : (0 : Int) ≤ (i : Int) := by omega
  have h2 : (0 : Int) ≤ (i : Int) + 1 := by omega
  have h3 : ((i : Int) + 1).toNat = i + 1 := by omega
  have h4 : (i : Int) + 1 ≤ (l.length : Int) := by omega
  have h5 : (l.length : Int) ≤ (c : Int) := by omega
  have h6 : (i : Int) ≤ (l.length : Int) := by omega
  have h7 : (i : Int) ≤ (c : Int) := by omega
  have HC : Hid (Own w.drew B 89 2 (.slice (some ⟨g, 0, none⟩) i c) i ((l.take i).flatMap DSeen.cells)) := by
    rw [← flat_take DSeen.cells_len]
    exact (HO.out.cut (by omega)).ext (Below.refl _ _).drew
  have HD : Hid (Rd w.drew (if c = i + 1 then some ⟨g, 0, none⟩ else some ⟨g, (i + 1) * 2, none⟩) (c - (i + 1)) 2 (l.length - (i + 1)) ((l.drop (i + 1)).flatMap DSeen.cells)) :=
    Rd.dropAt DSeen.cells_len ((Rd.of_Own HO.out).ext (Below.refl _ _).drew) (i + 1) (by omega) (fun hlt => by rw [if_neg (by omega), Nat.zero_add]) _ _ rfl rfl
  go_region_law ((refine step_app_room rfl (.tmp 22) (.tmp 25) 39 rfl 89 i0 Tryz.underlying39 hi0 hz1 (by simp [Act.eval, Act.put]) HC.out _ _ _ _ (by simp [Act.eval, Act.put]) HD.out (one_flat DSeen.one _) (by omega) ?_; intro w1 hown hg))
  rw [show i + (l.length - (i + 1)) = l.length - 1 from by omega] at hown ⊢
  generalize (if c = i + 1 then (some ⟨g, 0, none⟩ : Option Addr) else some ⟨g, (i + 1) * 2, none⟩) = A
  have hr : (l.take i).flatMap DSeen.cells ++ (l.drop (i + 1)).flatMap DSeen.cells = r.flatMap DSeen.cells := by
    rw [← Hr.out, List.eraseIdx_eq_take_drop_succ, List.flatMap_append]
  rw [hr] at hown
  have hl2 : r.length = l.length - 1 := by rw [← Hr.out, List.length_eraseIdx, if_pos hi]
  have HL := Lib.hid hl2
  have HW := Lib.hid hown
  have HG := Lib.hid hg
  clear hr hl2 hown hg HC HD h1 h2 h3 h4 h5 h6 h7
  have k1 : l.length - 1 ≤ l.length := by omega
  have k2 : l.length ≤ c := by omega
  have k3 : ((l.length - 1 : Nat) : Int) ≤ (l.length : Int) := by omega
  have k4 : (l.length : Int) ≤ (c : Int) := by omega
  have k5 : l.length - (l.length - 1) = 1 := by omega
  have hz : ∀ w, (zeroValue 89).run Tryz.prog w = .ok (.agg #[.int .i64 0, .int .i64 0]) w := fun w => by kernel_rfl
  have hz1 : ∀ u ∈ (Builtin.zeroCells (Value.agg #[.int .i64 0, .int .i64 0]).cells 1).toList, u.oneCell' = true := of_decide_eq_true (by kernel_rfl)
  have HZ1 := Lib.hid hz1
  have HZ := Lib.hid hz
  clear hz hz1
  go_wp2_with (with_reducible refine wpList_clr rfl (.tmp 31) 39 rfl 89 (.agg #[.int .i64 0, .int .i64 0]) Tryz.underlying39 HZ.out rfl HZ1.out HW.out ((l.length - 1) * 2) (c - (l.length - 1)) rfl rfl (by omega) (by omega) ?_; intro w2 hown hg)
  have hq : (Value.agg #[.int .i64 0, .int .i64 0]).cells.size = 2 := rfl
  rw [hq] at hown
  rw [← HL.out] at hown ⊢
  have HU := Lib.hid hown
  have HV := Lib.hid hg
  clear hown hg hq
  go_ret
  refine ⟨rfl, HU.out, grown_trans (grown_ext (Below.refl _ _).drew) (grown_trans ?_ HV.out)⟩
  exact HG.out

end Go.Proofs.YtidfhkdonhjgaaaGreatDoor
