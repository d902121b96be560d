/-
  The library's Clone and Delete at slices of Commit.
-/
import Derived.Test.YtjcnhkmhcfmoeaaGreatXFam
import Derived.Test.YtjcnhkmhcfmoeaaGreatXOwn
import Derived.WalkSpells
import Derived.Lib.LazyBuf
import Derived.Deep.RegionLaw
namespace Go.Proofs.YtjcnhkmhcfmoeaaGreat
open Go.RowKit
set_option linter.unusedVariables false
set_option linter.unusedSimpArgs false
theorem DCommit.one (x : DCommit) : ∀ u ∈ x.cells, u.oneCell' = true := by simp [DCommit.cells, Value.oneCell']

set_option maxRecDepth 100000 in
set_option maxHeartbeats 1000000 in
theorem cloneCommitS_any (l : List DCommit) (a : Option Addr) (c : Nat) (w : World) (R : Rd w a c 6 l.length (l.flatMap DCommit.cells)) (hl : l.length ≤ 4194304) :
    Calls Tryz.prog 124 #[.slice a l.length c] w fun e w' => ∃ g q, e = .returned (.slice g l.length q) ∧ Own w' w.heap.size 41 6 (.slice g l.length q) l.length (l.flatMap DCommit.cells) ∧ Ext w w' := by
  obtain ⟨i0, hi, hz0, hz1, hz2⟩ := info_parts info_Commit
  have HR := Lib.hid R
  clear R
  have heq := fun (w : World) (a : Option Addr) (n c : Nat) => Lib.run_eql_slice_nil (P := Tryz.prog) w 25 41 a n c 0 0 Tryz.underlying25
  cases a with
  | none =>
    have HL : Hid (l = []) := by
      rcases l with _ | ⟨x, l⟩
      · rfl
      · obtain ⟨b, o, h, _⟩ := HR.out.ptr (by simp)
        cases h
    go_enter Tryz.func124, Tryz.ntmps124
    go_wp2_with fail
    go_ret
    have hl0 := HL.out
    subst hl0
    exact ⟨_, _, rfl, Own.none0 _, Below.refl _ _⟩
  | some a =>
    go_enter Tryz.func124, Tryz.ntmps124
    go_wp2_with ((at_builtin; refine wpList_app (v := .slice (some ⟨w.heap.size, 0, none⟩) 0 0) rfl _ _ _ rfl 41 i0 _ _ Tryz.underlying25 hi hz0 hz1 hz2 rfl (by decide) rfl (Own.of_row (World.ownsRow_lit w #[] 0 (Nat.le_refl _) (Nat.zero_le _) (by simp))) _ _ _ (l.flatMap DCommit.cells) rfl (HR.out.ext ((Below.refl _ _).alloc (Nat.le_refl _) _)) (one_flat DCommit.one l) (by omega) (by omega) (by simp) ?_; intro g q w1 hown hg))
    simp only [Nat.zero_add, List.nil_append] at hown ⊢
    have HO := Lib.hid hown
    have hb : Below w.heap.size w w1 := ((Below.refl _ _).alloc (Nat.le_refl _) _).grown hg (by simp) (fun k hk => by simp [foot] at hk)
    clear hown
    go_ret
    exact ⟨_, _, rfl, HO.out, hb⟩

end Go.Proofs.YtjcnhkmhcfmoeaaGreat
