/-
  The Uids of a view: the program's function and the reference's gather one list.
-/
import Derived.Test.YtgobkfnmagcgcaaFamView
import Derived.Test.YtgobkfnmagcgcaaXOwn
namespace Go.Proofs.Ytgobkfnmagcgcaa
open Go.RowKit
set_option linter.unusedVariables false
set_option linter.unusedSimpArgs false

theorem info_int : (Try.prog.info? 3).map (fun i => (i.zero, i.size, i.bytes)) = some (some (.int .i64 0), 1, 8) := by kernel_rfl
def uidsTo (l : List DSeen) (k : Nat) : List Int := (l.take k).map DSeen.uid
theorem uidsTo_succ (l : List DSeen) (k : Nat) (hk : k < l.length) : uidsTo l (k + 1) = uidsTo l k ++ [l[k].uid] := by
  unfold uidsTo; rw [List.take_succ_eq_append_getElem hk, List.map_append]; rfl
theorem uidsTo_len (l : List DSeen) (k : Nat) : (uidsTo l k).length ≤ l.length := by unfold uidsTo; simp; omega
theorem uidsTo_all (l : List DSeen) (k : Nat) (h : k ≤ l.length) (h2 : ¬ k < l.length) : uidsTo l k = l.map DSeen.uid := by
  obtain rfl : k = l.length := by omega
  unfold uidsTo; simp

set_option maxHeartbeats 1000000 in
theorem implUidsIn_any (l : List DSeen) (a : Option Addr) (c : Nat) (w : World) (R : Rd w a c 2 l.length (l.flatMap DSeen.cells)) (hl : l.length ≤ 1048576) (r : List Int) (Hr : Hid (l.map DSeen.uid = r)) :
    Calls Try.prog 12 #[.agg #[.slice a l.length c]] w fun e w' => ∃ g q, e = .returned (.slice g r.length q) ∧ w'.ownsRow w.heap.size 3 1 (.slice g r.length q) r.length (r.flatMap intCells) ∧ Ext w w' := by
  obtain ⟨i0, hi, hz0, hz1, hz2⟩ := info_parts info_int
  have HR := Lib.hid R
  clear R
  have HS : Hid (GathRel intCells 1 3 l.length (uidsTo l) (w.alloc (.cells #[.slice a l.length c] 26)) (w.heap.size + 1) (.slice (some ⟨w.heap.size + 1, 0, none⟩) 0 0) (.int .i64 0) ((w.alloc (.cells #[.slice a l.length c] 26)).alloc (.cells #[] 3))) := GathRel.start _ _ (by simp) rfl
  go_enter Try.func12, Try.ntmps12
  go_wp2_with fail
  go_loopw [3, 10] (GathRel intCells 1 3 l.length (uidsTo l) (w.alloc (.cells #[.slice a l.length c] 26)) (w.heap.size + 1)) (fun _ i _ => l.length - (intOf i).toNat)
  case atStart => exact HS.out
  case round =>
    obtain ⟨k, hk, rfl, hown, hb⟩ := hrel
    obtain ⟨ga, gc, rfl⟩ := own_shape hown
    have hcw : wr.cell? ⟨w.heap.size, 0, none⟩ = some (.slice a l.length c) := (hb.cell (p := ⟨w.heap.size, 0, none⟩) (by simp)).trans (by simp)
    have hbs : w.heap.size + 1 ≤ wr.heap.size := by (have := hb.size; simpa using this)
    have hb0 : Below w.heap.size w wr := Below.extB ((Below.refl _ _).alloc (Nat.le_refl _) _) hb (by omega)
    have HO := Lib.hid hown
    have hlen := uidsTo_len l k
    clear hown
    by_cases hlt : k < l.length
    · obtain ⟨b, o, rfl, hbb, hat⟩ := HR.out.ptr (by omega)
      obtain ⟨hx0, hx1⟩ := DSeen.at (hat.ext hbb hb0) k hlt
      have HA := Lib.hid hat
      clear hat
      go_wp2_with ((at_builtin; refine wpList_app1 rfl _ _ _ rfl 3 i0 (.int .i64 0) 1 8 Try.underlying29 hi hz0 hz1 hz2 rfl (by decide) _ _ _ rfl _ (own_ext HO.out bxt) (wr.heap.size + 1) (intCells l[k].uid) rfl rfl (at_alloc (by simp) rfl) (by simp [intCells, Value.oneCell']) (by omega) (by omega) (by simp; omega) ?_))
      intro v' w1 hown' hg
      have HN := Lib.hid (GathRel.next hlt l[k].uid (uidsTo_succ l k hlt) (own_ext HO.out bxt) hg ((hb.alloc hbs _).alloc (by simp; omega) _) (by simp; omega) hown')
      clear hown' hg
      go_wp2_with fail
      go_roundw
      case rel => exact HN.out
      case measure => simp [intOf]; omega
    · go_wp2_with fail
      go_ret
      have hr := uidsTo_all l k hk hlt
      rw [Hr.out] at hr
      have := HO.out
      rw [hr] at this
      rw [hr]
      exact ⟨_, _, rfl, own_le this (by omega), hb0⟩
end Go.Proofs.Ytgobkfnmagcgcaa
