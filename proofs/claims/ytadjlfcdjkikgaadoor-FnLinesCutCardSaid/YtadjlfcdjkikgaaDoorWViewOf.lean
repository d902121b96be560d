/-
  The view of a mailbox: the program's function and the reference's gather one list.
-/
import Derived.Test.YtadjlfcdjkikgaaDoorXFam
import Derived.Test.YtadjlfcdjkikgaaDoorFamSeen
import Derived.Test.YtadjlfcdjkikgaaDoorXOwn
import Derived.Deep.RegionLaw
namespace Go.Proofs.YtadjlfcdjkikgaaDoor
open Go.RowKit
set_option linter.unusedVariables false
set_option linter.unusedSimpArgs false

def DMsg.seen (m : DMsg) : DSeen := ⟨m.uid, m.flags⟩
def seenTo (l : List DMsg) (k : Nat) : List DSeen := (l.take k).map DMsg.seen
theorem seenTo_succ (l : List DMsg) (k : Nat) (hk : k < l.length) : seenTo l (k + 1) = seenTo l k ++ [l[k].seen] := by
  unfold seenTo; rw [List.take_succ_eq_append_getElem hk, List.map_append]; rfl
theorem seenTo_len (l : List DMsg) (k : Nat) : (seenTo l k).length ≤ l.length := by unfold seenTo; simp; omega
theorem seenTo_all (l : List DMsg) (k : Nat) (h : k ≤ l.length) (h2 : ¬ k < l.length) : seenTo l k = l.map DMsg.seen := by
  obtain rfl : k = l.length := by omega
  unfold seenTo; simp
theorem DSeen.one (x : DSeen) : ∀ u ∈ x.cells, u.oneCell' = true := by simp [DSeen.cells, Value.oneCell']

set_option maxHeartbeats 2000000 in
theorem specViewOf_any (xname : ByteArray) (xvalidity xnext : Int) (l : List DMsg) (a : Option Addr) (c : Nat) (w : World) (R : Rd w a c 3 l.length (l.flatMap DMsg.cells)) (hl : l.length ≤ 1048576) (r : List DSeen) (Hr : Hid (l.map DMsg.seen = r)) :
    Calls Tryd.prog 79 #[.agg #[.string xname, .int .i64 xvalidity, .int .i64 xnext, .slice a l.length c]] w fun e w' => ∃ g q, e = .returned (.agg #[.slice g r.length q]) ∧ w'.ownsRow w.heap.size 114 2 (.slice g r.length q) r.length (r.flatMap DSeen.cells) ∧ Ext w w' := by
  obtain ⟨i0, hi, hz0, hz1, hz2⟩ := info_parts info_Seen
  have HR := Lib.hid R
  clear R
  have HS : Hid (GathFld DSeen.cells 2 114 l.length (seenTo l) ((w.alloc (.cells #[.string xname, .int .i64 xvalidity, .int .i64 xnext, .slice a l.length c] 85)).alloc (.cells #[.slice none 0 0] 90)) (w.heap.size + 2) 0 (.int .i64 0) (((w.alloc (.cells #[.string xname, .int .i64 xvalidity, .int .i64 xnext, .slice a l.length c] 85)).alloc (.cells #[.slice none 0 0] 90)).alloc (.cells #[.slice none 0 0] 90))) :=
    ⟨0, .slice none 0 0, Nat.zero_le _, rfl, World.ownsRow_nil _ _ _ _, bxt, (by simp [go_sem]), (by simp [go_sem]), by simp⟩
  go_enter Tryd.func79, Tryd.ntmps79
  go_wp2_with fail
  go_loopw [4] (GathFld DSeen.cells 2 114 l.length (seenTo l) ((w.alloc (.cells #[.string xname, .int .i64 xvalidity, .int .i64 xnext, .slice a l.length c] 85)).alloc (.cells #[.slice none 0 0] 90)) (w.heap.size + 2) 0) (fun i _ => l.length - (intOf i).toNat)
  case atStart => exact HS.out
  case round =>
    obtain ⟨k, v, hk, rfl, hown, hb, hcv, hfv, hsz⟩ := hrel
    obtain ⟨ga, gc, rfl⟩ := own_shape hown
    have hc1 : wr.cell? ⟨w.heap.size + 1, 0, none⟩ = some (.slice none 0 0) := (hb.cell (p := ⟨w.heap.size + 1, 0, none⟩) (by simp)).trans (by simp)
    have hf1 : wr.frozen? ⟨w.heap.size + 1, 0, none⟩ = false := (hb.frozen (p := ⟨w.heap.size + 1, 0, none⟩) (by simp)).trans (by simp)
    have hb0 : Below w.heap.size w wr := Below.extB (((Below.refl _ _).alloc (Nat.le_refl _) _).alloc (by simp) _) hb (by omega)
    have hcb : wr.cell? ⟨w.heap.size, 3, none⟩ = some (.slice a l.length c) := (hb.cell (p := ⟨w.heap.size, 3, none⟩) (by simp)).trans (by simp [go_sem])
    have HO := Lib.hid hown
    have hlen := seenTo_len l k
    clear hown
    by_cases hlt : k < l.length
    · obtain ⟨b, o, rfl, hbb, hat⟩ := HR.out.ptr (by omega)
      obtain ⟨hx0, hx1, hx2⟩ := DMsg.at (hat.ext hbb hb0) k hlt
      have HA := Lib.hid hat
      have HB := Lib.hid hb
      have hs1 : w.heap.size + 2 < wr.heap.size := by omega
      clear hat hb
      have hbl : b < w.heap.size + 2 := by omega
      have hown0 : wr.drew.ownsRow (w.heap.size + 2 + 1) 114 2 (.slice ga (seenTo l k).length gc) (seenTo l k).length ((seenTo l k).flatMap DSeen.cells) := own_ext HO.out bxt
      have HO2 := Lib.hid hown0
      clear hown0
      have hlt2 : (k : Int) < (l.length : Int) := by omega
      go_wp2_with fail
      go_region_law ((refine step_app1 rfl _ _ _ rfl 114 i0 (.agg #[.int .i64 0, .int .i64 0]) 2 16 Tryd.underlying88 hi hz0 hz1 hz2 rfl (by decide) (.slice ga (seenTo l k).length gc) _ _ (by simp [Act.eval, Act.put]) _ (own_ext HO2.out ((Below.refl _ _).alloc (Nat.le_refl _) _)) wr.heap.size (l[k].seen).cells (by simp [Act.eval, Act.put]) rfl (at_alloc (by simp) rfl) (DSeen.one _) (by omega) (by omega) (by simp; omega) ?_; intro g q w1 hown' hg; obtain ⟨⟨u, hu⟩, hfu⟩ := fld_ready (b := w.heap.size + 2) (j := 0) (own_ext HO2.out ((Below.refl _ _).alloc (Nat.le_refl _) _)) hg (by simp; omega) ⟨_, by simp [go_sem, hcv, hs1]; rfl⟩ (by simp [go_sem, hfv, hs1]); have HN := Lib.hid (GathFld.next (b := w.heap.size + 2) (j := 0) hlt l[k].seen (seenTo_succ l k hlt) (own_ext HO2.out ((Below.refl _ _).alloc (Nat.le_refl _) _)) hg (HB.out.drew.alloc (by simp; omega) _) (by simp; omega) ⟨_, by simp [go_sem, hcv, hs1]; rfl⟩ (by simp [go_sem, hfv, hs1]) hown'); clear hown' hg))
      all_goals go_wp2_with fail
      all_goals go_roundw
      all_goals first | (exact HN.out) | (simp [intOf]; omega)
    · go_wp2_with fail
      have hr := seenTo_all l k hk hlt
      rw [Hr.out] at hr
      have hO := HO.out
      rw [hr] at hO
      rw [hr]
      refine bodyPost_ret (v := .agg #[.slice ga r.length gc]) (by simp [results, Tryd.results79, go_sem, hc1, hf1]) rfl ⟨_, _, rfl, ?_, ?_⟩
      · refine own_le (B := w.heap.size + 2 + 1) ?_ (by omega)
        refine ownsRow_setCell_below hO ?_ _
        simp
      · exact hb0.setCell (by show w.heap.size ≤ w.heap.size + 1; omega) _
end Go.Proofs.YtadjlfcdjkikgaaDoor
