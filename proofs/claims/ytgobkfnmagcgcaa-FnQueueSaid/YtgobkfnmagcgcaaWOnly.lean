/-
  The notes of one kind, of the box or the others, in order: the reference's function.
-/
import Derived.Test.YtgobkfnmagcgcaaWQueueOk
import Derived.Test.YtgobkfnmagcgcaaListNote
namespace Go.Proofs.Ytgobkfnmagcgcaa
open Go.RowKit
set_option linter.unusedVariables false
set_option linter.unusedSimpArgs false

def onlyIs (b : Bool) (x : DNote) : Bool := (x.kind == 1) == b
def onlyTo (b : Bool) (l : List DNote) (k : Nat) : List DNote := (l.take k).filter (onlyIs b)
theorem onlyTo_yes {b : Bool} {l : List DNote} {k : Nat} (hk : k < l.length) (h : onlyIs b l[k] = true) : onlyTo b l (k + 1) = onlyTo b l k ++ [l[k]] := by
  unfold onlyTo; rw [List.take_succ_eq_append_getElem hk, List.filter_append]; simp [h]
theorem onlyTo_no {b : Bool} {l : List DNote} {k : Nat} (hk : k < l.length) (h : onlyIs b l[k] = false) : onlyTo b l (k + 1) = onlyTo b l k := by
  unfold onlyTo; rw [List.take_succ_eq_append_getElem hk, List.filter_append]; simp [h]
theorem onlyTo_len (b : Bool) (l : List DNote) (k : Nat) : (onlyTo b l k).length ≤ l.length := by
  unfold onlyTo; exact Nat.le_trans (List.length_filter_le _ _) (by rw [List.length_take]; omega)
theorem onlyTo_all (b : Bool) (l : List DNote) (k : Nat) (h : k ≤ l.length) (h2 : ¬ k < l.length) : onlyTo b l k = l.filter (onlyIs b) := by
  obtain rfl : k = l.length := by omega
  unfold onlyTo; rw [List.take_length]
set_option maxRecDepth 100000 in
set_option maxHeartbeats 4000000 in
theorem l16Only_any (l : List DNote) (a : Option Addr) (c : Nat) (rb rc box : Bool) (w : World) (R : Rd w a c 4 l.length (l.flatMap DNote.cells)) (hl : l.length ≤ 1048576) (r : List DNote) (Hr : Hid (l.filter (onlyIs box) = r)) :
    Calls Try.prog 58 #[.agg #[.slice a l.length c, .bool rb, .bool rc], .bool box] w fun e w' => ∃ g q, e = .returned (.slice g r.length q) ∧ Own w' w.heap.size 36 4 (.slice g r.length q) r.length (r.flatMap DNote.cells) ∧ Ext w w' := by
  obtain ⟨i0, hi0, hz0, hz1, hz2⟩ := info_parts info_Note
  have hcm := R.cm
  have hnc := R.nc
  have HR := Lib.hid R
  clear R
  go_enter Try.func58, Try.ntmps58
  go_wp2_with fail
  go_loopw [5, 6] (fun v i wr => ∃ k g q, k ≤ l.length ∧ i = .int .i64 (k : Nat) ∧ v = .slice g (onlyTo box l k).length q ∧ Own wr (w.heap.size + 1) 36 4 (.slice g (onlyTo box l k).length q) (onlyTo box l k).length ((onlyTo box l k).flatMap DNote.cells) ∧ Ext (w.alloc (.cells #[.slice a l.length c, .bool rb, .bool rc] 34)) wr) (fun _ i _ => l.length - (intOf i).toNat)
  case atStart => exact ⟨0, _, _, Nat.zero_le _, rfl, rfl, Own.none0 _, (Below.refl _ _).alloc (Nat.le_refl _) _⟩
  case round =>
    obtain ⟨k, g, q, hk, rfl, rfl, hown, hbe⟩ := hrel
    have hlen := onlyTo_len box l k
    obtain ⟨out, hout⟩ : ∃ o, onlyTo box l k = o := ⟨_, rfl⟩
    rw [hout] at hown hlen ⊢
    have HO := Lib.hid hown
    have HOut := Lib.hid hout
    clear hown hout
    have hws : w.heap.size < wr.heap.size := by (have hss := hbe.size; simp at hss; omega)
    by_cases hlt : k < l.length
    · obtain ⟨b, o, rfl, hb, hat⟩ := HR.out.ptr (by omega)
      have c0 : wr.cell? ⟨w.heap.size, 0, none⟩ = some (.slice (some ⟨b, o, none⟩) l.length c) := (hbe.cell (p := ⟨w.heap.size, 0, none⟩) (by simp)).trans (by simp [go_sem])
      have hbw : Ext w wr := bxt
      obtain ⟨hx0, hx1, hx2, hx3⟩ := DNote.at (hat.ext hb hbw) k hlt
      have HA := Lib.hid hat
      clear hat
      have hbr : b < wr.heap.size := by omega
      have hk1 : (k : Int) < (l.length : Int) := by omega
      obtain ⟨d, hd⟩ : ∃ d, (l[k].kind == 1) = d := ⟨_, rfl⟩
      have HY : Hid (onlyIs box l[k] = (d == box)) := by unfold Hid onlyIs; rw [hd]
      cases box <;> cases d
      all_goals first
        | (have hno := onlyTo_no hlt HY.out
           have HN := Lib.hid hno
           clear hno
           go_wp2_with fail
           go_roundw
           case rel => exact ⟨k + 1, g, q, by omega, by go_num, by rw [HN.out, HOut.out], by rw [HN.out, HOut.out]; exact HO.out, bxt⟩
           case measure => simp [intOf]; omega)
        | (have hyes := onlyTo_yes hlt HY.out
           have HN := Lib.hid hyes
           clear hyes
           go_wp2_with (go_loud (at_builtin; refine wpList_app (v := .slice g out.length q) (n := out.length) (xs := out.flatMap DNote.cells) (s := 4) (B := w.heap.size + 1) rfl _ _ _ rfl 36 i0 _ _ Try.underlying32 hi0 hz0 hz1 hz2 rfl (by decide) rfl (HO.out.ext bxt) (some ⟨wr.heap.size, 0, none⟩) 1 1 l[k].cells rfl (Rd.lit _ _ _ 1 4 _ (by first | rfl | simp) rfl (by omega)) (DNote.one _) (by omega) (by omega) (by simp; omega) ?_; intro g2 q2 w2 hown2 hg2; have hbel2 : Ext (w.alloc (.cells #[.slice (some ⟨b, o, none⟩) l.length c, .bool rb, .bool rc] 34)) w2 := below_foot (B := w.heap.size + 1) (show Ext (w.alloc (.cells #[.slice (some ⟨b, o, none⟩) l.length c, .bool rb, .bool rc] 34)) _ from bxt) (show Own _ (w.heap.size + 1) 36 4 (.slice g out.length q) out.length (out.flatMap DNote.cells) from HO.out.ext bxt) (by simp) (by simp; omega) hg2; have H2 := Lib.hid hown2; clear hown2 hg2))
           go_roundw
           case rel =>
             refine ⟨k + 1, g2, q2, by omega, by go_num, ?_, ?_, hbel2⟩
             · rw [HN.out, HOut.out]; simp
             · rw [HN.out, HOut.out]; simpa using H2.out
           case measure => simp [intOf]; omega)
    · have c0 : wr.cell? ⟨w.heap.size, 0, none⟩ = some (.slice a l.length c) := (hbe.cell (p := ⟨w.heap.size, 0, none⟩) (by simp)).trans (by simp [go_sem])
      have he := onlyTo_all box l k hk hlt
      rw [Hr.out, HOut.out] at he
      have HE := Lib.hid he
      clear he
      go_wp2_with fail
      go_ret
      have he := HE.out
      subst he
      exact ⟨_, _, rfl, Own.le HO.out (by omega), bxt⟩
end Go.Proofs.Ytgobkfnmagcgcaa
