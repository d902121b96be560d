/-
  The replies to a SELECT: the program's function and the reference's.
-/
import Derived.Test.YtpameapajhbdnaaK00
import Derived.Test.YtpameapajhbdnaaK09
namespace Go.Proofs.Ytpameapajhbdnaa
open Go.RowKit
set_option linter.unusedVariables false
set_option linter.unusedSimpArgs false

def fetchAt (l : List DMsg) (i : Nat) : DReply := match l[i]? with
  | some m => ⟨3, (i : Int) + 1, m.uid, m.flags, ⟨#[]⟩, ⟨#[]⟩⟩
  | none => ⟨0, 0, 0, 0, ⟨#[]⟩, ⟨#[]⟩⟩
def selTo (l : List DMsg) (k : Nat) : List DReply := [⟨9, 0, 0, 0, ⟨#[]⟩, ⟨#[]⟩⟩, ⟨1, (l.length : Int), 0, 0, ⟨#[]⟩, ⟨#[]⟩⟩] ++ (List.range k).map (fetchAt l)
theorem selTo_len (l : List DMsg) (k : Nat) : (selTo l k).length = k + 2 := by simp [selTo]
theorem selTo_succ (l : List DMsg) (k : Nat) (hk : k < l.length) : selTo l (k + 1) = selTo l k ++ [⟨3, (k : Int) + 1, l[k].uid, l[k].flags, ⟨#[]⟩, ⟨#[]⟩⟩] := by
  unfold selTo
  rw [List.range_succ, List.map_append, ← List.append_assoc]
  simp [fetchAt, hk]
instance decNameSel (s : ByteArray) : Decidable (NameP s) := by unfold NameP LetterP; infer_instance
instance (nm : ByteArray) (v nx : Int) (l : List DMsg) : Decidable (BoxP nm v nx l) := by unfold BoxP; infer_instance
def selecting (nm : ByteArray) (v nx : Int) (l : List DMsg) : List DReply := if BoxP nm v nx l then selTo l l.length ++ [⟨8, v, 0, 0, nm, ⟨#[]⟩⟩] else []
theorem selecting_len (nm : ByteArray) (v nx : Int) (l : List DMsg) : (selecting nm v nx l).length ≤ l.length + 3 := by
  unfold selecting
  split
  · simp [selTo_len]
  · simp
def SelPost (E : Nat) (r : List DReply) (w : World) (e : Ending) (w' : World) : Prop :=
  ∃ g q, e = .returned (.slice g r.length q) ∧ Own w' w.heap.size E 6 (.slice g r.length q) r.length (r.flatMap DReply.cells) ∧ Ext w w'
def SelRel (E : Nat) (l : List DMsg) (W : World) (v i : Value) (wr : World) : Prop :=
  ∃ (k : Nat) (g : Option Addr) (q : Nat), k ≤ l.length ∧ i = .int .i64 k ∧ v = .slice g (selTo l k).length q ∧ Hid (Own wr W.heap.size E 6 (.slice g (selTo l k).length q) (selTo l k).length ((selTo l k).flatMap DReply.cells)) ∧ Below W.heap.size W wr
theorem SelRel.next {E k q : Nat} {g : Option Addr} {l : List DMsg} {W w2 : World} (hk : k < l.length) (h : Own w2 W.heap.size E 6 (.slice g ((selTo l k).length + 1) q) ((selTo l k).length + 1) ((selTo l k).flatMap DReply.cells ++ [.int .i64 3, .int .i64 ((k : Int) + 1), .int .i64 l[k].uid, .int .i64 l[k].flags, .string ⟨#[]⟩, .string ⟨#[]⟩])) (hb : Below W.heap.size W w2) :
    SelRel E l W (.slice g ((selTo l k).length + 1) q) (.int .i64 ((k : Int) + 1)) w2 := by
  have e : (selTo l (k + 1)).length = (selTo l k).length + 1 := by simp [selTo_len]
  refine ⟨k + 1, g, q, hk, by simp, by rw [e], ?_, hb⟩
  unfold Hid
  rw [e, selTo_succ l k hk, List.flatMap_append]
  simpa [DReply.cells] using h

set_option maxRecDepth 100000 in
set_option maxHeartbeats 4000000 in
theorem specSel_no (nm : ByteArray) (v nx : Int) (l : List DMsg) (a : Option Addr) (c : Nat) (w : World) (R : Rd w a c 3 l.length (l.flatMap DMsg.cells)) (hl : l.length ≤ 1048576) (g1 : nm.size ≤ 9223372036854775807) (gs : ∀ y ∈ l, y.text.size ≤ 9223372036854775807) (hb : ¬ BoxP nm v nx l) : Calls Try.prog 65 #[.agg #[.string nm, .int .i64 v, .int .i64 nx, .slice a l.length c]] w (SelPost 131 [] w) := by
  have HR := Lib.hid R
  have HGS := Lib.hid gs
  clear R gs
  obtain ⟨i0, hi0, hz0, hz1, hz2⟩ := info_parts info_Reply
  have HB : Hid (Tells false (BoxP nm v nx l)) := ⟨(fun h => by cases h), fun h => (hb h).elim⟩
  clear hb
  go_enter Try.func65, Try.ntmps65
  go_wp2_with (go_at_call 96; refine (specBoxOk_any nm v nx l _ _ _ (HR.out.ext bxt) g1 HGS.out false HB).mono ?_; rintro e w1 ⟨rfl, hb1⟩; have cl0_0 : w1.cell? ⟨w.heap.size, 0, none⟩ = some (.string nm) := (hb1.cell (p := ⟨w.heap.size, 0, none⟩) smx).trans kpx; have cl0_1 : w1.cell? ⟨w.heap.size, 1, none⟩ = some (.int .i64 v) := (hb1.cell (p := ⟨w.heap.size, 1, none⟩) smx).trans kpx; have cl0_2 : w1.cell? ⟨w.heap.size, 2, none⟩ = some (.int .i64 nx) := (hb1.cell (p := ⟨w.heap.size, 2, none⟩) smx).trans kpx; have cl0_3 : w1.cell? ⟨w.heap.size, 3, none⟩ = some (.slice a l.length c) := (hb1.cell (p := ⟨w.heap.size, 3, none⟩) smx).trans kpx; have sl0 : w.heap.size < w1.heap.size := (by have hss := hb1.size; first | omega | (simp at hss; omega)))
  go_ret
  exact ⟨_, _, rfl, Own.none0 _, bxt⟩

set_option maxRecDepth 100000 in
set_option maxHeartbeats 8000000 in
theorem specSel_ok (nm : ByteArray) (v nx : Int) (l : List DMsg) (a : Option Addr) (c : Nat) (w : World) (R : Rd w a c 3 l.length (l.flatMap DMsg.cells)) (hl : l.length ≤ 1048576) (g1 : nm.size ≤ 9223372036854775807) (gs : ∀ y ∈ l, y.text.size ≤ 9223372036854775807) (hb : BoxP nm v nx l) : Calls Try.prog 65 #[.agg #[.string nm, .int .i64 v, .int .i64 nx, .slice a l.length c]] w (SelPost 131 (selTo l l.length ++ [⟨8, v, 0, 0, nm, ⟨#[]⟩⟩]) w) := by
  have HR := Lib.hid R
  have HGS := Lib.hid gs
  clear R gs
  obtain ⟨i0, hi0, hz0, hz1, hz2⟩ := info_parts info_Reply
  have HB : Hid (Tells true (BoxP nm v nx l)) := ⟨fun _ => hb, fun _ => rfl⟩
  have h6 : l.length ≤ 6 := hb.2.2.2.1
  clear hb
  go_enter Try.func65, Try.ntmps65
  go_wp2_with (first | (go_at_call 96; refine (specBoxOk_any nm v nx l _ _ _ (HR.out.ext bxt) g1 HGS.out true HB).mono ?_; rintro e w1 ⟨rfl, hb1⟩; have cl0_0 : w1.cell? ⟨w.heap.size, 0, none⟩ = some (.string nm) := (hb1.cell (p := ⟨w.heap.size, 0, none⟩) smx).trans kpx; have cl0_1 : w1.cell? ⟨w.heap.size, 1, none⟩ = some (.int .i64 v) := (hb1.cell (p := ⟨w.heap.size, 1, none⟩) smx).trans kpx; have cl0_2 : w1.cell? ⟨w.heap.size, 2, none⟩ = some (.int .i64 nx) := (hb1.cell (p := ⟨w.heap.size, 2, none⟩) smx).trans kpx; have cl0_3 : w1.cell? ⟨w.heap.size, 3, none⟩ = some (.slice a l.length c) := (hb1.cell (p := ⟨w.heap.size, 3, none⟩) smx).trans kpx; have sl0 : w.heap.size < w1.heap.size := (by have hss := hb1.size; first | omega | (simp at hss; omega))) | (at_builtin; refine wpList_app (B := w1.heap.size) (v := .slice (some ⟨w.heap.size + 1, 0, none⟩) 0 0) rfl _ _ _ rfl 131 i0 _ _ Try.underlying61 hi0 hz0 hz1 hz2 rfl (by decide) rfl (Own.none0 _) (some ⟨w1.heap.size, 0, none⟩) 2 2 [.int .i64 9, .int .i64 0, .int .i64 0, .int .i64 0, .string ⟨#[]⟩, .string ⟨#[]⟩, .int .i64 1, .int .i64 (l.length : Int), .int .i64 0, .int .i64 0, .string ⟨#[]⟩, .string ⟨#[]⟩] rfl (Rd.lit _ _ _ 2 6 _ (by first | rfl | simp) rfl (by omega)) (by simp [Value.oneCell']) (by omega) (by omega) (by first | exact Nat.le_refl _ | (simp; done) | omega) ?_; intro g q w2 hown hg; simp only [Nat.zero_add, List.nil_append] at hown ⊢; have hgn := grown_below (show World.grownBy _ w2 none from hg); have HO := Lib.hid hown; clear hown hg))
  go_loopw [3, 4] (SelRel 131 l w1) (fun _ i _ => l.length - (intOf i).toNat)
  case atStart => exact ⟨0, g, q, Nat.zero_le _, rfl, rfl, Lib.hid (by simpa [selTo, DReply.cells] using HO.out), bxt⟩
  case round =>
    obtain ⟨k, g, q, hk, rfl, rfl, HO, hb⟩ := hrel
    have hlen : (selTo l k).length ≤ 8 := by (rw [selTo_len]; omega)
    have hbs : w1.heap.size ≤ wr.heap.size := hb.size
    have wr1 : IntKind.i64.wrap ((k : Int) + 1) = (k : Int) + 1 := IntWalk.i64_in _ (by omega)
    have hw0 : Below w.heap.size w wr := bxt
    have c0 : wr.cell? ⟨w.heap.size, 0, none⟩ = some (.string nm) := (hb.cell (p := ⟨w.heap.size, 0, none⟩) sl0).trans cl0_0
    have c1 : wr.cell? ⟨w.heap.size, 1, none⟩ = some (.int .i64 v) := (hb.cell (p := ⟨w.heap.size, 1, none⟩) sl0).trans cl0_1
    have c2 : wr.cell? ⟨w.heap.size, 2, none⟩ = some (.int .i64 nx) := (hb.cell (p := ⟨w.heap.size, 2, none⟩) sl0).trans cl0_2
    have c3 : wr.cell? ⟨w.heap.size, 3, none⟩ = some (.slice a l.length c) := (hb.cell (p := ⟨w.heap.size, 3, none⟩) sl0).trans cl0_3
    have sw0 : w.heap.size < wr.heap.size := by omega
    by_cases hlt : k < l.length
    · obtain ⟨b, o, rfl, hbb, hat⟩ := HR.out.ptr (by omega)
      obtain ⟨x0, x1, x2⟩ := DMsg.at (hat.ext hbb hw0) k hlt
      have HA := Lib.hid hat
      have hbw : b < wr.heap.size := by (have := hw0.size; omega)
      have hbw1 : b < w1.heap.size := by omega
      clear hat
      go_wp2_with fail
      first
        | go_region_law ((refine step_app (B := w1.heap.size) (v := .slice g (selTo l k).length q) (n := (selTo l k).length) (xs := (selTo l k).flatMap DReply.cells) (s := 6) rfl (.tmp 25) (.tmp 41) 61 rfl 131 i0 _ _ Try.underlying61 hi0 hz0 hz1 hz2 rfl (by decide) (by simp [Act.eval, Act.put]) (by repeat' (first | with_reducible exact HO.out | with_reducible refine Own.set_below ?_ smx _ | with_reducible refine Own.alloc1 ?_ _ | with_reducible refine Own.drew1 ?_ | with_reducible refine Own.drewN1 ?_ | with_reducible refine Own.ext ?_ (by assumption))) (some ⟨wr.heap.size, 0, none⟩) 1 1 [.int .i64 3, .int .i64 ((k : Int) + 1), .int .i64 l[k].uid, .int .i64 l[k].flags, .string ⟨#[]⟩, .string ⟨#[]⟩] (by simp [Act.eval, Act.put]) (Rd.lit wr.drew #[.int .i64 3, .int .i64 ((k : Int) + 1), .int .i64 l[k].uid, .int .i64 l[k].flags, .string ⟨#[]⟩, .string ⟨#[]⟩] 131 1 6 wr.heap.size rfl rfl (by omega)) (by simp [Value.oneCell']) (by omega) (by omega) smx ?_; intro g2 q2 w2 hown hg; have hb2 : Below w1.heap.size w1 w2 := below_foot (show Below w1.heap.size w1 _ from bxt) (show Own _ w1.heap.size 131 6 (.slice g (selTo l k).length q) (selTo l k).length ((selTo l k).flatMap DReply.cells) from (by repeat' (first | with_reducible exact HO.out | with_reducible refine Own.set_below ?_ smx _ | with_reducible refine Own.alloc1 ?_ _ | with_reducible refine Own.drew1 ?_ | with_reducible refine Own.drewN1 ?_ | with_reducible refine Own.ext ?_ (by assumption)))) (Nat.le_refl _) (by first | exact Nat.le_refl _ | (simp; omega) | omega) hg; have HN := Lib.hid (SelRel.next hlt hown hb2); clear hown hg))
        | fail
      all_goals
        go_wp2_with fail
        go_roundw
        case rel => exact HN.out
        case measure => simp [intOf]; omega
    · obtain rfl : k = l.length := by omega
      go_wp2_with (at_builtin; refine wpList_app (B := w1.heap.size) (v := .slice g (selTo l l.length).length q) (n := (selTo l l.length).length) (xs := (selTo l l.length).flatMap DReply.cells) (s := 6) rfl _ _ _ rfl 131 i0 _ _ Try.underlying61 hi0 hz0 hz1 hz2 rfl (by decide) rfl (by repeat' (first | with_reducible exact HO.out | with_reducible refine Own.set_below ?_ smx _ | with_reducible refine Own.alloc1 ?_ _ | with_reducible refine Own.drew1 ?_ | with_reducible refine Own.drewN1 ?_ | with_reducible refine Own.ext ?_ (by assumption))) (some ⟨wr.heap.size, 0, none⟩) 1 1 [.int .i64 8, .int .i64 v, .int .i64 0, .int .i64 0, .string nm, .string ⟨#[]⟩] rfl (Rd.lit _ _ _ 1 6 _ (by first | rfl | simp) rfl (by omega)) (by simp [Value.oneCell']) (by omega) (by omega) smx ?_; intro g2 q2 w2 hown hg; have hb2 : Below w1.heap.size w1 w2 := below_foot (show Below w1.heap.size w1 _ from bxt) (show Own _ w1.heap.size 131 6 (.slice g (selTo l l.length).length q) (selTo l l.length).length ((selTo l l.length).flatMap DReply.cells) from (by repeat' (first | with_reducible exact HO.out | with_reducible refine Own.set_below ?_ smx _ | with_reducible refine Own.alloc1 ?_ _ | with_reducible refine Own.drew1 ?_ | with_reducible refine Own.drewN1 ?_ | with_reducible refine Own.ext ?_ (by assumption)))) (Nat.le_refl _) (by first | exact Nat.le_refl _ | (simp; omega) | omega) hg; have HO2 := Lib.hid hown; clear hown hg)
      go_ret
      have h3 : Own w2 w1.heap.size 131 6 (.slice g2 (selTo l l.length ++ [⟨8, v, 0, 0, nm, ⟨#[]⟩⟩] : List DReply).length q2) (selTo l l.length ++ [⟨8, v, 0, 0, nm, ⟨#[]⟩⟩] : List DReply).length ((selTo l l.length ++ [⟨8, v, 0, 0, nm, ⟨#[]⟩⟩] : List DReply).flatMap DReply.cells) := by simpa [DReply.cells] using HO2.out
      exact ⟨g2, q2, by simp, h3.le (by omega), Below.extB (show Below w.heap.size w w1 from bxt) hb2 (by omega)⟩

theorem specSelecting_any (nm : ByteArray) (v nx : Int) (l : List DMsg) (a : Option Addr) (c : Nat) (w : World) (R : Rd w a c 3 l.length (l.flatMap DMsg.cells)) (hl : l.length ≤ 1048576) (g1 : nm.size ≤ 9223372036854775807) (gs : ∀ y ∈ l, y.text.size ≤ 9223372036854775807) (rr : List DReply) (Hrr : Hid (selecting nm v nx l = rr)) : Calls Try.prog 65 #[.agg #[.string nm, .int .i64 v, .int .i64 nx, .slice a l.length c]] w fun e w' => ∃ g q, e = .returned (.slice g rr.length q) ∧ Own w' w.heap.size 131 6 (.slice g rr.length q) rr.length (rr.flatMap DReply.cells) ∧ Ext w w' := by
  obtain rfl := Hrr.out
  by_cases hb : BoxP nm v nx l
  · have e : selecting nm v nx l = selTo l l.length ++ [⟨8, v, 0, 0, nm, ⟨#[]⟩⟩] := by simp [selecting, hb]
    rw [e]; exact specSel_ok nm v nx l a c w R hl g1 gs hb
  · have e : selecting nm v nx l = [] := by simp [selecting, hb]
    rw [e]; exact specSel_no nm v nx l a c w R hl g1 gs hb

end Go.Proofs.Ytpameapajhbdnaa
