/-
  The reference's Applied at a creation, a deletion and a renaming.
  The reference's Applied at a deletion.
  The reference's Applied at a renaming.
-/
import Derived.Test.YtadjlfcdjkikgaaDoorWPlain
import Derived.Test.YtadjlfcdjkikgaaDoorXOwn
import Derived.IntWalk
namespace Go.Proofs.YtadjlfcdjkikgaaDoor
open Go.RowKit
set_option linter.unusedVariables false
set_option linter.unusedSimpArgs false

def AppPost (E EM : Nat) (w : World) (t : List DBox) (b : Bool) : Ending → World → Prop := fun e w' => ∃ g q l', e = .returned (.tuple #[.slice g l'.length q, .bool b]) ∧ OwnBs w' w.heap.size E EM g q l' ∧ l'.map PBox.box = t ∧ Ext w w'
theorem layP_perm (l : List PBox) (x : PBox) : (layP l x).Perm (x :: l) := by
  unfold layP
  rw [List.append_assoc]
  show (l.take (layAt l x.name) ++ x :: l.drop (layAt l x.name)).Perm _
  refine List.perm_middle.trans ?_
  rw [List.take_append_drop]
theorem layP_off {l : List PBox} {x : PBox} (h : (l.map PBox.key).Pairwise Off2) (hx : ∀ y ∈ l, Off2 x.key y.key) : ((layP l x).map PBox.key).Pairwise Off2 := by
  refine ((layP_perm l x).map PBox.key).symm.pairwise ?_ Off2.symm
  rw [List.map_cons]
  refine List.pairwise_cons.2 ⟨fun v hv => ?_, h⟩
  obtain ⟨y, hy, rfl⟩ := List.mem_map.1 hv
  exact hx y hy
theorem erase_off {l : List PBox} {i : Nat} (hi : i < l.length) (h : (l.map PBox.key).Pairwise Off2) : ∀ y ∈ l.eraseIdx i, Off2 l[i].key y.key := by
  intro y hy
  obtain ⟨j, hj, rfl⟩ := List.mem_iff_getElem.1 hy
  have hlen : (l.eraseIdx i).length = l.length - 1 := by rw [List.length_eraseIdx, if_pos hi]
  have hp := List.pairwise_iff_getElem.1 h
  rw [List.getElem_eraseIdx]
  split
  · rename_i hlt
    have := hp j i (by simp; omega) (by simpa using hi) hlt
    simp only [List.getElem_map] at this
    exact this.symm
  · rename_i hge
    have := hp i (j + 1) (by simpa using hi) (by simp; omega) (by omega)
    simpa only [List.getElem_map] using this
theorem sub_off {l m : List PBox} (hs : m.Sublist l) (h : (l.map PBox.key).Pairwise Off2) : (m.map PBox.key).Pairwise Off2 := h.sublist (hs.map _)

set_option maxRecDepth 100000 in
set_option maxHeartbeats 8000000 in
theorem specApplied1_any (l : List PBox) (a : Option Addr) (c : Nat) (m : DCommit) (w : World) (R : Rd w a c 4 l.length (l.flatMap PBox.cells)) (M : RdM w l) (hl : l.length ≤ 4) (hlm : ∀ y ∈ l, y.msgs.length ≤ 6) (gn : ∀ y ∈ l, y.name.size ≤ 9223372036854775807) (gt : ∀ y ∈ l, ∀ m ∈ y.msgs, m.text.size ≤ 9223372036854775807) (g1 : m.name.size ≤ 9223372036854775807) (g2 : m.text.size ≤ 9223372036854775807) (hap : AppliesP (l.map PBox.box) m) (hk : m.kind = 1) :
    Calls Tryd.prog 81 #[.slice a l.length c, .agg #[.int .i64 m.kind, .int .i64 m.validity, .int .i64 m.uid, .int .i64 m.flags, .string m.name, .string m.text]] w (AppPost 85 111 w (layD (l.map PBox.box) ⟨m.name, m.validity, 1, []⟩) true) := by
  obtain ⟨i0, hi0, hz0, hz1, hz2⟩ := info_parts info_Box
  obtain ⟨j0, hj0, hy0, hy1, hy2⟩ := info_parts info_Msg
  have HR := Lib.hid R
  have HM := Lib.hid M
  have HLM := Lib.hid hlm
  have HT : Hid (Tells true (AppliesP (l.map PBox.box) m)) := Lib.hid ⟨fun _ => hap, fun _ => rfl⟩
  have HGN := Lib.hid gn
  have HGT := Lib.hid gt
  obtain ⟨z, hz⟩ : ∃ z, boxWith m.validity (l.map PBox.box) = z := ⟨_, rfl⟩
  have HZ := Lib.hid hz
  have k1 : (m.kind == 1) = true := by rw [hk]; rfl
  have HK := Lib.hid hk
  clear R M hlm hap gn gt hz hk
  go_enter Tryd.func81, Tryd.ntmps81
  go_wp2_with (first | (go_at_call 96; refine (specCopies_any l a c _ (HR.out.ext bxt) (RdM.ext HM.out (show Below w.heap.size w _ from bxt)) (by omega) (fun y hy => by have := HLM.out y hy; omega)).mono ?_; rintro e w1 ⟨gb, q, zs, rfl, hown, hzb, hb1⟩; have cl0_0 : w1.cell? ⟨w.heap.size, 0, none⟩ = some (.int .i64 m.kind) := (hb1.cell (p := ⟨w.heap.size, 0, none⟩) smx).trans kpx; have cl0_1 : w1.cell? ⟨w.heap.size, 1, none⟩ = some (.int .i64 m.validity) := (hb1.cell (p := ⟨w.heap.size, 1, none⟩) smx).trans kpx; have cl0_2 : w1.cell? ⟨w.heap.size, 2, none⟩ = some (.int .i64 m.uid) := (hb1.cell (p := ⟨w.heap.size, 2, none⟩) smx).trans kpx; have cl0_3 : w1.cell? ⟨w.heap.size, 3, none⟩ = some (.int .i64 m.flags) := (hb1.cell (p := ⟨w.heap.size, 3, none⟩) smx).trans kpx; have cl0_4 : w1.cell? ⟨w.heap.size, 4, none⟩ = some (.string m.name) := (hb1.cell (p := ⟨w.heap.size, 4, none⟩) smx).trans kpx; have cl0_5 : w1.cell? ⟨w.heap.size, 5, none⟩ = some (.string m.text) := (hb1.cell (p := ⟨w.heap.size, 5, none⟩) smx).trans kpx; have sl0 : w.heap.size < w1.heap.size := (by have hss := hb1.size; first | omega | (simp at hss; omega)); have HO1 : Hid (OwnBs w1 (w.heap.size + 1) 85 111 (some ⟨gb, 0, none⟩) q zs) := OwnBs.le hown (by first | (simp; done) | (simp; omega)); have HO : Hid (OwnBs w1 w.heap.size 85 111 (some ⟨gb, 0, none⟩) q zs) := OwnBs.le HO1.out (by omega); have hs1 : w.heap.size + 1 ≤ w1.heap.size := (by have hss := hb1.size; first | omega | (simp at hss; omega)); have HZB := Lib.hid hzb; have HZL := Lib.hid (box_len hzb); have hzs : zs.length ≤ 4 := (by rw [HZL.out]; exact hl); clear hown hzb) | (go_at_call 97; refine (specApplies_any l a c m _ (HR.out.ext bxt) (RdM.ext HM.out (show Below w.heap.size w _ from bxt)) HGN.out HGT.out g1 g2 true HT).mono ?_; rintro e w2 ⟨rfl, hb2⟩; have cm0_0 : w2.cell? ⟨w.heap.size, 0, none⟩ = some (.int .i64 m.kind) := (hb2.cell (p := ⟨w.heap.size, 0, none⟩) smx).trans kpx; have cm0_1 : w2.cell? ⟨w.heap.size, 1, none⟩ = some (.int .i64 m.validity) := (hb2.cell (p := ⟨w.heap.size, 1, none⟩) smx).trans kpx; have cm0_2 : w2.cell? ⟨w.heap.size, 2, none⟩ = some (.int .i64 m.uid) := (hb2.cell (p := ⟨w.heap.size, 2, none⟩) smx).trans kpx; have cm0_3 : w2.cell? ⟨w.heap.size, 3, none⟩ = some (.int .i64 m.flags) := (hb2.cell (p := ⟨w.heap.size, 3, none⟩) smx).trans kpx; have cm0_4 : w2.cell? ⟨w.heap.size, 4, none⟩ = some (.string m.name) := (hb2.cell (p := ⟨w.heap.size, 4, none⟩) smx).trans kpx; have cm0_5 : w2.cell? ⟨w.heap.size, 5, none⟩ = some (.string m.text) := (hb2.cell (p := ⟨w.heap.size, 5, none⟩) smx).trans kpx; have sm0 : w.heap.size < w2.heap.size := (by have hss := hb2.size; first | omega | (simp at hss; omega))) | (go_at_call 98; refine (specBoxWith_any l _ _ m.validity _ (HR.out.ext bxt) z HZ).mono ?_; rintro e wx ⟨rfl, hwx⟩; subst wx) | (go_at_call 99; refine (lay_any zs gb 0 q (⟨m.name, m.validity, 1, [], none, 0⟩ : PBox) _ ((HO.out.rd).ext bxt) (by omega)).mono ?_; rintro e w4 ⟨g4, q4, rfl, hown4, hb4⟩; have hp := OwnBs.make (B := w.heap.size) (m := layP zs (⟨m.name, m.validity, 1, [], none, 0⟩ : PBox)) (fun z hz => (List.mem_cons.1 ((layP_perm zs (⟨m.name, m.validity, 1, [], none, 0⟩ : PBox)).subset hz)).elim (fun h => by (rw [h]; exact Own.none0 _)) (fun h => (show OwnBs _ w.heap.size 85 111 (some ⟨gb, 0, none⟩) q zs from OwnBs.ext HO.out (show Below w1.heap.size w1 _ from bxt)).msg z h)) (layP_off HO.out.apart (fun y hy => Or.inl rfl)) hb4 hown4 smx; have HP := Lib.hid hp; clear hown4 hp))
  refine bodyPost_ret (v := .tuple #[.slice g4 (layP zs (⟨m.name, m.validity, 1, [], none, 0⟩ : PBox)).length q4, .bool true]) (by simp [results, Tryd.results81, go_sem, *]) rfl ⟨g4, q4, layP zs (⟨m.name, m.validity, 1, [], none, 0⟩ : PBox), rfl, HP.out, by rw [layP_box, HZB.out]; rfl, bxt⟩
end Go.Proofs.YtadjlfcdjkikgaaDoor

namespace Go.Proofs.YtadjlfcdjkikgaaDoor
open Go.RowKit
set_option linter.unusedVariables false
set_option linter.unusedSimpArgs false

set_option maxRecDepth 100000 in
set_option maxHeartbeats 8000000 in
theorem specApplied2_any (l : List PBox) (a : Option Addr) (c i : Nat) (m : DCommit) (w : World) (R : Rd w a c 4 l.length (l.flatMap PBox.cells)) (M : RdM w l) (hl : l.length ≤ 4) (hlm : ∀ y ∈ l, y.msgs.length ≤ 6) (gn : ∀ y ∈ l, y.name.size ≤ 9223372036854775807) (gt : ∀ y ∈ l, ∀ m ∈ y.msgs, m.text.size ≤ 9223372036854775807) (g1 : m.name.size ≤ 9223372036854775807) (g2 : m.text.size ≤ 9223372036854775807) (hap : AppliesP (l.map PBox.box) m) (hk : m.kind = 2) (hi : i < l.length) (hz : boxWith m.validity (l.map PBox.box) = (i : Int)) :
    Calls Tryd.prog 81 #[.slice a l.length c, .agg #[.int .i64 m.kind, .int .i64 m.validity, .int .i64 m.uid, .int .i64 m.flags, .string m.name, .string m.text]] w (AppPost 85 111 w ((l.map PBox.box).eraseIdx i) true) := by
  obtain ⟨i0, hi0, hz0, hz1, hz2⟩ := info_parts info_Box
  obtain ⟨j0, hj0, hy0, hy1, hy2⟩ := info_parts info_Msg
  have HR := Lib.hid R
  have HM := Lib.hid M
  have HLM := Lib.hid hlm
  have HT : Hid (Tells true (AppliesP (l.map PBox.box) m)) := Lib.hid ⟨fun _ => hap, fun _ => rfl⟩
  have HGN := Lib.hid gn
  have HGT := Lib.hid gt
  have HZ := Lib.hid hz
  have k1 : (m.kind == 1) = false := by rw [hk]; rfl
  have k2 : (m.kind == 2) = true := by rw [hk]; rfl
  have HK := Lib.hid hk
  clear R M hlm hap gn gt hz hk
  go_enter Tryd.func81, Tryd.ntmps81
  go_wp2_with (first | (go_at_call 96; refine (specCopies_any l a c _ (HR.out.ext bxt) (RdM.ext HM.out (show Below w.heap.size w _ from bxt)) (by omega) (fun y hy => by have := HLM.out y hy; omega)).mono ?_; rintro e w1 ⟨gb, q, zs, rfl, hown, hzb, hb1⟩; have cl0_0 : w1.cell? ⟨w.heap.size, 0, none⟩ = some (.int .i64 m.kind) := (hb1.cell (p := ⟨w.heap.size, 0, none⟩) smx).trans kpx; have cl0_1 : w1.cell? ⟨w.heap.size, 1, none⟩ = some (.int .i64 m.validity) := (hb1.cell (p := ⟨w.heap.size, 1, none⟩) smx).trans kpx; have cl0_2 : w1.cell? ⟨w.heap.size, 2, none⟩ = some (.int .i64 m.uid) := (hb1.cell (p := ⟨w.heap.size, 2, none⟩) smx).trans kpx; have cl0_3 : w1.cell? ⟨w.heap.size, 3, none⟩ = some (.int .i64 m.flags) := (hb1.cell (p := ⟨w.heap.size, 3, none⟩) smx).trans kpx; have cl0_4 : w1.cell? ⟨w.heap.size, 4, none⟩ = some (.string m.name) := (hb1.cell (p := ⟨w.heap.size, 4, none⟩) smx).trans kpx; have cl0_5 : w1.cell? ⟨w.heap.size, 5, none⟩ = some (.string m.text) := (hb1.cell (p := ⟨w.heap.size, 5, none⟩) smx).trans kpx; have sl0 : w.heap.size < w1.heap.size := (by have hss := hb1.size; first | omega | (simp at hss; omega)); have HO1 : Hid (OwnBs w1 (w.heap.size + 1) 85 111 (some ⟨gb, 0, none⟩) q zs) := OwnBs.le hown (by first | (simp; done) | (simp; omega)); have HO : Hid (OwnBs w1 w.heap.size 85 111 (some ⟨gb, 0, none⟩) q zs) := OwnBs.le HO1.out (by omega); have hs1 : w.heap.size + 1 ≤ w1.heap.size := (by have hss := hb1.size; first | omega | (simp at hss; omega)); have HZB := Lib.hid hzb; have HZL := Lib.hid (box_len hzb); have hzs : zs.length ≤ 4 := (by rw [HZL.out]; exact hl); have hiz : i < zs.length := (by rw [HZL.out]; exact hi); have hq : q ≠ 0 := (by have := HO.out.row.cap; omega); have h11 : (i : Int) < (zs.length : Int) := (by omega); have h12 : (0 : Int) ≤ (i : Int) := (by omega); have hgb1 : gb < w1.heap.size := (HO.out.row.lt gb (by simp [foot, hq])).2; clear hown hzb) | (go_at_call 97; refine (specApplies_any l a c m _ (HR.out.ext bxt) (RdM.ext HM.out (show Below w.heap.size w _ from bxt)) HGN.out HGT.out g1 g2 true HT).mono ?_; rintro e w2 ⟨rfl, hb2⟩; have cm0_0 : w2.cell? ⟨w.heap.size, 0, none⟩ = some (.int .i64 m.kind) := (hb2.cell (p := ⟨w.heap.size, 0, none⟩) smx).trans kpx; have cm0_1 : w2.cell? ⟨w.heap.size, 1, none⟩ = some (.int .i64 m.validity) := (hb2.cell (p := ⟨w.heap.size, 1, none⟩) smx).trans kpx; have cm0_2 : w2.cell? ⟨w.heap.size, 2, none⟩ = some (.int .i64 m.uid) := (hb2.cell (p := ⟨w.heap.size, 2, none⟩) smx).trans kpx; have cm0_3 : w2.cell? ⟨w.heap.size, 3, none⟩ = some (.int .i64 m.flags) := (hb2.cell (p := ⟨w.heap.size, 3, none⟩) smx).trans kpx; have cm0_4 : w2.cell? ⟨w.heap.size, 4, none⟩ = some (.string m.name) := (hb2.cell (p := ⟨w.heap.size, 4, none⟩) smx).trans kpx; have cm0_5 : w2.cell? ⟨w.heap.size, 5, none⟩ = some (.string m.text) := (hb2.cell (p := ⟨w.heap.size, 5, none⟩) smx).trans kpx; have sm0 : w.heap.size < w2.heap.size := (by have hss := hb2.size; first | omega | (simp at hss; omega))) | (go_at_call 98; refine (specBoxWith_any l _ _ m.validity _ (HR.out.ext bxt) (i : Int) HZ).mono ?_; rintro e wx ⟨rfl, hwx⟩; subst wx) | (go_at_call 100; refine (without_any zs (some ⟨gb, 0, none⟩) q i _ ((HO.out.rd).ext bxt) hiz (by omega)).mono ?_; rintro e w4 ⟨g4, q4, rfl, hown4, hb4⟩; have hp := OwnBs.make (B := w.heap.size) (m := zs.eraseIdx i) (fun z hz => (show OwnBs _ w.heap.size 85 111 (some ⟨gb, 0, none⟩) q zs from OwnBs.ext HO.out (show Below w1.heap.size w1 _ from bxt)).msg z ((List.eraseIdx_sublist ..).subset hz)) (sub_off (List.eraseIdx_sublist ..) HO.out.apart) hb4 hown4 smx; have HP := Lib.hid hp; clear hown4 hp))
  refine bodyPost_ret (v := .tuple #[.slice g4 (zs.eraseIdx i).length q4, .bool true]) (by simp [results, Tryd.results81, go_sem, *]) rfl ⟨g4, q4, zs.eraseIdx i, rfl, HP.out, by rw [← HZB.out]; simp [List.eraseIdx_eq_take_drop_succ, List.map_take, List.map_drop], bxt⟩
end Go.Proofs.YtadjlfcdjkikgaaDoor

namespace Go.Proofs.YtadjlfcdjkikgaaDoor
open Go.RowKit
set_option linter.unusedVariables false
set_option linter.unusedSimpArgs false

section
variable {P : Program} {w : World}
theorem step_app0 {ops : Array Oper} {o : Oper} {a : Act} {K : Act → World → Prop} {Q : Exit → Act → World → Prop} {Els : Prop} (hgd : o.guard = none) (sl x : Operand) (t : TypeId)
    (ho : o.op = .call { callee := .builtin .append, args := #[sl, x], argTypes := #[t, t] })
    (e : TypeId) (i : TypeInfo) (ht : P.underlying t = some (.slice e)) (hi : P.info? e = some i) (va ra : Option Addr) (n vc c : Nat)
    (hs : a.eval sl = .slice va n vc) (hnc : n ≤ vc) (hx : a.eval x = .slice ra 0 c) (h : K (a.put o.dst (.slice va n vc)) w) :
    if Region.wanted o (yielded ops a.tmps) = true then Oper.wp P o a w K Q else Els := by
  have hw : Region.wanted o (yielded ops a.tmps) = true := by simp [Region.wanted, hgd]
  rw [if_pos hw]
  have hr : (Builtin.append_ #[t, t] o.type #[.slice va n vc, .slice ra 0 c]).run P w = .ok (.slice va n vc) w := by
    have hf : (Builtin.firstCells i.size 0 (.slice ra 0 c)).run P w = .ok #[] w := run_noNews i.size 0 c ra (by simp)
    cases va with
    | none => simp [Builtin.append_, run_underlying ht, sizeOf, typeInfo, hi, Builtin.lenOf, hf, hnc]
    | some g => simp [Builtin.append_, run_underlying ht, sizeOf, typeInfo, hi, Builtin.lenOf, hf, hnc, storeCells]
  unfold Oper.wp execOp
  simp only [ho, resolve, invoke, builtin, Sem.run_bind, Sem.run_pure, Result.andThen_ok, List.map_toArray, List.map_cons, List.map_nil, hs, hx, hr]
  exact h
end
set_option maxRecDepth 100000 in
set_option maxHeartbeats 4000000 in
theorem without0_any (b o c : Nat) (w : World) (hc : 1 ≤ c) :
    Calls Tryd.prog 100 #[.slice (some ⟨b, o, none⟩) 1 c, .int .i64 ((0 : Nat) : Int)] w fun e w' => e = .returned (.slice (some ⟨w.heap.size, 0, none⟩) 0 0) ∧ Ext w w' := by
  obtain ⟨i0, hi0, hz0, hz1, hz2⟩ := info_parts info_Box
  have h7 : (1 : Int) ≤ (c : Int) := by omega
  have h6 : (0 : Int) ≤ (c : Int) := by omega
  have h10 : IntKind.i64.wrap (1 : Int) = 1 := rfl
  go_enter Tryd.func100, Tryd.ntmps100
  go_wp2_with fail
  go_region_law (first | (refine step_app0 rfl (.tmp 5) (.tmp 8) 95 rfl 85 i0 Tryd.underlying95 hi0 (some ⟨w.heap.size, 0, none⟩) (some ⟨b, o, none⟩) 0 0 c (by simp [Act.eval, Act.put]) (Nat.le_refl _) (by simp [Act.eval, Act.put]) ?_) | (refine step_app0 rfl (.tmp 9) (.tmp 13) 95 rfl 85 i0 Tryd.underlying95 hi0 (some ⟨w.heap.size, 0, none⟩) (if c = 1 then (some ⟨b, o, none⟩) else some ⟨b, o + 4, none⟩) 0 0 (c - 1) (by simp [Act.eval, Act.put]) (Nat.le_refl _) (by simp [Act.eval, Act.put]) ?_))
  all_goals go_wp2_with fail
  all_goals go_ret
  all_goals exact ⟨rfl, bxt⟩
theorem without_some (l : List PBox) (a : Option Addr) (c i : Nat) (w : World) (R : Rd w a c 4 l.length (l.flatMap PBox.cells)) (hi : i < l.length) (hl : l.length ≤ 1048576) :
    Calls Tryd.prog 100 #[.slice a l.length c, .int .i64 i] w fun e w' => ∃ gb q : Nat, e = .returned (.slice (some ⟨gb, 0, none⟩) (l.eraseIdx i).length q) ∧ Own w' w.heap.size 85 4 (.slice (some ⟨gb, 0, none⟩) (l.eraseIdx i).length q) (l.eraseIdx i).length ((l.eraseIdx i).flatMap PBox.cells) ∧ Ext w w' := by
  have hlen : (l.eraseIdx i).length = l.length - 1 := by rw [List.length_eraseIdx, if_pos hi]
  by_cases h1 : l.length = 1
  · obtain ⟨b, o, rfl, -, -⟩ := R.ptr (by omega)
    have hnc := R.nc
    obtain rfl : i = 0 := by omega
    have h0 : l.eraseIdx 0 = [] := List.eq_nil_of_length_eq_zero (by omega)
    rw [h1]
    refine (without0_any b o c w (by omega)).mono ?_
    rintro e w' ⟨rfl, hb⟩
    rw [h0]
    exact ⟨w.heap.size, 0, rfl, Own.none0 _, hb⟩
  · refine (without_any l a c i w R hi hl).mono ?_
    rintro e w' ⟨g, q, rfl, hown, hb⟩
    have hq : q ≠ 0 := by have := hown.cap; omega
    obtain ⟨gb, rfl, -⟩ := hown.row hq
    exact ⟨gb, q, rfl, hown, hb⟩

set_option maxRecDepth 100000 in
set_option maxHeartbeats 8000000 in
theorem specApplied3_any (l : List PBox) (a : Option Addr) (c i : Nat) (m : DCommit) (w : World) (R : Rd w a c 4 l.length (l.flatMap PBox.cells)) (M : RdM w l) (hl : l.length ≤ 4) (hlm : ∀ y ∈ l, y.msgs.length ≤ 6) (gn : ∀ y ∈ l, y.name.size ≤ 9223372036854775807) (gt : ∀ y ∈ l, ∀ m ∈ y.msgs, m.text.size ≤ 9223372036854775807) (g1 : m.name.size ≤ 9223372036854775807) (g2 : m.text.size ≤ 9223372036854775807) (hap : AppliesP (l.map PBox.box) m) (hk : m.kind = 3) (hi : i < l.length) (hz : boxWith m.validity (l.map PBox.box) = (i : Int)) :
    Calls Tryd.prog 81 #[.slice a l.length c, .agg #[.int .i64 m.kind, .int .i64 m.validity, .int .i64 m.uid, .int .i64 m.flags, .string m.name, .string m.text]] w (AppPost 85 111 w (layD ((l.map PBox.box).eraseIdx i) ⟨m.name, l[i].validity, l[i].next, l[i].msgs⟩) true) := by
  obtain ⟨i0, hi0, hz0, hz1, hz2⟩ := info_parts info_Box
  obtain ⟨j0, hj0, hy0, hy1, hy2⟩ := info_parts info_Msg
  have HR := Lib.hid R
  have HM := Lib.hid M
  have HLM := Lib.hid hlm
  have HT : Hid (Tells true (AppliesP (l.map PBox.box) m)) := Lib.hid ⟨fun _ => hap, fun _ => rfl⟩
  have HGN := Lib.hid gn
  have HGT := Lib.hid gt
  have HZ := Lib.hid hz
  have k1 : (m.kind == 1) = false := by rw [hk]; rfl
  have k2 : (m.kind == 2) = false := by rw [hk]; rfl
  have k3 : (m.kind == 3) = true := by rw [hk]; rfl
  have HK := Lib.hid hk
  clear R M hlm hap gn gt hz hk
  go_enter Tryd.func81, Tryd.ntmps81
  go_wp2_with (first | (go_at_call 96; refine (specCopies_any l a c _ (HR.out.ext bxt) (RdM.ext HM.out (show Below w.heap.size w _ from bxt)) (by omega) (fun y hy => by have := HLM.out y hy; omega)).mono ?_; rintro e w1 ⟨gb, q, zs, rfl, hown, hzb, hb1⟩; have cl0_0 : w1.cell? ⟨w.heap.size, 0, none⟩ = some (.int .i64 m.kind) := (hb1.cell (p := ⟨w.heap.size, 0, none⟩) smx).trans kpx; have cl0_1 : w1.cell? ⟨w.heap.size, 1, none⟩ = some (.int .i64 m.validity) := (hb1.cell (p := ⟨w.heap.size, 1, none⟩) smx).trans kpx; have cl0_2 : w1.cell? ⟨w.heap.size, 2, none⟩ = some (.int .i64 m.uid) := (hb1.cell (p := ⟨w.heap.size, 2, none⟩) smx).trans kpx; have cl0_3 : w1.cell? ⟨w.heap.size, 3, none⟩ = some (.int .i64 m.flags) := (hb1.cell (p := ⟨w.heap.size, 3, none⟩) smx).trans kpx; have cl0_4 : w1.cell? ⟨w.heap.size, 4, none⟩ = some (.string m.name) := (hb1.cell (p := ⟨w.heap.size, 4, none⟩) smx).trans kpx; have cl0_5 : w1.cell? ⟨w.heap.size, 5, none⟩ = some (.string m.text) := (hb1.cell (p := ⟨w.heap.size, 5, none⟩) smx).trans kpx; have sl0 : w.heap.size < w1.heap.size := (by have hss := hb1.size; first | omega | (simp at hss; omega)); have HO1 : Hid (OwnBs w1 (w.heap.size + 1) 85 111 (some ⟨gb, 0, none⟩) q zs) := OwnBs.le hown (by first | (simp; done) | (simp; omega)); have HO : Hid (OwnBs w1 w.heap.size 85 111 (some ⟨gb, 0, none⟩) q zs) := OwnBs.le HO1.out (by omega); have hs1 : w.heap.size + 1 ≤ w1.heap.size := (by have hss := hb1.size; first | omega | (simp at hss; omega)); have HZB := Lib.hid hzb; have HZL := Lib.hid (box_len hzb); have hzs : zs.length ≤ 4 := (by rw [HZL.out]; exact hl); have hiz : i < zs.length := (by rw [HZL.out]; exact hi); have hq : q ≠ 0 := (by have := HO.out.row.cap; omega); have h11 : (i : Int) < (zs.length : Int) := (by omega); have h12 : (0 : Int) ≤ (i : Int) := (by omega); have hgb1 : gb < w1.heap.size := (HO.out.row.lt gb (by simp [foot, hq])).2; clear hown hzb) | (go_at_call 97; refine (specApplies_any l a c m _ (HR.out.ext bxt) (RdM.ext HM.out (show Below w.heap.size w _ from bxt)) HGN.out HGT.out g1 g2 true HT).mono ?_; rintro e w2 ⟨rfl, hb2⟩; have cm0_0 : w2.cell? ⟨w.heap.size, 0, none⟩ = some (.int .i64 m.kind) := (hb2.cell (p := ⟨w.heap.size, 0, none⟩) smx).trans kpx; have cm0_1 : w2.cell? ⟨w.heap.size, 1, none⟩ = some (.int .i64 m.validity) := (hb2.cell (p := ⟨w.heap.size, 1, none⟩) smx).trans kpx; have cm0_2 : w2.cell? ⟨w.heap.size, 2, none⟩ = some (.int .i64 m.uid) := (hb2.cell (p := ⟨w.heap.size, 2, none⟩) smx).trans kpx; have cm0_3 : w2.cell? ⟨w.heap.size, 3, none⟩ = some (.int .i64 m.flags) := (hb2.cell (p := ⟨w.heap.size, 3, none⟩) smx).trans kpx; have cm0_4 : w2.cell? ⟨w.heap.size, 4, none⟩ = some (.string m.name) := (hb2.cell (p := ⟨w.heap.size, 4, none⟩) smx).trans kpx; have cm0_5 : w2.cell? ⟨w.heap.size, 5, none⟩ = some (.string m.text) := (hb2.cell (p := ⟨w.heap.size, 5, none⟩) smx).trans kpx; have sm0 : w.heap.size < w2.heap.size := (by have hss := hb2.size; first | omega | (simp at hss; omega)); obtain ⟨x0, x1, x2, x3⟩ := (OwnBs.ext HO.out (show Below w1.heap.size w1 w2 from bxt)).cells hiz; have hgb2 : gb < w2.heap.size := (by have hss := hb2.size; first | omega | (simp at hss; omega)); have hs12 : w1.heap.size ≤ w2.heap.size := (by have hss := hb2.size; first | omega | (simp at hss; omega))) | (go_at_call 98; refine (specBoxWith_any l _ _ m.validity _ (HR.out.ext bxt) (i : Int) HZ).mono ?_; rintro e wx ⟨rfl, hwx⟩; subst wx))
  refine wp_world (fun W hW => ?_)
  have hwW : Below w.heap.size w W := by (rw [hW]; exact bxt)
  have hwW1 : Below w1.heap.size w1 W := by (rw [hW]; exact bxt)
  have bx0 : W.cell? ⟨w2.heap.size, 0, none⟩ = some (.string m.name) := by (rw [hW]; simp [go_sem])
  have bx1 : W.cell? ⟨w2.heap.size, 1, none⟩ = some (.int .i64 zs[i].validity) := by (rw [hW]; simp [go_sem])
  have bx2 : W.cell? ⟨w2.heap.size, 2, none⟩ = some (.int .i64 zs[i].next) := by (rw [hW]; simp [go_sem])
  have bx3 : W.cell? ⟨w2.heap.size, 3, none⟩ = some (.slice zs[i].ma zs[i].msgs.length zs[i].mc) := by (rw [hW]; simp [go_sem])
  have sW : w2.heap.size < W.heap.size := by (rw [hW]; simp)
  have HOW : Hid (OwnBs W w.heap.size 85 111 (some ⟨gb, 0, none⟩) q zs) := OwnBs.ext HO.out hwW1
  clear hW
  go_region_held3 (fun w' => Below W.heap.size W w' ∧ (∀ b o, b < W.heap.size → w'.cell? ⟨b, o, none⟩ = W.cell? ⟨b, o, none⟩)) (first | with_reducible exact sBeg _ | with_reducible exact sExt (by assumption) (by assumption)) ((first | (go_at_call 100; refine (without_some zs (some ⟨gb, 0, none⟩) q i _ (HOW.out.rd.ext bxt) hiz (by omega)).mono ?_; rintro e w4 ⟨g4, q4, rfl, hown4, hb4⟩; have hle4 : W.heap.size ≤ w4.heap.size := (show Below W.heap.size W w4 from bxt).size; have HOW4 := Lib.hid hown4; clear hown4) | (go_at_call 99; refine (lay_any (zs.eraseIdx i) g4 0 q4 (⟨m.name, zs[i].validity, zs[i].next, zs[i].msgs, zs[i].ma, zs[i].mc⟩ : PBox) _ ((Rd.of_Own HOW4.out).ext bxt) (by have := List.length_eraseIdx_le zs i; omega)).mono ?_; rintro e w5 ⟨g5, q5, rfl, hown5, hb5⟩; have HOW5 := Lib.hid hown5; clear hown5)))
  have hwb : Below W.heap.size W w5 := bxt
  have HP : Hid (OwnBs w5 w.heap.size 85 111 g5 q5 (layP (zs.eraseIdx i) (⟨m.name, zs[i].validity, zs[i].next, zs[i].msgs, zs[i].ma, zs[i].mc⟩ : PBox))) := OwnBs.make (B := w.heap.size) (fun z hz => (List.mem_cons.1 ((layP_perm _ _).subset hz)).elim (fun h => by (rw [h]; exact HOW.out.msg zs[i] (List.getElem_mem hiz))) (fun h => HOW.out.msg z ((List.eraseIdx_sublist ..).subset h))) (layP_off (sub_off (List.eraseIdx_sublist ..) HOW.out.apart) (erase_off hiz HOW.out.apart)) hwb (HOW5.out.le (by first | exact hle4 | omega)) hwW.size
  have hbi : zs[i].box = l[i].box := box_at HZB.out i hiz hi
  go_wp2_with fail
  refine bodyPost_ret (v := .tuple #[.slice g5 (layP (zs.eraseIdx i) (⟨m.name, zs[i].validity, zs[i].next, zs[i].msgs, zs[i].ma, zs[i].mc⟩ : PBox)).length q5, .bool true]) (by simp [results, Tryd.results81, go_sem, *]) rfl ⟨g5, q5, layP (zs.eraseIdx i) (⟨m.name, zs[i].validity, zs[i].next, zs[i].msgs, zs[i].ma, zs[i].mc⟩ : PBox), rfl, HP.out, ?_, Below.ext hwW hwb⟩
  rw [layP_box, List.eraseIdx_eq_take_drop_succ, List.eraseIdx_eq_take_drop_succ, List.map_append, List.map_take, List.map_drop, HZB.out]
  simp only [PBox.box, DBox.mk.injEq] at hbi ⊢
  rw [hbi.2.1, hbi.2.2.1, hbi.2.2.2]
end Go.Proofs.YtadjlfcdjkikgaaDoor
