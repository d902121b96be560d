/-
  Copies of mailboxes: the program's functions and the reference's.
-/
import Derived.Test.YtadjlfcdjkikgaaDoorXFam
import Derived.Test.YtadjlfcdjkikgaaDoorListMsg
import Derived.Test.YtadjlfcdjkikgaaDoorXMarkS
namespace Go.Proofs.YtadjlfcdjkikgaaDoor
open Go.RowKit
set_option linter.unusedVariables false
set_option linter.unusedSimpArgs false

theorem PBox.one (x : PBox) : ∀ u ∈ x.cells, u.oneCell' = true := by simp [PBox.cells, Value.oneCell']
theorem OwnBs.nil (w : World) (B E EM : Nat) (a : Option Addr) : OwnBs w B E EM a 0 [] := ⟨Own.none0 _, by simp, by simp, by simp⟩
/-- one mailbox more at the end -/
theorem OwnBs.push {wx w2 : World} {B E EM q q2 : Nat} {g g2 : Option Addr} {zs : List PBox} {z : PBox} (h : OwnBs wx B E EM g q zs) (hzo : Own wx B EM 3 (.slice z.ma z.msgs.length z.mc) z.msgs.length (z.msgs.flatMap DMsg.cells))
    (hz1 : Off2 z.key (.slice g zs.length q)) (hz2 : ∀ y ∈ zs, Off2 y.key z.key) (hown : Own w2 B E 4 (.slice g2 (zs.length + 1) q2) (zs.length + 1) (zs.flatMap PBox.cells ++ z.cells)) (hg : wx.grownBy w2 (foot (.slice g zs.length q)))
    (hw : ∀ x, foot (.slice g2 (zs.length + 1) q2) = some x → foot (.slice g zs.length q) = some x ∨ x = wx.heap.size) : OwnBs w2 B E EM g2 q2 (zs ++ [z]) := by
  have hl : (zs ++ [z]).length = zs.length + 1 := by simp
  have hz3 : ∀ v ∈ (zs ++ [z]).map PBox.key, Off2 v (.slice g zs.length q) ∧ ∀ x, foot v = some x → x < wx.heap.size := fun v hv => by
    obtain ⟨y, hy, rfl⟩ := List.mem_map.1 hv
    rcases List.mem_append.1 hy with hy | hy
    · exact ⟨h.off _ (List.mem_map_of_mem hy), fun x hx => ((h.msg y hy).lt x hx).2⟩
    · obtain rfl : y = z := by simpa using hy
      exact ⟨hz1, fun x hx => (hzo.lt x hx).2⟩
  refine ⟨by rw [hl]; simpa using hown, fun y hy => ?_, fun v hv => ?_, ?_⟩
  · rcases List.mem_append.1 hy with hy | hy
    · exact (h.msg y hy).off hg (h.off _ (List.mem_map_of_mem hy))
    · obtain rfl : y = z := by simpa using hy
      exact hzo.off hg hz1
  · rw [hl]
    obtain ⟨h4, h5⟩ := hz3 v hv
    cases hf : foot v with
    | none => exact Or.inl hf
    | some x =>
      refine Or.inr (fun e => ?_)
      rw [hf] at e
      rcases hw x e.symm with h6 | h6
      · rcases h4 with h7 | h7
        · rw [h7] at hf; cases hf
        · exact h7 (by rw [hf, h6])
      · have := h5 x hf; omega
  · rw [List.map_append, List.pairwise_append]
    refine ⟨h.apart, by simp, fun v hv u hu => ?_⟩
    obtain ⟨y, hy, rfl⟩ := List.mem_map.1 hv
    obtain rfl : u = z.key := by simpa using hu
    exact hz2 y hy
def CopyRel (E EM : Nat) (l : List PBox) (W : World) (v i : Value) (wr : World) : Prop :=
  ∃ (k : Nat) (zs : List PBox) (gb q : Nat), k ≤ l.length ∧ i = .int .i64 k ∧ v = .slice (some ⟨gb, 0, none⟩) zs.length q ∧ Hid (zs.map PBox.box = (l.take k).map PBox.box) ∧ Hid (OwnBs wr W.heap.size E EM (some ⟨gb, 0, none⟩) q zs) ∧ Below W.heap.size W wr
theorem CopyRel.next {E EM k q2 : Nat} {g2 : Option Addr} {l zs : List PBox} {z : PBox} {W w2 : World} (hk : k < l.length) (hz : zs.map PBox.box = (l.take k).map PBox.box) (hzb : z.box = l[k].box) (h : OwnBs w2 W.heap.size E EM g2 q2 (zs ++ [z])) (hb : Below W.heap.size W w2) :
    CopyRel E EM l W (.slice g2 (zs.length + 1) q2) (.int .i64 ((k : Int) + 1)) w2 := by
  have hq : q2 ≠ 0 := by
    have := h.row.cap
    simp only [List.length_append, List.length_cons] at this
    omega
  obtain ⟨gb, rfl, -⟩ := h.row.row hq
  exact ⟨k + 1, zs ++ [z], gb, q2, hk, by simp, by simp, by unfold Hid; rw [List.map_append, hz, List.take_succ_eq_append_getElem hk, List.map_append]; simp [hzb], h, hb⟩

set_option maxRecDepth 100000 in
set_option maxHeartbeats 1000000 in
theorem specCopyBox_any (nm : ByteArray) (v x : Int) (l : List DMsg) (a : Option Addr) (c : Nat) (w : World) (R : Rd w a c 3 l.length (l.flatMap DMsg.cells)) (hl : l.length ≤ 2097152) :
    Calls Tryd.prog 116 #[.agg #[.string nm, .int .i64 v, .int .i64 x, .slice a l.length c]] w fun e w' => ∃ g q, e = .returned (.agg #[.string nm, .int .i64 v, .int .i64 x, .slice g l.length q]) ∧ Own w' (w.heap.size + 2) 111 3 (.slice g l.length q) l.length (l.flatMap DMsg.cells) ∧ Ext w w' := by
  obtain ⟨i0, hi, hz0, hz1, hz2⟩ := info_parts info_Msg
  have HR := Lib.hid R
  clear R
  go_enter Tryd.func116, Tryd.ntmps116
  go_wp2_with ((at_builtin; refine wpList_app (B := w.heap.size + 2) (v := .slice (some ⟨w.heap.size + 2, 0, none⟩) 0 0) rfl _ _ _ rfl 111 i0 _ _ Tryd.underlying83 hi hz0 hz1 hz2 rfl (by decide) rfl (Own.none0 _) _ _ _ (l.flatMap DMsg.cells) rfl (HR.out.ext bxt) (one_flat DMsg.one l) (by omega) (by omega) (by simp) ?_; intro g q w1 hown hg; simp only [Nat.zero_add, List.nil_append] at hown; have hgn := grown_below (show World.grownBy _ w1 none from hg); have HO := Lib.hid hown; clear hown hg; have c0_0 : w1.cell? ⟨w.heap.size, 0, none⟩ = some (.string nm) := (hgn.cell (p := ⟨w.heap.size, 0, none⟩) smx).trans kpx; have f0_0 : w1.frozen? ⟨w.heap.size, 0, none⟩ = false := (hgn.frozen (p := ⟨w.heap.size, 0, none⟩) smx).trans kfx; have c0_1 : w1.cell? ⟨w.heap.size, 1, none⟩ = some (.int .i64 v) := (hgn.cell (p := ⟨w.heap.size, 1, none⟩) smx).trans kpx; have f0_1 : w1.frozen? ⟨w.heap.size, 1, none⟩ = false := (hgn.frozen (p := ⟨w.heap.size, 1, none⟩) smx).trans kfx; have c0_2 : w1.cell? ⟨w.heap.size, 2, none⟩ = some (.int .i64 x) := (hgn.cell (p := ⟨w.heap.size, 2, none⟩) smx).trans kpx; have f0_2 : w1.frozen? ⟨w.heap.size, 2, none⟩ = false := (hgn.frozen (p := ⟨w.heap.size, 2, none⟩) smx).trans kfx; have c0_3 : w1.cell? ⟨w.heap.size, 3, none⟩ = some (.slice a l.length c) := (hgn.cell (p := ⟨w.heap.size, 3, none⟩) smx).trans kpx; have f0_3 : w1.frozen? ⟨w.heap.size, 3, none⟩ = false := (hgn.frozen (p := ⟨w.heap.size, 3, none⟩) smx).trans kfx; have s0 : w.heap.size < w1.heap.size := (by have hss := hgn.size; first | omega | (simp at hss; omega)); have c1_0 : w1.cell? ⟨w.heap.size + 1, 0, none⟩ = some (.string ⟨#[]⟩) := (hgn.cell (p := ⟨w.heap.size + 1, 0, none⟩) smx).trans kpx; have f1_0 : w1.frozen? ⟨w.heap.size + 1, 0, none⟩ = false := (hgn.frozen (p := ⟨w.heap.size + 1, 0, none⟩) smx).trans kfx; have c1_1 : w1.cell? ⟨w.heap.size + 1, 1, none⟩ = some (.int .i64 0) := (hgn.cell (p := ⟨w.heap.size + 1, 1, none⟩) smx).trans kpx; have f1_1 : w1.frozen? ⟨w.heap.size + 1, 1, none⟩ = false := (hgn.frozen (p := ⟨w.heap.size + 1, 1, none⟩) smx).trans kfx; have c1_2 : w1.cell? ⟨w.heap.size + 1, 2, none⟩ = some (.int .i64 0) := (hgn.cell (p := ⟨w.heap.size + 1, 2, none⟩) smx).trans kpx; have f1_2 : w1.frozen? ⟨w.heap.size + 1, 2, none⟩ = false := (hgn.frozen (p := ⟨w.heap.size + 1, 2, none⟩) smx).trans kfx; have c1_3 : w1.cell? ⟨w.heap.size + 1, 3, none⟩ = some (.slice none 0 0) := (hgn.cell (p := ⟨w.heap.size + 1, 3, none⟩) smx).trans kpx; have f1_3 : w1.frozen? ⟨w.heap.size + 1, 3, none⟩ = false := (hgn.frozen (p := ⟨w.heap.size + 1, 3, none⟩) smx).trans kfx; have s1 : w.heap.size + 1 < w1.heap.size := (by have hss := hgn.size; first | omega | (simp at hss; omega)); simp only [Nat.zero_add]))
  refine bodyPost_ret (v := .agg #[.string nm, .int .i64 v, .int .i64 x, .slice g l.length q]) (by simp [results, Tryd.results116, go_sem, *]) rfl ⟨g, q, rfl, ?_, ?_⟩
  · exact (by repeat' (first | with_reducible exact HO.out | with_reducible refine Own.set_below ?_ smx _ | with_reducible refine Own.alloc1 ?_ _ | with_reducible refine Own.drew1 ?_ | with_reducible refine Own.drewN1 ?_ | with_reducible refine Own.ext ?_ (by assumption)))
  · exact bxt

set_option maxRecDepth 100000 in
set_option maxHeartbeats 4000000 in
theorem specCopies_any (l : List PBox) (a : Option Addr) (c : Nat) (w : World) (R : Rd w a c 4 l.length (l.flatMap PBox.cells)) (M : RdM w l) (hl : l.length ≤ 2097152) (hlm : ∀ y ∈ l, y.msgs.length ≤ 2097152) :
    Calls Tryd.prog 96 #[.slice a l.length c] w fun e w' => ∃ (gb q : Nat) (zs : List PBox), e = .returned (.slice (some ⟨gb, 0, none⟩) zs.length q) ∧ OwnBs w' w.heap.size 85 111 (some ⟨gb, 0, none⟩) q zs ∧ zs.map PBox.box = l.map PBox.box ∧ Ext w w' := by
  obtain ⟨i0, hi0, hz0, hz1, hz2⟩ := info_parts info_Box
  have HR := Lib.hid R
  have HM := Lib.hid M
  have HLM := Lib.hid hlm
  clear R M hlm
  go_enter Tryd.func96, Tryd.ntmps96
  go_wp2_with fail
  go_loopw [3, 4] (CopyRel 85 111 l w) (fun _ i _ => l.length - (intOf i).toNat)
  case atStart => exact ⟨0, [], w.heap.size, 0, Nat.zero_le _, rfl, rfl, by simp [Hid], OwnBs.nil _ _ _ _ _, (Below.refl _ _).alloc (Nat.le_refl _) _⟩
  case round =>
    obtain ⟨k, zs, gb, q, hk, rfl, rfl, HZ, HO, hb⟩ := hrel
    by_cases hlt : k < l.length
    · obtain ⟨b, o, rfl, hbb, hat⟩ := HR.out.ptr (by omega)
      obtain ⟨x0, x1, x2, x3⟩ := PBox.at (hat.ext hbb hb) k hlt
      have HA := Lib.hid hat
      clear hat
      have hbw : b < wr.heap.size := Nat.lt_of_lt_of_le hbb hb.size
      have hbw1 : b < wr.heap.size + 1 := by omega
      have hzl : zs.length ≤ 2097152 := by (have h := congrArg List.length HZ.out; simp at h; omega)
      have hml : l[k].msgs.length ≤ 2097152 := HLM.out _ (List.getElem_mem hlt)
      have hws : w.heap.size ≤ wr.heap.size := hb.size
      go_wp2_with fail
      refine (specCopyBox_any l[k].name l[k].validity l[k].next l[k].msgs _ _ _ ((HM.out.at k hlt).ext bxt) hml).mono ?_
      rintro e w1 ⟨gz, qz, rfl, hown, hb1⟩
      have hzz : wr.heap.size ≤ w1.heap.size := by (have h9 := hb1.size; first | exact h9 | (simp at h9; omega))
      have HZO : Hid (Own w1 w.heap.size 111 3 (.slice gz l[k].msgs.length qz) l[k].msgs.length (l[k].msgs.flatMap DMsg.cells)) := Lib.hid (hown.le (by first | omega | (simp; omega)))
      have HZ1 : Hid (Off2 (PBox.key (⟨l[k].name, l[k].validity, l[k].next, l[k].msgs, gz, qz⟩ : PBox)) (.slice (some ⟨gb, 0, none⟩) zs.length q)) := Lib.hid ((Off2.of HO.out.row hown (by first | omega | (simp; omega))).symm)
      have HZ2 : Hid (∀ y ∈ zs, Off2 y.key (PBox.key (⟨l[k].name, l[k].validity, l[k].next, l[k].msgs, gz, qz⟩ : PBox))) := Lib.hid (fun y hy => Off2.of (HO.out.msg y hy) hown (by first | omega | (simp; omega)))
      clear hown
      go_wp2_with (at_builtin; refine wpList_appL (B := w.heap.size) (v := .slice (some ⟨gb, 0, none⟩) zs.length q) (n := zs.length) (xs := zs.flatMap PBox.cells) (s := 4) rfl _ _ _ rfl 85 i0 _ _ Tryd.underlying95 hi0 hz0 hz1 hz2 rfl (by decide) rfl (by repeat' (first | with_reducible exact HO.out.row | with_reducible refine Own.set_below ?_ smx _ | with_reducible refine Own.alloc1 ?_ _ | with_reducible refine Own.drew1 ?_ | with_reducible refine Own.drewN1 ?_ | with_reducible refine Own.ext ?_ (by assumption))) (some ⟨w1.heap.size, 0, none⟩) 1 1 [.string l[k].name, .int .i64 l[k].validity, .int .i64 l[k].next, .slice gz l[k].msgs.length qz] rfl (Rd.lit _ _ _ 1 4 _ (by first | rfl | simp) rfl (by omega)) (by simp [Value.oneCell']) (by omega) (by omega) smx ?_; intro g2 q2 w2 hown hg hw; have hb2 : Below w.heap.size w w2 := below_foot (show Below w.heap.size w _ from bxt) (show Own _ w.heap.size 85 4 (.slice (some ⟨gb, 0, none⟩) zs.length q) zs.length (zs.flatMap PBox.cells) from (by repeat' (first | with_reducible exact HO.out.row | with_reducible refine Own.set_below ?_ smx _ | with_reducible refine Own.alloc1 ?_ _ | with_reducible refine Own.drew1 ?_ | with_reducible refine Own.drewN1 ?_ | with_reducible refine Own.ext ?_ (by assumption)))) (Nat.le_refl _) smx hg; have HP := Lib.hid (OwnBs.push (z := (⟨l[k].name, l[k].validity, l[k].next, l[k].msgs, gz, qz⟩ : PBox)) (HO.out.ext bxt) (HZO.out.alloc1 _) HZ1.out HZ2.out hown hg hw); clear hown hg hw)
      go_roundw
      case rel => exact CopyRel.next (z := (⟨l[k].name, l[k].validity, l[k].next, l[k].msgs, gz, qz⟩ : PBox)) hlt HZ.out rfl HP.out hb2
      case measure => simp [intOf]; omega
    · have hkk : k = l.length := by omega
      have HKK := Lib.hid hkk
      clear hkk
      go_wp2_with fail
      go_ret
      exact ⟨gb, q, zs, rfl, HO.out, (by have h := HZ.out; rw [HKK.out, List.take_length] at h; exact h), hb⟩
end Go.Proofs.YtadjlfcdjkikgaaDoor
