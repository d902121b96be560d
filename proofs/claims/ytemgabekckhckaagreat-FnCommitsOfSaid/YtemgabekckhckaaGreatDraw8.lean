/-
  The draws of mailboxes in a slice.
-/
import Derived.Test.YtemgabekckhckaaGreatDraw6
import Derived.Test.YtemgabekckhckaaGreatWCopies
import Derived.Test.YtemgabekckhckaaGreatWPerf
namespace Go.Proofs.YtemgabekckhckaaGreat
open Go.RowKit
set_option linter.unusedVariables false
set_option linter.unusedSimpArgs false

/-- mailboxes that are small -/
def SmB (M : Nat) (l : List PBox) : Prop := ∀ y ∈ l, y.name.size ≤ 41 ∧ y.msgs.length ≤ M ∧ ∀ t ∈ y.msgs, t.text.size ≤ 41
theorem SmB.mono {M N : Nat} {l : List PBox} (h : SmB M l) (hn : M ≤ N) : SmB N l := fun y hy => ⟨(h y hy).1, Nat.le_trans (h y hy).2.1 hn, (h y hy).2.2⟩
theorem SmB.app {M : Nat} {l : List PBox} {x : PBox} (h : SmB M l) (h1 : x.name.size ≤ 41) (h2 : x.msgs.length ≤ M) (h3 : ∀ t ∈ x.msgs, t.text.size ≤ 41) : SmB M (l ++ [x]) := fun y hy => by
  rcases List.mem_append.1 hy with hy | hy
  · exact h y hy
  · rw [List.mem_singleton.1 hy]; exact ⟨h1, h2, h3⟩
theorem SmB.set {M : Nat} {l : List PBox} {x : PBox} {k : Nat} (h : SmB M l) (h1 : x.name.size ≤ 41) (h2 : x.msgs.length ≤ M) (h3 : ∀ t ∈ x.msgs, t.text.size ≤ 41) : SmB M (l.set k x) := fun y hy => by
  rcases List.mem_or_eq_of_mem_set hy with hy | hy
  · exact h y hy
  · rw [hy]; exact ⟨h1, h2, h3⟩
/-- mailboxes of the call's own, some of which may share their messages -/
structure OwnRs (w : World) (B E EM : Nat) (a : Option Addr) (c : Nat) (l : List PBox) : Prop where
  row : Own w B E 4 (.slice a l.length c) l.length (l.flatMap PBox.cells)
  msg : ∀ z ∈ l, Own w B EM 3 (.slice z.ma z.msgs.length z.mc) z.msgs.length (z.msgs.flatMap DMsg.cells)
theorem OwnBs.rs {w : World} {B E EM c : Nat} {a : Option Addr} {l : List PBox} (h : OwnBs w B E EM a c l) : OwnRs w B E EM a c l := ⟨h.row, h.msg⟩
theorem OwnRs.ext {w w' : World} {B E EM c : Nat} {a : Option Addr} {l : List PBox} (h : OwnRs w B E EM a c l) (hb : Below w.heap.size w w') : OwnRs w' B E EM a c l := ⟨h.row.ext hb, fun z hz => (h.msg z hz).ext hb⟩
theorem OwnRs.le {w : World} {B B' E EM c : Nat} {a : Option Addr} {l : List PBox} (h : OwnRs w B E EM a c l) (hb : B' ≤ B) : OwnRs w B' E EM a c l := ⟨h.row.le hb, fun z hz => (h.msg z hz).le hb⟩
theorem OwnRs.rd {w : World} {B E EM c : Nat} {a : Option Addr} {l : List PBox} (h : OwnRs w B E EM a c l) : Rd w a c 4 l.length (l.flatMap PBox.cells) := Rd.of_Own h.row
theorem OwnRs.rdm {w : World} {B E EM c : Nat} {a : Option Addr} {l : List PBox} (h : OwnRs w B E EM a c l) : RdM w l := fun z hz => Rd.of_Own (h.msg z hz)
theorem OwnRs.dr {w w' : World} {cb B E EM c : Nat} {a : Option Addr} {l : List PBox} (h : OwnRs w B E EM a c l) (hd : Dr cb w w') (hB : cb < B) : OwnRs w' B E EM a c l := ⟨h.row.dr hd hB, fun z hz => (h.msg z hz).dr hd hB⟩
theorem OwnRs.set_below {w : World} {B E EM c : Nat} {a : Option Addr} {l : List PBox} (h : OwnRs w B E EM a c l) {p : Addr} (hp : p.block < B) (u : Value) : OwnRs (w.setCell p u) B E EM a c l := ⟨h.row.set_below hp u, fun z hz => (h.msg z hz).set_below hp u⟩
theorem OwnRs.nil (w : World) (B E EM : Nat) (a : Option Addr) : OwnRs w B E EM a 0 [] := (OwnBs.nil w B E EM a).rs
theorem OwnBs.dr {w w' : World} {cb B E EM c : Nat} {a : Option Addr} {l : List PBox} (h : OwnBs w B E EM a c l) (hd : Dr cb w w') (hB : cb < B) : OwnBs w' B E EM a c l :=
  h.chg hd.chg (fun k hk e => by have := (h.rows_lt k hk).1; omega)
/-- one mailbox laid over another -/
theorem OwnBs.dup {w : World} {B E EM g c j i : Nat} {m : List PBox} (h : OwnBs w B E EM (some ⟨g, 0, none⟩) c m) (hc : c ≠ 0) (hj : j < m.length) (hi : i < m.length) :
    OwnRs (putW w g (j * 4) m[i].cells) B E EM (some ⟨g, 0, none⟩) c (m.set j m[i]) := by
  obtain ⟨g', hg', hrow⟩ := h.row.row hc
  cases hg'
  obtain ⟨h1, g1⟩ := own_put m[i].cells w (j * 4) _ hrow
  rw [putAt_flat PBox.cells_len m j hj] at h1
  have ho : ∀ (y : PBox), y ∈ m → foot y.key ≠ some g := fun y hy e => by
    rcases h.off y.key (List.mem_map_of_mem hy) with h2 | h2
    · rw [h2] at e; cases e
    · exact h2 (by rw [e]; simp [foot, hc])
  refine ⟨by rw [List.length_set]; exact Own.of_row h1, fun z hz => ?_⟩
  have hz' : z ∈ m := by
    rcases List.mem_or_eq_of_mem_set hz with h2 | h2
    · exact h2
    · rw [h2]; exact List.getElem_mem hi
  exact Own.putW_off (ho z hz') _ _ _ (h.msg z hz')
theorem msgs_app {l : List DMsg} {x : DMsg} {n : Nat} (h : ∀ t ∈ l, t.text.size ≤ n) (hx : x.text.size ≤ n) : ∀ t ∈ l ++ [x], t.text.size ≤ n := fun y hy => by
  rcases List.mem_append.1 hy with hy | hy
  · exact h y hy
  · rw [List.mem_singleton.1 hy]; exact hx
def DrBs (N : Nat) (cb : Nat) (w : World) (e : Ending) (w' : World) : Prop := ∃ (g : Option Addr) (q : Nat) (zs : List PBox), zs.length ≤ N ∧ SmB 5 zs ∧ e = .returned (.slice g zs.length q) ∧ OwnBs w' w.heap.size 32 60 g q zs ∧ Dr cb w w'
def DrRs (N : Nat) (cb : Nat) (w : World) (e : Ending) (w' : World) : Prop := ∃ (g : Option Addr) (q : Nat) (zs : List PBox), zs.length ≤ N ∧ SmB 6 zs ∧ e = .returned (.slice g zs.length q) ∧ OwnRs w' w.heap.size 32 60 g q zs ∧ Dr cb w w'
def RRel (cb : Nat) (w : World) (v nv i : Value) (wr : World) : Prop :=
  ∃ (k nn : Nat) (g : Option Addr) (q : Nat) (zs : List PBox), k ≤ 4 ∧ nn ≤ k ∧ i = .int .i64 k ∧ nv = .int .i64 nn ∧ v = .slice g zs.length q ∧ zs.length ≤ k ∧ Hid (SmB 5 zs) ∧ Hid (OwnBs wr (w.heap.size + 2) 32 60 g q zs) ∧ Hid (Bx wr (w.heap.size + 1) [.string ⟨#[97]⟩, .string ⟨#[97, 47, 98]⟩, .string ⟨#[97, 98]⟩, .string ⟨#[105, 110, 98, 111, 120]⟩]) ∧ Dr cb w wr ∧ w.heap.size + 2 ≤ wr.heap.size
theorem names_at (k : Nat) (hk : k < 4) : ∃ nm : ByteArray, nm.size ≤ 5 ∧ ([.string ⟨#[97]⟩, .string ⟨#[97, 47, 98]⟩, .string ⟨#[97, 98]⟩, .string ⟨#[105, 110, 98, 111, 120]⟩] : List Value)[k]? = some (.string nm) := by
  obtain rfl | rfl | rfl | rfl : k = 0 ∨ k = 1 ∨ k = 2 ∨ k = 3 := by omega
  · exact ⟨_, by decide, rfl⟩
  · exact ⟨_, by decide, rfl⟩
  · exact ⟨_, by decide, rfl⟩
  · exact ⟨_, by decide, rfl⟩
set_option maxRecDepth 100000 in
set_option maxHeartbeats 4000000 in
theorem l9Right_any (cb : Nat) (w : World) (hc : Cur w cb) :
    Calls Tryz.prog 58 #[.pointer (some ⟨cb, 0, none⟩)] w (DrBs 4 cb w) := by
  obtain ⟨i0, hi, hy0, hy1, hy2⟩ := info_parts info_Box
  obtain ⟨j0, hj, hx0, hx1, hx2⟩ := info_parts info_Msg
  have hcl := hc.lt
  have HC := Lib.hid hc
  clear hc
  go_enter Tryz.func58, Tryz.ntmps58
  go_wp2_with fail
  go_loopw [3, 5, 6] (RRel cb w) (fun _ _ i _ => (4 - intOf i).toNat)
  case atStart => exact ⟨0, 0, some ⟨w.heap.size, 0, none⟩, 0, [], by omega, by omega, rfl, rfl, rfl, by simp, fun y hy => by simp at hy, OwnBs.nil _ _ _ _ _, Bx.mk (heap_alloc_size _ _) _ rfl, ((Dr.refl HC.out).alloc _).alloc _, by simp⟩
  case round =>
    obtain ⟨k, nn, g, q, zs, hk, hnn, rfl, rfl, rfl, hzl, HSM, HO, HNM, hd, hsz⟩ := hrel
    by_cases hlt : (k : Int) < 4
    · skip
      obtain ⟨nm, hnm, hget⟩ := names_at k (by omega)
      go_wp2_with fail
      refine (l1Once_any cb 3 _ (hd.cur) (by omega)).mono ?_
      rintro e w1 ⟨v, rfl, hd1⟩
      have hz1 := hd1.size
      have HO1 := Lib.hid (HO.out.dr hd1 (by have := hd.lt; omega)); have HNM1 := Lib.hid (HNM.out.dr hd1 (by omega)); have hdt := hd.trans hd1
      cases v
      · skip
        obtain ⟨cn, -⟩ := HNM1.out.at k _ hget
        have hs1 : w.heap.size + 1 < w1.heap.size := by omega
        have k1 : (0 : Int) ≤ (k : Int) := by omega
        go_wp2_with fail
        refine (l9Box_any cb _ _ _ hdt.cur).mono ?_
        rintro e w2 ⟨nx, ga, qa, ms, hml, htx, rfl, hown, hd2⟩
        have hz2 := hd2.size
        have HO2 := Lib.hid (HO1.out.dr hd2 (by have := hd.lt; omega)); have HNM2 := Lib.hid (HNM1.out.dr hd2 (by omega)); have hdt2 := hdt.trans hd2
        have HTX := Lib.hid htx; clear htx
        have HZ1 : Hid (Off2 (PBox.key (⟨nm, 1 + ((nn : Int) + 1) * 3 % 7, nx, ms, ga, qa⟩ : PBox)) (.slice g zs.length q)) := Lib.hid ((Off2.of HO1.out.row hown smx).symm)
        have HZ2 : Hid (∀ y ∈ zs, Off2 y.key (PBox.key (⟨nm, 1 + ((nn : Int) + 1) * 3 % 7, nx, ms, ga, qa⟩ : PBox))) := Lib.hid (fun y hy => Off2.of (HO1.out.msg y hy) hown smx)
        have HZO : Hid (Own w2 (w.heap.size + 2) 60 3 (.slice ga ms.length qa) ms.length (ms.flatMap DMsg.cells)) := Lib.hid (hown.le smx)
        clear hown
        go_wp2_with ((at_builtin; refine wpList_appL (B := w.heap.size + 2) (v := .slice g zs.length q) (n := zs.length) (xs := zs.flatMap PBox.cells) (s := 4) rfl _ _ _ rfl 32 i0 _ _ Tryz.underlying24 hi hy0 hy1 hy2 rfl (by decide) rfl (HO2.out.row.ext bxt) (some ⟨w2.heap.size, 0, none⟩) 1 1 (PBox.cells (⟨nm, 1 + ((nn : Int) + 1) * 3 % 7, nx, ms, ga, qa⟩ : PBox)) rfl (Rd.lit _ _ _ _ 4 _ (by simp) rfl (by omega)) (PBox.one _) (by omega) (by omega) smx ?_))
        intro g3 q3 w3 hown hg hwl
        have hd3 : Dr cb w w3 := Dr.grown (hdt2.ext (c := _) bxt) hg (fun x hx => Nat.le_trans (Nat.le_add_right _ 2) (HO2.out.row.lt x hx).1)
        have HPU := Lib.hid (OwnBs.push (z := (⟨nm, 1 + ((nn : Int) + 1) * 3 % 7, nx, ms, ga, qa⟩ : PBox)) (HO2.out.ext (w' := _) bxt) (HZO.out.ext (w' := _) bxt) HZ1.out HZ2.out hown hg (fun x hx => by simpa using hwl x hx))
        have HNM3 := Lib.hid ((HNM2.out.ext (w' := _) bxt).grown hg (HO2.out.row.ne_lt (b := w.heap.size + 1) (by omega)))
        have hz3 := hg.size; (try simp at hz3)
        clear hown hwl
        go_wp2_with fail
        go_roundw
        case rel => exact ⟨k + 1, nn + 1, g3, q3, zs ++ [(⟨nm, 1 + ((nn : Int) + 1) * 3 % 7, nx, ms, ga, qa⟩ : PBox)], by omega, by omega, by go_num, by go_num, by simp, by simp; omega, HSM.out.app (by show nm.size ≤ 41; omega) (by show ms.length ≤ 5; omega) (fun t ht => Nat.le_trans (HTX.out t ht) (by omega)), HPU.out, HNM3.out, hd3, by omega⟩
        case measure => simp [intOf]; omega
      · skip
        go_wp2_with fail
        go_roundw
        case rel => exact ⟨k + 1, nn, g, q, zs, by omega, by omega, by go_num, rfl, rfl, by omega, HSM.out, HO1.out, HNM1.out, hdt, by omega⟩
        case measure => simp [intOf]; omega
    · skip
      go_wp2_with fail
      go_ret
      exact ⟨g, q, zs, by omega, HSM.out, rfl, HO.out.le (by omega), hd⟩
set_option maxRecDepth 100000 in
set_option maxHeartbeats 8000000 in
theorem l9Bent_any (cb : Nat) (w : World) (hc : Cur w cb) :
    Calls Tryz.prog 34 #[.pointer (some ⟨cb, 0, none⟩)] w (DrRs 5 cb w) := by
  obtain ⟨i0, hi, hy0, hy1, hy2⟩ := info_parts info_Box
  obtain ⟨j0, hj, hx0, hx1, hx2⟩ := info_parts info_Msg
  have hcl := hc.lt
  have HC := Lib.hid hc
  clear hc
  go_enter Tryz.func34, Tryz.ntmps34
  go_wp2_with fail
  refine (l9Right_any cb _ HC.out).mono ?_
  rintro e w1 ⟨g, q, zs, hzl, hsm, rfl, ho, hd1⟩
  have HSM5 := Lib.hid hsm; have HSM : Hid (SmB 6 zs) := Lib.hid (hsm.mono (by omega)); have HO1 := Lib.hid ho; have hz1 := hd1.size; clear hsm ho
  by_cases hz0 : zs.length = 0
  · obtain rfl : zs = [] := List.eq_nil_of_length_eq_zero hz0
    go_wp2_with fail
    go_ret
    exact ⟨g, q, [], by simp, HSM.out, rfl, HO1.out.rs, hd1⟩
  have e0 : ((zs.length : Int) == 0) = false := by simpa using (by omega : ¬ zs.length = 0)
  have e00 : (zs.length == 0) = false := by simpa using hz0
  have hq0 : q ≠ 0 := by have := HO1.out.row.cap; omega
  obtain ⟨g0, rfl, -⟩ := HO1.out.row.row hq0
  have hg0 : w.heap.size ≤ g0 ∧ g0 < w1.heap.size := HO1.out.row.lt g0 (by simp [foot, hq0])
  have hzp : 0 < zs.length := by omega
  clear hz0
  go_wp2_with fail
  refine (l1Below_any cb zs.length _ hd1.cur (by omega)).mono ?_
  rintro e w2 ⟨kv, ⟨hk0, hk1, -⟩, rfl, hd2⟩
  have hk1 := hk1 (by omega)
  obtain ⟨k, rfl⟩ : ∃ k : Nat, kv = k := ⟨kv.toNat, by omega⟩
  have hkl : k < zs.length := by omega
  go_wp2_with fail
  refine (l1Below_any cb 12 _ (hd2.cur) (by omega)).mono ?_
  rintro e w3 ⟨v, ⟨v0, v1, -⟩, rfl, hd3⟩
  have v1 := v1 (by omega)
  have hz3 : w1.heap.size ≤ w3.heap.size := Nat.le_trans hd2.size hd3.size
  have hdt : Dr cb w w3 := (hd1.trans hd2).trans hd3
  have HO := Lib.hid ((HO1.out.dr hd2 hcl).dr hd3 hcl)
  have hcu := Lib.hid hd3.cur
  have hk2 : (k : Int) < (zs.length : Int) := by omega
  clear hd1 hd2 hd3 HO1 hk1 e0
  obtain ⟨hmn, hmm5, hmt⟩ := HSM5.out _ (List.getElem_mem hkl)
  have hmm : zs[k].msgs.length ≤ 6 := by omega
  have HMT := Lib.hid hmt; clear hmt
  by_cases hv0 : v = 0
  · subst hv0
    go_wp2_with fail
    refine (l2Any_any cb _ hcu.out).mono ?_
    rintro e w4 ⟨s, hs, rfl, hdn⟩
    have HON := Lib.hid (HO.out.dr hdn hcl); have hzn := hdn.size; have hgn : g0 < w4.heap.size := (by omega)
    obtain ⟨cbn_0, cbn_1, cbn_2, cbn_3⟩ := HON.out.cells hkl
    have fbn_0 : w4.frozen? ⟨g0, k * 4, none⟩ = false := (HON.out.slot hq0 hkl 0 (by omega)).2
    have fbn_1 := (HON.out.slot hq0 hkl 1 (by omega)).2
    have fbn_2 := (HON.out.slot hq0 hkl 2 (by omega)).2
    have fbn_3 := (HON.out.slot hq0 hkl 3 (by omega)).2
    go_wp2_with fail
    go_ret
    exact ⟨(some ⟨g0, 0, none⟩), q, zs.set k (⟨s, zs[k].validity, zs[k].next, zs[k].msgs, zs[k].ma, zs[k].mc⟩ : PBox), by rw [List.length_set]; omega, HSM.out.set hs hmm HMT.out, by rw [List.length_set]; rfl, (HON.out.one hq0 hkl (z := (⟨s, zs[k].validity, zs[k].next, zs[k].msgs, zs[k].ma, zs[k].mc⟩ : PBox)) (o := 0) (by omega) rfl rfl rfl).rs, (hdt.trans hdn).setCell (by show w.heap.size ≤ g0; omega) _⟩
  · have ev0 : (v == 0) = false := by simpa using hv0
    by_cases hv1 : v = 1
    · subst hv1
      go_wp2_with fail
      refine (l1PickInt_any cb _ _ _ _ _ (hcu.out.ext bxt) (Rd.lit _ _ _ _ 1 _ rfl rfl (by omega)) (by omega) (by omega) (by rfl) (fun b o e => by have hq := hcu.out.lt; simp at e; omega)).mono ?_
      rintro e w5 ⟨s, hs, rfl, hdn0⟩
      have hdn := (Dr.alloc (Dr.refl hcu.out) _).trans hdn0
      have HON := Lib.hid (HO.out.dr hdn hcl); have hzn := hdn.size; have hgn : g0 < w5.heap.size := (by omega)
      obtain ⟨cbn_0, cbn_1, cbn_2, cbn_3⟩ := HON.out.cells hkl
      have fbn_0 : w5.frozen? ⟨g0, k * 4, none⟩ = false := (HON.out.slot hq0 hkl 0 (by omega)).2
      have fbn_1 := (HON.out.slot hq0 hkl 1 (by omega)).2
      have fbn_2 := (HON.out.slot hq0 hkl 2 (by omega)).2
      have fbn_3 := (HON.out.slot hq0 hkl 3 (by omega)).2
      go_wp2_with fail
      go_ret
      exact ⟨(some ⟨g0, 0, none⟩), q, zs.set k (⟨zs[k].name, s, zs[k].next, zs[k].msgs, zs[k].ma, zs[k].mc⟩ : PBox), by rw [List.length_set]; omega, HSM.out.set hmn hmm HMT.out, by rw [List.length_set]; rfl, (HON.out.one hq0 hkl (z := (⟨zs[k].name, s, zs[k].next, zs[k].msgs, zs[k].ma, zs[k].mc⟩ : PBox)) (o := 1) (by omega) rfl rfl rfl).rs, (hdt.trans hdn).setCell (by show w.heap.size ≤ g0; omega) _⟩
    · have ev1 : (v == 1) = false := by simpa using hv1
      by_cases hv2 : v = 2
      · subst hv2
        go_wp2_with fail
        refine (l1PickInt_any cb _ _ _ _ _ (hcu.out.ext bxt) (Rd.lit _ _ _ _ 1 _ rfl rfl (by omega)) (by omega) (by omega) (by rfl) (fun b o e => by have hq := hcu.out.lt; simp at e; omega)).mono ?_
        rintro e w6 ⟨s, hs, rfl, hdn0⟩
        have hdn := (Dr.alloc (Dr.refl hcu.out) _).trans hdn0
        have HON := Lib.hid (HO.out.dr hdn hcl); have hzn := hdn.size; have hgn : g0 < w6.heap.size := (by omega)
        obtain ⟨cbn_0, cbn_1, cbn_2, cbn_3⟩ := HON.out.cells hkl
        have fbn_0 : w6.frozen? ⟨g0, k * 4, none⟩ = false := (HON.out.slot hq0 hkl 0 (by omega)).2
        have fbn_1 := (HON.out.slot hq0 hkl 1 (by omega)).2
        have fbn_2 := (HON.out.slot hq0 hkl 2 (by omega)).2
        have fbn_3 := (HON.out.slot hq0 hkl 3 (by omega)).2
        go_wp2_with fail
        go_ret
        exact ⟨(some ⟨g0, 0, none⟩), q, zs.set k (⟨zs[k].name, zs[k].validity, s, zs[k].msgs, zs[k].ma, zs[k].mc⟩ : PBox), by rw [List.length_set]; omega, HSM.out.set hmn hmm HMT.out, by rw [List.length_set]; rfl, (HON.out.one hq0 hkl (z := (⟨zs[k].name, zs[k].validity, s, zs[k].msgs, zs[k].ma, zs[k].mc⟩ : PBox)) (o := 2) (by omega) rfl rfl rfl).rs, (hdt.trans hdn).setCell (by show w.heap.size ≤ g0; omega) _⟩
      · have ev2 : (v == 2) = false := by simpa using hv2
        by_cases hv3 : v = 3
        · subst hv3
          have HCZ : Hid (Own w3 w.heap.size 60 3 (.slice zs[k].ma zs[k].msgs.length zs[k].mc) zs[k].msgs.length (zs[k].msgs.flatMap DMsg.cells)) := Lib.hid (HO.out.msg _ (List.getElem_mem hkl))
          have hgn : g0 < w3.heap.size := (by omega)
          obtain ⟨cba_0, cba_1, cba_2, cba_3⟩ := HO.out.cells hkl
          have fba_0 : w3.frozen? ⟨g0, k * 4, none⟩ = false := (HO.out.slot hq0 hkl 0 (by omega)).2
          have fba_1 := (HO.out.slot hq0 hkl 1 (by omega)).2
          have fba_2 := (HO.out.slot hq0 hkl 2 (by omega)).2
          have fba_3 := (HO.out.slot hq0 hkl 3 (by omega)).2
          go_wp2_with fail
          go_region_law ((first | (go_simp; go_at_call 60; refine (l1Whole_any cb _ (hcu.out.ext bxt)).mono ?_; rintro e w7 ⟨u, hu, rfl, hda⟩; have hdnA : Dr cb w3 w7 := dtx; have HONA := Lib.hid (HO.out.dr hdnA hcl); have hgnA : g0 < w7.heap.size := (by have := hda.size; (try simp at this); omega); have hcuA := Lib.hid hda.cur; obtain ⟨cbA_0, cbA_1, cbA_2, cbA_3⟩ := HONA.out.cells hkl; have fbA_0 : w7.frozen? ⟨g0, k * 4, none⟩ = false := (HONA.out.slot hq0 hkl 0 (by omega)).2; have fbA_1 := (HONA.out.slot hq0 hkl 1 (by omega)).2; have fbA_2 := (HONA.out.slot hq0 hkl 2 (by omega)).2; have fbA_3 := (HONA.out.slot hq0 hkl 3 (by omega)).2) | (go_simp; go_at_call 61; refine (l5Bits_any cb _ (hcuA.out.ext bxt)).mono ?_; rintro e w8 ⟨f, hf, rfl, hdb⟩; have hdnB : Dr cb w3 w8 := hdnA.trans hdb; have HONB := Lib.hid (HO.out.dr hdnB hcl); have hgnB : g0 < w8.heap.size := (by have := hdb.size; (try simp at this); omega); have hcuB := Lib.hid hdb.cur; obtain ⟨cbB_0, cbB_1, cbB_2, cbB_3⟩ := HONB.out.cells hkl; have fbB_0 : w8.frozen? ⟨g0, k * 4, none⟩ = false := (HONB.out.slot hq0 hkl 0 (by omega)).2; have fbB_1 := (HONB.out.slot hq0 hkl 1 (by omega)).2; have fbB_2 := (HONB.out.slot hq0 hkl 2 (by omega)).2; have fbB_3 := (HONB.out.slot hq0 hkl 3 (by omega)).2) | (refine step_appD (B := w.heap.size) (v := .slice zs[k].ma zs[k].msgs.length zs[k].mc) rfl (.tmp 51) (.tmp 57) 30 rfl j0 _ _ Tryz.underlying30 hj hx0 hx1 hx2 rfl (by decide) (by simp [Act.eval, Act.put]) ((HCZ.out.dr hdnB hcl).ext bxt) (some ⟨w8.heap.size, 0, none⟩) 1 1 (DMsg.cells ⟨u, f, ⟨#[]⟩⟩) (by simp [Act.eval, Act.put]) (Rd.lit _ _ _ _ 3 _ (by simp) rfl (by omega)) (DMsg.one _) (by omega) (by omega) smx ?_; intro g2 q2 w9 hown hg hwl; have HM3 := Lib.hid ((HONB.out.ext (w' := _) bxt).msgs hq0 hkl (zs[k].msgs ++ [⟨u, f, ⟨#[]⟩⟩]) (by simp) hg (by simpa using hown) (fun x hx => (hwl x hx).imp id (fun h => Nat.le_of_eq h.symm))); obtain ⟨⟨ux, hux⟩, hfx⟩ := OwnBs.slotx (HONB.out.ext (w' := _) bxt) hq0 hkl 3 (by omega) hg; have hdC : Dr cb w w9 := Dr.grown ((hdt.trans hdnB).ext (c := _) bxt) hg (fun x hx => (HCZ.out.lt x hx).1); have hgC : g0 < w9.heap.size := (by have := hg.size; (try simp at this); omega); clear hown hwl hg)))
          all_goals go_wp2_with fail
          all_goals go_ret
          all_goals exact ⟨(some ⟨g0, 0, none⟩), q, zs.set k (⟨zs[k].name, zs[k].validity, zs[k].next, zs[k].msgs ++ [⟨u, f, ⟨#[]⟩⟩], g2, q2⟩ : PBox), by rw [List.length_set]; omega, HSM.out.set hmn (by show (zs[k].msgs ++ [_]).length ≤ 6; simp; omega) (msgs_app HMT.out (by show (⟨#[]⟩ : ByteArray).size ≤ 41; decide)), by rw [List.length_set]; rfl, HM3.out.rs, hdC.setCell (by show w.heap.size ≤ g0; omega) _⟩
        · have ev3 : (v == 3) = false := by simpa using hv3
          by_cases hv4 : v = 4
          · subst hv4
            go_wp2_with fail
            refine (l2Name_any cb _ hcu.out).mono ?_
            rintro e w10 ⟨s, hs, rfl, hd4⟩
            have hz4 := hd4.size; have HO4 := Lib.hid (HO.out.dr hd4 hcl)
            go_wp2_with fail
            refine (l9Box_any cb _ _ _ hd4.cur).mono ?_
            rintro e w11 ⟨nx, ga, qa, ms, hml, htx, rfl, hown, hd5⟩
            have hz5 := hd5.size; have HO5 := Lib.hid (HO4.out.dr hd5 hcl); have hdt5 := (hdt.trans hd4).trans hd5
            have HTX := Lib.hid htx; clear htx
            have HZ1 : Hid (Off2 (PBox.key (⟨s, 8, nx, ms, ga, qa⟩ : PBox)) (.slice (some ⟨g0, 0, none⟩) zs.length q)) := Lib.hid ((Off2.of HO4.out.row hown smx).symm)
            have HZ2 : Hid (∀ y ∈ zs, Off2 y.key (PBox.key (⟨s, 8, nx, ms, ga, qa⟩ : PBox))) := Lib.hid (fun y hy => Off2.of (HO4.out.msg y hy) hown smx)
            have HZO : Hid (Own w11 w.heap.size 60 3 (.slice ga ms.length qa) ms.length (ms.flatMap DMsg.cells)) := Lib.hid (hown.le (by omega))
            clear hown
            go_wp2_with ((at_builtin; refine wpList_appL (B := w.heap.size) (v := .slice (some ⟨g0, 0, none⟩) zs.length q) (n := zs.length) (xs := zs.flatMap PBox.cells) (s := 4) rfl _ _ _ rfl 32 i0 _ _ Tryz.underlying24 hi hy0 hy1 hy2 rfl (by decide) rfl (HO5.out.row.ext bxt) (some ⟨w11.heap.size, 0, none⟩) 1 1 (PBox.cells (⟨s, 8, nx, ms, ga, qa⟩ : PBox)) rfl (Rd.lit _ _ _ _ 4 _ (by simp) rfl (by omega)) (PBox.one _) (by omega) (by omega) smx ?_))
            intro g3 q3 w12 hown hg hwl
            have hd6 : Dr cb w w12 := Dr.grown (hdt5.ext (c := _) bxt) hg (fun x hx => (HO5.out.row.lt x hx).1)
            have HPU := Lib.hid (OwnBs.push (z := (⟨s, 8, nx, ms, ga, qa⟩ : PBox)) (HO5.out.ext (w' := _) bxt) (HZO.out.ext (w' := _) bxt) HZ1.out HZ2.out hown hg (fun x hx => by simpa using hwl x hx))
            clear hown hwl hg
            go_wp2_with fail
            go_ret
            exact ⟨g3, q3, zs ++ [(⟨s, 8, nx, ms, ga, qa⟩ : PBox)], by simp; omega, HSM.out.app (by show s.size ≤ 41; omega) (by show ms.length ≤ 6; omega) (fun t ht => Nat.le_trans (HTX.out t ht) (by omega)), by simp, HPU.out.rs, hd6⟩
          · have ev4 : (v == 4) = false := by simpa using hv4
            by_cases hv5 : v = 5
            · subst hv5
              have h0l : 0 < zs.length := by omega
              have hgn : g0 < w3.heap.size := (by omega)
              have h0i : (0 : Int) < (zs.length : Int) := by omega
              obtain ⟨cba_0, cba_1, cba_2, cba_3⟩ := HO.out.cells hkl
              have fba_0 : w3.frozen? ⟨g0, k * 4, none⟩ = false := (HO.out.slot hq0 hkl 0 (by omega)).2
              have fba_1 := (HO.out.slot hq0 hkl 1 (by omega)).2
              have fba_2 := (HO.out.slot hq0 hkl 2 (by omega)).2
              have fba_3 := (HO.out.slot hq0 hkl 3 (by omega)).2
              obtain ⟨cz0, cz1, cz2, cz3⟩ := HO.out.cells h0l
              simp only [Nat.zero_mul, Nat.zero_add] at cz0 cz1 cz2 cz3
              have HDU := Lib.hid (HO.out.dup hq0 hkl h0l)
              go_wp2_with fail
              go_ret
              exact ⟨(some ⟨g0, 0, none⟩), q, zs.set k zs[0], by rw [List.length_set]; omega, HSM.out.set (HSM.out _ (List.getElem_mem h0l)).1 (HSM.out _ (List.getElem_mem h0l)).2.1 (HSM.out _ (List.getElem_mem h0l)).2.2, by rw [List.length_set]; rfl, HDU.out, Dr.putW (b := g0) (by omega) zs[0].cells w3 (k * 4) hdt⟩
            · have ev5 : (v == 5) = false := by simpa using hv5
              go_wp2_with fail
              go_ret
              exact ⟨(some ⟨g0, 0, none⟩), q, zs, by omega, HSM.out, rfl, HO.out.rs, hdt⟩
end Go.Proofs.YtemgabekckhckaaGreat
