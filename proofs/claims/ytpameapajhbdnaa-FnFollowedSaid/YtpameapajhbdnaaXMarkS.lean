/-
  Marks laid into mailboxes of the call's own, and looked at.
  Marks laid into a store of the call's own.
  Marks in mailboxes and in a store, looked at.
-/
import Derived.Test.YtpameapajhbdnaaXFam
import Derived.Test.YtpameapajhbdnaaXOwn
import Derived.Test.YtpameapajhbdnaaXMark
namespace Go.Proofs.Ytpameapajhbdnaa
open Go.RowKit
set_option linter.unusedVariables false
set_option linter.unusedSimpArgs false

/-- the blocks in which mailboxes lie -/
def rowsB (a : Option Addr) (c : Nat) (l : List PBox) (k : Nat) : Prop := foot (.slice a l.length c) = some k ∨ ∃ v ∈ l.map PBox.key, foot v = some k
theorem OwnBs.chg {S : Nat → Prop} {B E EM c : Nat} {a b : World} {x : Option Addr} {l : List PBox} (h : OwnBs a B E EM x c l) (hb : Chg S a b) (hf : ∀ k, rowsB x c l k → ¬ S k) : OwnBs b B E EM x c l :=
  ⟨h.row.chg hb (fun k hk => hf k (Or.inl hk)), fun z hz => (h.msg z hz).chg hb (fun k hk => hf k (Or.inr ⟨z.key, List.mem_map_of_mem hz, hk⟩)), h.off, h.apart⟩
theorem OwnBs.rows_lt {B E EM c : Nat} {a : World} {x : Option Addr} {l : List PBox} (h : OwnBs a B E EM x c l) : ∀ k, rowsB x c l k → B ≤ k ∧ k < a.heap.size := fun k hk => by
  rcases hk with hk | ⟨v, hv, hk⟩
  · exact h.row.lt k hk
  · obtain ⟨z, hz, rfl⟩ := List.mem_map.1 hv
    exact (h.msg z hz).lt k hk
theorem key_set {m : List PBox} {j : Nat} (hj : j < m.length) {p : PBox} (hp : p.key = m[j].key) : (m.set j p).map PBox.key = m.map PBox.key := by
  rw [List.map_set, hp]
  apply List.ext_getElem?
  intro i
  rw [List.getElem?_set]
  split
  · rename_i e; subst e; simp [hj]
  · rfl
theorem cells_set {m : List PBox} {j : Nat} (hj : j < m.length) {p : PBox} (hp : p.cells = m[j].cells) : (m.set j p).flatMap PBox.cells = m.flatMap PBox.cells := by
  rw [List.flatMap_def, List.flatMap_def, List.map_set, hp]
  congr 1
  apply List.ext_getElem?
  intro i
  rw [List.getElem?_set]
  split
  · rename_i e; subst e; simp [hj]
  · rfl
theorem mem_set {m : List PBox} {j : Nat} {p z : PBox} (h : z ∈ m.set j p) : z = p ∨ ∃ i, ∃ hi : i < m.length, i ≠ j ∧ z = m[i] := by
  obtain ⟨i, hi, rfl⟩ := List.getElem_of_mem h
  rw [List.getElem_set]
  by_cases e : j = i
  · rw [if_pos e]; exact Or.inl rfl
  · rw [if_neg e]; exact Or.inr ⟨i, by simpa using hi, fun h => e h.symm, rfl⟩
/-- the first three cells of one mailbox are written anew -/
theorem OwnBs.head {w : World} {B E EM g c j : Nat} {m : List PBox} (h : OwnBs w B E EM (some ⟨g, 0, none⟩) c m) (hc : c ≠ 0) (hj : j < m.length) (n : ByteArray) (v x : Int) :
    OwnBs (putW w g (j * 4) [.string n, .int .i64 v, .int .i64 x]) B E EM (some ⟨g, 0, none⟩) c (m.set j ⟨n, v, x, m[j].msgs, m[j].ma, m[j].mc⟩) ∧ w.grownBy (putW w g (j * 4) [.string n, .int .i64 v, .int .i64 x]) (some g) := by
  obtain ⟨g', hg', hrow⟩ := h.row.row hc
  cases hg'
  obtain ⟨h1, g1⟩ := own_put [.string n, .int .i64 v, .int .i64 x] w (j * 4) _ hrow
  have hft : foot (.slice (some ⟨g, 0, none⟩) m.length c) = some g := by simp [foot, hc]
  have e0 := flat_set1 PBox.cells_len m j 0 hj (by omega) (.string n) ⟨n, m[j].validity, m[j].next, m[j].msgs, m[j].ma, m[j].mc⟩ (by simp [PBox.cells])
  have e1 := flat_set1 PBox.cells_len (m.set j ⟨n, m[j].validity, m[j].next, m[j].msgs, m[j].ma, m[j].mc⟩) j 1 (by simpa using hj) (by omega) (.int .i64 v) ⟨n, v, m[j].next, m[j].msgs, m[j].ma, m[j].mc⟩ (by simp [PBox.cells])
  have e2 := flat_set1 PBox.cells_len ((m.set j ⟨n, m[j].validity, m[j].next, m[j].msgs, m[j].ma, m[j].mc⟩).set j ⟨n, v, m[j].next, m[j].msgs, m[j].ma, m[j].mc⟩) j 2 (by simpa using hj) (by omega) (.int .i64 x) ⟨n, v, x, m[j].msgs, m[j].ma, m[j].mc⟩ (by simp [PBox.cells])
  have e3 : putAt (m.flatMap PBox.cells) (j * 4) [.string n, .int .i64 v, .int .i64 x] = (m.set j ⟨n, v, x, m[j].msgs, m[j].ma, m[j].mc⟩).flatMap PBox.cells := by
    simp only [putAt]
    rw [Nat.add_zero] at e0
    rw [e0, e1, e2, List.set_set, List.set_set]
  rw [e3] at h1
  have hl : (m.set j ⟨n, v, x, m[j].msgs, m[j].ma, m[j].mc⟩).length = m.length := List.length_set ..
  have hk := key_set hj (p := ⟨n, v, x, m[j].msgs, m[j].ma, m[j].mc⟩) rfl
  refine ⟨⟨by rw [hl]; exact Own.of_row h1, fun z hz => ?_, by rw [hk, hl]; exact h.off, by rw [hk]; exact h.apart⟩, g1⟩
  have ho : ∀ (y : PBox), y ∈ m → foot y.key ≠ some g := fun y hy e => by
    rcases h.off y.key (List.mem_map_of_mem hy) with h2 | h2
    · rw [h2] at e; cases e
    · exact h2 (by rw [e, hft])
  rcases mem_set hz with rfl | ⟨i, hi, _, rfl⟩
  · exact Own.putW_off (ho _ (List.getElem_mem hj)) _ _ _ (h.msg _ (List.getElem_mem hj))
  · exact Own.putW_off (ho _ (List.getElem_mem hi)) _ _ _ (h.msg _ (List.getElem_mem hi))
/-- the messages of one mailbox are written anew -/
theorem OwnBs.tail {w w' : World} {B E EM c j : Nat} {a : Option Addr} {m : List PBox} (h : OwnBs w B E EM a c m) (hj : j < m.length) (l' : List DMsg) (hlen : l'.length = m[j].msgs.length)
    (hown : Own w' B EM 3 (.slice m[j].ma m[j].msgs.length m[j].mc) m[j].msgs.length (l'.flatMap DMsg.cells)) (hg : w.grownBy w' (foot m[j].key)) :
    OwnBs w' B E EM a c (m.set j ⟨m[j].name, m[j].validity, m[j].next, l', m[j].ma, m[j].mc⟩) := by
  have hl : (m.set j ⟨m[j].name, m[j].validity, m[j].next, l', m[j].ma, m[j].mc⟩).length = m.length := List.length_set ..
  have hk := key_set hj (p := ⟨m[j].name, m[j].validity, m[j].next, l', m[j].ma, m[j].mc⟩) (by simp [PBox.key, hlen])
  have hcs := cells_set hj (p := ⟨m[j].name, m[j].validity, m[j].next, l', m[j].ma, m[j].mc⟩) (by simp [PBox.cells, hlen])
  have hkm : m[j].key ∈ m.map PBox.key := List.mem_map_of_mem (List.getElem_mem hj)
  refine ⟨by rw [hl, hcs]; exact h.row.off hg (h.off _ hkm).symm, fun z hz => ?_, by rw [hk, hl]; exact h.off, by rw [hk]; exact h.apart⟩
  rcases mem_set hz with rfl | ⟨i, hi, hij, rfl⟩
  · show Own w' B EM 3 (.slice m[j].ma l'.length m[j].mc) l'.length (l'.flatMap DMsg.cells)
    rw [hlen]; exact hown
  · have hp : Off2 m[i].key m[j].key := by
      have h3 := List.pairwise_iff_getElem.1 h.apart
      rcases Nat.lt_or_ge i j with hlt | hge
      · have := h3 i j (by simpa using hi) (by simpa using hj) hlt
        simpa using this
      · have := h3 j i (by simpa using hj) (by simpa using hi) (by omega)
        exact (by simpa using this : Off2 m[j].key m[i].key).symm
    exact (h.msg _ (List.getElem_mem hi)).off hg hp
def cntB (l : List PBox) : Nat := (l.map fun p => 3 + 3 * p.msgs.length).sum
def markB (p : PBox) (K : Int) : PBox := ⟨mtext K, K + 1, K + 1 + 1, markN DMsg.mark 3 p.msgs.length (K + 1 + 1 + 1), p.ma, p.mc⟩
def markTo (l : List PBox) (k : Int) (j : Nat) : List PBox := (List.range j).map fun i => markB l[i]! (k + cntB (l.take i))
theorem markTo_len (l : List PBox) (k : Int) (j : Nat) : (markTo l k j).length = j := by simp [markTo]
theorem markTo_succ (l : List PBox) (k : Int) (j : Nat) (hj : j < l.length) : markTo l k (j + 1) = markTo l k j ++ [markB l[j] (k + cntB (l.take j))] := by
  unfold markTo
  rw [List.range_succ, List.map_append]
  simp [hj]
theorem mid_get {l A : List PBox} {j : Nat} (hA : A.length = j) (hj : j < l.length) (h : j < (A ++ l.drop j).length) : (A ++ l.drop j)[j] = l[j] := by
  rw [List.getElem_append_right (by omega)]
  simp [hA]
theorem mid_set {l A : List PBox} {j : Nat} (hA : A.length = j) (hj : j < l.length) (p : PBox) : (A ++ l.drop j).set j p = (A ++ [p]) ++ l.drop (j + 1) := by
  have h1 : l.drop j = l[j] :: l.drop (j + 1) := List.drop_eq_getElem_cons hj
  rw [List.set_append_right _ _ (by omega), hA, Nat.sub_self, h1, List.set_cons_zero, List.append_assoc]
  rfl
theorem cntB_succ (l : List PBox) (j : Nat) (hj : j < l.length) : cntB (l.take (j + 1)) = cntB (l.take j) + (3 + 3 * l[j].msgs.length) := sum_take_succ _ l j hj
theorem cntB_le (l : List PBox) (j : Nat) (hj : j < l.length) : cntB (l.take j) + (3 + 3 * l[j].msgs.length) ≤ cntB l := by
  rw [← cntB_succ l j hj]
  unfold cntB
  conv => rhs; rw [← List.take_append_drop (j + 1) l]
  rw [List.map_append, List.sum_append]; omega

theorem OwnBs.head_own {w : World} {B E EM g c j : Nat} {m : List PBox} (h : OwnBs w B E EM (some ⟨g, 0, none⟩) c m) (hc : c ≠ 0) (hj : j < m.length) (n : ByteArray) (v x : Int) :
    Own (putW w g (j * 4) [.string n, .int .i64 v, .int .i64 x]) B EM 3 (.slice m[j].ma m[j].msgs.length m[j].mc) m[j].msgs.length (m[j].msgs.flatMap DMsg.cells) := by
  have h1 := (h.head hc hj n v x).1
  have h2 := h1.msg ⟨n, v, x, m[j].msgs, m[j].ma, m[j].mc⟩ (by
    have h3 := List.getElem_mem (l := m.set j ⟨n, v, x, m[j].msgs, m[j].ma, m[j].mc⟩) (n := j) (by simpa using hj)
    rwa [List.getElem_set_self] at h3)
  exact h2
theorem OwnBs.mark {w1 w2 : World} {B E EM g c j : Nat} {m : List PBox} (h : OwnBs w1 B E EM (some ⟨g, 0, none⟩) c m) (hc : c ≠ 0) (hj : j < m.length) (K : Int)
    (hown : Own w2 B EM 3 (.slice m[j].ma m[j].msgs.length m[j].mc) m[j].msgs.length ((markN DMsg.mark 3 m[j].msgs.length (K + 1 + 1 + 1)).flatMap DMsg.cells))
    (hg : (putW w1 g (j * 4) [.string (mtext K), .int .i64 (K + 1), .int .i64 (K + 1 + 1)]).grownBy w2 (foot m[j].key)) : OwnBs w2 B E EM (some ⟨g, 0, none⟩) c (m.set j (markB m[j] K)) := by
  have h1 := (h.head hc hj (mtext K) (K + 1) (K + 1 + 1)).1
  have hj2 : j < (m.set j ⟨mtext K, K + 1, K + 1 + 1, m[j].msgs, m[j].ma, m[j].mc⟩).length := by simpa using hj
  have hs : (m.set j ⟨mtext K, K + 1, K + 1 + 1, m[j].msgs, m[j].ma, m[j].mc⟩)[j] = ⟨mtext K, K + 1, K + 1 + 1, m[j].msgs, m[j].ma, m[j].mc⟩ := List.getElem_set_self ..
  have h2 := h1.tail hj2 (markN DMsg.mark 3 m[j].msgs.length (K + 1 + 1 + 1)) (by rw [hs, markN_len]) (by rw [hs]; exact hown) (by rw [hs]; exact hg)
  rw [hs, List.set_set] at h2
  exact h2
def MarkBRel (E EM : Nat) (l : List PBox) (k : Int) (W : World) (B g c : Nat) (S : Nat → Prop) (kv i : Value) (wr : World) : Prop :=
  ∃ (j : Nat) (K : Int), j ≤ l.length ∧ i = .int .i64 j ∧ kv = .int .i64 K ∧ Hid (K = k + cntB (l.take j)) ∧ Hid (OwnBs wr B E EM (some ⟨g, 0, none⟩) c (markTo l k j ++ l.drop j)) ∧ Hid (Chg S W wr)

set_option maxRecDepth 100000 in
set_option maxHeartbeats 4000000 in
theorem markBoxS_any (l : List PBox) (a : Option Addr) (c B : Nat) (k : Int) (w : World) (h : OwnBs w B 52 111 a c l) (h0 : 1 ≤ k) (h1 : k ≤ 50000000) (hS : cntB l ≤ 6291456) :
    Calls Try.prog 27 #[.slice a l.length c, .int .i64 k] w fun e w' => e = .returned (.int .i64 (k + cntB l)) ∧ OwnBs w' B 52 111 a c (markTo l k l.length) ∧ Chg (rowsB a c l) w w' := by
  have hcap := h.row.cap
  by_cases hc0 : c = 0
  · obtain rfl : l = [] := List.eq_nil_of_length_eq_zero (by omega)
    subst hc0
    go_enter Try.func27, Try.ntmps27
    go_wp2_with fail
    go_loop [1, 5] (fun kv i => kv = .int .i64 k ∧ i = .int .i64 0) (fun _ _ => 0)
    case atStart => exact ⟨rfl, rfl⟩
    case round =>
      obtain ⟨rfl, rfl⟩ := hrel
      go_wp2_with fail
      go_ret
      exact ⟨ret_int (by simp [cntB]), h, Chg.refl _ _⟩
  · obtain ⟨g, rfl, hrow⟩ := h.row.row hc0
    have hgB : rowsB (some ⟨g, 0, none⟩) c l g := Or.inl (by simp [foot, hc0])
    have hgs : g < w.heap.size := (h.rows_lt g hgB).2
    have HGB := Lib.hid hgB
    clear hgB
    have HC := Lib.hid hc0
    have HS : Hid (MarkBRel 52 111 l k w B g c (rowsB (some ⟨g, 0, none⟩) c l) (.int .i64 k) (.int .i64 0) w) := ⟨0, k, Nat.zero_le _, rfl, rfl, by simp [Hid, cntB], by simpa [markTo, Hid] using h, Chg.refl _ _⟩
    have hln : l.length ≤ 9223372036854775807 := by omega
    clear h hrow hc0
    go_enter Try.func27, Try.ntmps27
    go_wp2_with fail
    go_loopw [1, 5] (fun kv i wr => MarkBRel 52 111 l k w B g c (rowsB (some ⟨g, 0, none⟩) c l) kv i wr) (fun _ i _ => l.length - (intOf i).toNat)
    case atStart => exact HS.out
    case round =>
      obtain ⟨j, K, hj, rfl, rfl, HK, HO, HB⟩ := hrel
      by_cases hlt : j < l.length
      · have hle := cntB_le l j hlt
        have hK1 : 1 ≤ K := by (have := HK.out; omega)
        have hK2 : K ≤ 62000000 := by (have := HK.out; omega)
        have hml : l[j].msgs.length ≤ 2097152 := by omega
        have hA := markTo_len l k j
        have hmj : j < (markTo l k j ++ l.drop j).length := by simp [hA]; omega
        have HMJ := Lib.hid hmj
        have HMG := Lib.hid (mid_get hA hlt hmj)
        have HMS := Lib.hid (fun p => mid_set hA hlt p)
        obtain ⟨g', hg', hrow⟩ := HO.out.row.row HC.out
        cases hg'
        have hlen : (markTo l k j ++ l.drop j).length = l.length := by simp [hA]; omega
        have hat := (Rd.of_own hrow).ptr (by rw [hlen]; omega)
        clear hA
        obtain ⟨b, o, hbo, hbb, hat⟩ := hat
        cases hbo
        obtain ⟨y0, y1, y2, y3⟩ := PBox.at hat j hmj
        obtain ⟨⟨u1, hu1⟩, hf1⟩ := own_slot hrow (j * 4 + 1) (by rw [hlen]; omega)
        obtain ⟨-, hf0⟩ := own_slot hrow (j * 4) (by rw [hlen]; omega)
        obtain ⟨-, hf2⟩ := own_slot hrow (j * 4 + 2) (by rw [hlen]; omega)
        rw [HMG.out] at y0 y1 y2 y3
        simp only [Nat.zero_add] at y0 y1 y2 y3
        have HAT := Lib.hid hat
        clear hat hrow hlen u1 hu1 hle
        have hgw : g < wr.heap.size := by (have := HB.out.size; omega)
        have hkey : foot l[j].key = foot (.slice l[j].ma l[j].msgs.length l[j].mc) := rfl
        go_wp2_with (first
          | (go_at_call 89; refine (markText_any K _ (by omega) (by omega)).mono ?_; rintro e w1 ⟨rfl, hb1⟩; have z0 := (hb1.cell (p := ⟨g, j * 4, none⟩) hgw).trans y0; have z1 := (hb1.cell (p := ⟨g, j * 4 + 1, none⟩) hgw).trans y1; have z2 := (hb1.cell (p := ⟨g, j * 4 + 2, none⟩) hgw).trans y2; have z3 := (hb1.cell (p := ⟨g, j * 4 + 3, none⟩) hgw).trans y3; have f0 := (hb1.frozen (p := ⟨g, j * 4, none⟩) hgw).trans hf0; have f1 := (hb1.frozen (p := ⟨g, j * 4 + 1, none⟩) hgw).trans hf1; have f2 := (hb1.frozen (p := ⟨g, j * 4 + 2, none⟩) hgw).trans hf2; have HJ := Lib.hid ((HO.out.ext hb1).head_own HC.out hmj (mtext K) (K + 1) (K + 1 + 1)))
          | (go_at_call 90; refine (markMsgS_any l[j].msgs l[j].ma l[j].mc B (K + 1 + 1 + 1) _ (by have h3 := HJ.out; rw [HMG.out] at h3; exact h3) (by omega) (by omega) (by omega)).mono ?_; rintro e w2 ⟨rfl, hown, hg2⟩; have HN := Lib.hid hown; have HG2 := Lib.hid hg2; clear hown hg2))
        go_roundw
        case rel =>
          refine ⟨j + 1, K + 1 + 1 + 1 + 3 * l[j].msgs.length, by omega, by go_num, by go_num, ?_, ?_, ?_⟩
          · have h4 := HK.out
            have h5 := cntB_succ l j hlt
            unfold Hid
            rw [h5]; push_cast; omega
          · have h6 := (HO.out.ext hb1).mark HC.out hmj K (by rw [HMG.out]; exact HN.out) (by rw [HMG.out]; exact HG2.out)
            rw [HMG.out, HMS.out] at h6
            unfold Hid
            rw [markTo_succ l k j hlt, ← HK.out]
            exact h6
          · refine HB.out.trans ((Chg.ext hb1).trans ((Chg.grown ((HO.out.ext hb1).head HC.out hmj (mtext K) (K + 1) (K + 1 + 1)).2 (fun x hx => by cases hx; exact HGB.out)).trans (Chg.grown HG2.out (fun x hx => Or.inr ⟨l[j].key, List.mem_map_of_mem (List.getElem_mem hlt), hx⟩))))
        case measure => simp [intOf]; omega
      · have hjl : j = l.length := by omega
        have HJL := Lib.hid hjl
        clear hjl
        go_wp2_with fail
        go_ret
        have h5 := HO.out
        have h6 := HK.out
        rw [HJL.out, List.drop_length, List.append_nil] at h5
        rw [HJL.out, List.take_length] at h6
        exact ⟨ret_int h6, h5, HB.out⟩
end Go.Proofs.Ytpameapajhbdnaa

namespace Go.Proofs.Ytpameapajhbdnaa
open Go.RowKit
set_option linter.unusedVariables false
set_option linter.unusedSimpArgs false

theorem cntB_sz (l : List PBox) : cntB l ≤ 3 * PBox.szS l := by
  unfold cntB PBox.szS
  induction l with
  | nil => simp
  | cons p l ih =>
    have h := DMsg.len_le p.msgs
    simp only [List.map_cons, List.sum_cons, List.length_cons, PBox.sz] at ih ⊢
    omega
theorem cntB_box {l m : List PBox} (h : l.map PBox.box = m.map PBox.box) : cntB l = cntB m := by
  have e : ∀ l : List PBox, cntB l = ((l.map PBox.box).map fun b => 3 + 3 * b.msgs.length).sum := fun l => by
    unfold cntB
    rw [List.map_map]; rfl
  rw [e, e, h]
/-- a block is none of S -/
def ROff (S : Nat → Prop) (b : Nat) : Prop := ¬ S b
theorem Chg.roff {S : Nat → Prop} {w w' : World} (h : Chg S w w') : (∀ b o, b < w.heap.size → ROff S b → w'.cell? ⟨b, o, none⟩ = w.cell? ⟨b, o, none⟩) ∧ (∀ b o, b < w.heap.size → ROff S b → w'.frozen? ⟨b, o, none⟩ = w.frozen? ⟨b, o, none⟩) :=
  ⟨fun b o hb hn => h.cell hb hn, fun b o hb hn => h.frozen hb hn⟩
def rowsS (ba : Option Addr) (bc : Nat) (zs : List PBox) (la : Option Addr) (lc n : Nat) (k : Nat) : Prop := rowsB ba bc zs k ∨ foot (.slice la n lc) = some k
theorem OwnSt.rows_lt {w : World} {B E EM EC bc lc : Nat} {ba la : Option Addr} {zs : List PBox} {l : List DCommit} (h : OwnSt w B E EM EC ba bc zs la lc l) : ∀ k, rowsS ba bc zs la lc l.length k → B ≤ k ∧ k < w.heap.size := fun k hk => by
  rcases hk with hk | hk
  · exact h.box.rows_lt k hk
  · exact h.log.lt k hk
theorem OwnSt.le {w : World} {B B' E EM EC bc lc : Nat} {ba la : Option Addr} {zs : List PBox} {l : List DCommit} (h : OwnSt w B E EM EC ba bc zs la lc l) (hb : B' ≤ B) : OwnSt w B' E EM EC ba bc zs la lc l := ⟨h.box.le hb, h.log.le hb, h.offr, h.offm⟩
theorem OwnSt.chg {S : Nat → Prop} {a b : World} {B E EM EC bc lc : Nat} {ba la : Option Addr} {zs : List PBox} {l : List DCommit} (h : OwnSt a B E EM EC ba bc zs la lc l) (hb : Chg S a b) (hf : ∀ k, rowsS ba bc zs la lc l.length k → ¬ S k) : OwnSt b B E EM EC ba bc zs la lc l :=
  ⟨h.box.chg hb (fun k hk => hf k (Or.inl hk)), h.log.chg hb (fun k hk => hf k (Or.inr hk)), h.offr, h.offm⟩
theorem OwnSt.apart {w : World} {B E EM EC bc lc : Nat} {ba la : Option Addr} {zs : List PBox} {l : List DCommit} (h : OwnSt w B E EM EC ba bc zs la lc l) {k : Nat} (h1 : rowsB ba bc zs k) : foot (.slice la l.length lc) ≠ some k := fun e => by
  rcases h1 with h1 | ⟨v, hv, h1⟩
  · rcases h.offr with h2 | h2
    · rw [h2] at h1; cases h1
    · exact h2 (h1.trans e.symm)
  · obtain ⟨z, hz, rfl⟩ := List.mem_map.1 hv
    rcases h.offm z hz with h2 | h2
    · rw [show foot z.key = none from h2] at h1; cases h1
    · exact h2 (h1.trans e.symm)
theorem key_markTo (l : List PBox) (k : Int) : (markTo l k l.length).map PBox.key = l.map PBox.key := by
  apply List.ext_getElem?
  intro i
  by_cases hi : i < l.length
  · simp [markTo, hi, markB, PBox.key, markN_len]
  · simp [markTo, hi]

set_option maxRecDepth 100000 in
set_option maxHeartbeats 4000000 in
theorem markStore_any (xb : List PBox) (xbA : Option Addr) (xbC : Nat) (xl : List DCommit) (xlA : Option Addr) (xlC : Nat) (xg : Int) (B : Nat) (k : Int) (w : World) (h : OwnSt w B 52 111 38 xbA xbC xb xlA xlC xl) (h0 : 1 ≤ k) (h1 : k ≤ 20000000) (hS : cntB xb ≤ 6291456) (hl : xl.length ≤ 2097152) :
    Calls Try.prog 18 #[.agg #[.slice xbA xb.length xbC, .slice xlA xl.length xlC, .int .i64 xg], .int .i64 k] w fun e w' => e = .returned (.int .i64 (k + cntB xb + 6 * xl.length)) ∧ OwnSt w' B 52 111 38 xbA xbC (markTo xb k xb.length) xlA xlC (markN DCommit.mark 6 xl.length (k + cntB xb)) ∧ Chg (rowsS xbA xbC xb xlA xlC xl.length) w w' := by
  have H := Lib.hid h
  clear h
  go_enter Try.func18, Try.ntmps18
  go_wp2_with fail
  refine (markBoxS_any xb _ _ B k _ (H.out.box.ext bxt) h0 (by omega) hS).mono ?_
  rintro e w1 ⟨rfl, hown, hc⟩
  have HO := Lib.hid hown
  have HC := Lib.hid hc
  clear hown hc
  have hnb : ¬ rowsB xbA xbC xb w.heap.size := fun hr => by (have := (H.out.box.rows_lt _ hr).2; omega)
  have c0 : w1.cell? ⟨w.heap.size, 0, none⟩ = some (.slice xbA xb.length xbC) := (HC.out.cell (x := w.heap.size) (by simp) hnb).trans (by simp [go_sem])
  have c1 : w1.cell? ⟨w.heap.size, 1, none⟩ = some (.slice xlA xl.length xlC) := (HC.out.cell (x := w.heap.size) (by simp) hnb).trans (by simp [go_sem])
  have c2 : w1.cell? ⟨w.heap.size, 2, none⟩ = some (.int .i64 xg) := (HC.out.cell (x := w.heap.size) (by simp) hnb).trans (by simp [go_sem])
  have hs1 : w.heap.size < w1.heap.size := by (have := HC.out.size; simp at this; omega)
  have HL : Hid (Own w1 B 38 6 (.slice xlA xl.length xlC) xl.length (xl.flatMap DCommit.cells)) := (H.out.log.ext bxt).chg HC.out (fun x hx hr => H.out.apart hr hx)
  have HNB := Lib.hid hnb
  clear hnb
  go_wp2_with fail
  refine (markCommitS_any xl _ _ B (k + cntB xb) _ HL.out (by omega) (by omega) hl).mono ?_
  rintro e w2 ⟨rfl, hown, hg⟩
  have HN := Lib.hid hown
  have HG := Lib.hid hg
  clear hown hg
  go_wp2_with fail
  go_ret
  have hlen : (markTo xb k xb.length).length = xb.length := markTo_len ..
  have hb2 : OwnBs w2 B 52 111 xbA xbC (markTo xb k xb.length) := HO.out.chg (S := fun x => foot (.slice xlA xl.length xlC) = some x) (Chg.grown HG.out (fun x hx => hx)) (fun x hx hl => by
    refine H.out.apart (k := x) ?_ hl
    rcases hx with hx | ⟨v, hv, hx⟩
    · rw [hlen] at hx; exact Or.inl hx
    · rw [key_markTo] at hv; exact Or.inr ⟨v, hv, hx⟩)
  refine ⟨rfl, ⟨hb2, by rw [markN_len]; exact HN.out, by rw [markN_len, hlen]; exact H.out.offr, fun z hz => ?_⟩, ?_⟩
  · rw [markN_len]
    have hz2 : z.key ∈ xb.map PBox.key := by (rw [← key_markTo xb k]; exact List.mem_map_of_mem hz)
    obtain ⟨y, hy, e⟩ := List.mem_map.1 hz2
    have := H.out.offm y hy
    rw [show (Value.slice z.ma z.msgs.length z.mc) = y.key from e.symm]
    exact this
  · exact (Chg.ext bxt).trans ((HC.out.mono (fun x hx => Or.inl hx)).trans (Chg.grown HG.out (fun x hx => Or.inr hx)))
end Go.Proofs.Ytpameapajhbdnaa

namespace Go.Proofs.Ytpameapajhbdnaa
open Go.RowKit
set_option linter.unusedVariables false
set_option linter.unusedSimpArgs false

theorem markTo_get (l : List PBox) (k : Int) (n j : Nat) (hj : j < n) (hl : j < l.length) (h : j < (markTo l k n).length) : (markTo l k n)[j] = markB l[j] (k + cntB (l.take j)) := by
  simp [markTo, hl]

set_option maxRecDepth 100000 in
set_option maxHeartbeats 4000000 in
theorem heldBoxS_any (l : List PBox) (a : Option Addr) (c : Nat) (k : Int) (w : World) (R : Rd w a c 4 l.length ((markTo l k l.length).flatMap PBox.cells)) (M : RdM w (markTo l k l.length)) (h0 : 1 ≤ k) (h1 : k ≤ 50000000) (hS : cntB l ≤ 6291456) :
    Calls Try.prog 28 #[.slice a l.length c, .int .i64 k] w fun e w' => e = .returned (.int .i64 (k + cntB l)) ∧ Ext w w' := by
  have hnc := R.nc
  have hcm := R.cm
  have HR := Lib.hid R
  have HM := Lib.hid M
  clear R M
  go_enter Try.func28, Try.ntmps28
  go_wp2_with fail
  go_loopw [1, 5] (fun kv i wr => ∃ (j : Nat) (K : Int), j ≤ l.length ∧ i = .int .i64 j ∧ kv = .int .i64 K ∧ Hid (K = k + cntB (l.take j)) ∧ Below w.heap.size w wr) (fun _ i _ => l.length - (intOf i).toNat)
  case atStart => exact ⟨0, k, Nat.zero_le _, rfl, rfl, by simp [Hid, cntB], Below.refl _ _⟩
  case round =>
    obtain ⟨j, K, hj, rfl, rfl, HK, hb⟩ := hrel
    by_cases hlt : j < l.length
    · have hle := cntB_le l j hlt
      have hK1 : 1 ≤ K := by (have := HK.out; omega)
      have hK2 : K ≤ 60000000 := by (have := HK.out; omega)
      have hml : l[j].msgs.length ≤ 2097152 := by omega
      have hsucc := cntB_succ l j hlt
      have HSU := Lib.hid hsucc
      clear hle hsucc
      obtain ⟨b, o, rfl, hbb, hat⟩ := HR.out.ptr (by omega)
      have hmj : j < (markTo l k l.length).length := by rw [markTo_len]; exact hlt
      have hg := markTo_get l k l.length j hlt hlt hmj
      have hyy := PBox.at (hat.ext hbb hb) j hmj
      have hrm := HM.out.at j hmj
      rw [hg, ← HK.out] at hyy hrm
      obtain ⟨y0, y1, y2, y3⟩ := hyy
      have hlm : (markB l[j] K).msgs.length = l[j].msgs.length := by simp [markB, markN_len]
      rw [hlm] at y3 hrm
      have z0 : wr.cell? ⟨b, o + j * 4, none⟩ = some (.string (mtext K)) := y0
      have z1 : wr.cell? ⟨b, o + j * 4 + 1, none⟩ = some (.int .i64 (K + 1)) := y1
      have z2 : wr.cell? ⟨b, o + j * 4 + 2, none⟩ = some (.int .i64 (K + 1 + 1)) := y2
      have z3 : wr.cell? ⟨b, o + j * 4 + 3, none⟩ = some (.slice l[j].ma l[j].msgs.length l[j].mc) := y3
      have hrm2 : Rd w l[j].ma l[j].mc 3 l[j].msgs.length ((markN DMsg.mark 3 l[j].msgs.length (K + 1 + 1 + 1)).flatMap DMsg.cells) := hrm
      have HRM := Lib.hid hrm2
      have HA := Lib.hid hat
      clear hat hg hmj hrm hrm2 hlm y0 y1 y2 y3
      have hbw : b < wr.heap.size := Nat.lt_of_lt_of_le hbb hb.size
      have hns : (!((mtext K).toList == (mtext K).toList)) = false := by simp
      have hn1 : ((K + 1 : Int) != K + 1) = false := by simp
      have hn2 : ((K + 1 + 1 : Int) != K + 1 + 1) = false := by simp
      have hneg : decide (K + 1 + 1 + 1 + 3 * (l[j].msgs.length : Int) < 0) = false := decide_eq_false (by omega)
      go_wp2_with fail
      go_region_held3 (fun w' => Below wr.heap.size wr w' ∧ (∀ b o, b < wr.heap.size → w'.cell? ⟨b, o, none⟩ = wr.cell? ⟨b, o, none⟩)) (first | with_reducible exact sBeg _ | with_reducible exact sExt (by assumption) (by assumption)) ((go_at_call 89; refine (markText_any K _ (by omega) (by omega)).mono ?_; rintro e w1 ⟨rfl, hq1⟩))
      have hb2 : Ext wr w1 := Below.ext (Below.refl _ _).drew hq1
      have hb3 : Below w.heap.size w w1 := Below.ext hb hb2
      have hbw1 : b < w1.heap.size := Nat.lt_of_lt_of_le hbw hb2.size
      have v1 := ((bcell hb2).1 _ _ hbw).trans z1
      have v2 := ((bcell hb2).1 _ _ hbw).trans z2
      have v3 := ((bcell hb2).1 _ _ hbw).trans z3
      go_wp2_with fail
      refine (heldMsgS_any l[j].msgs.length l[j].ma l[j].mc (K + 1 + 1 + 1) _ (HRM.out.ext bxt) (by omega) (by omega) hml).mono ?_
      rintro e w2 ⟨rfl, hb4⟩
      go_wp2_with fail
      go_roundw
      case rel => exact ⟨j + 1, _, by omega, by go_num, rfl, by (have h4 := HK.out; have h5 := HSU.out; unfold Hid; rw [h5]; push_cast; omega), bxt⟩
      case measure => simp [intOf]; omega
    · go_wp2_with fail
      go_ret
      have hjl : j = l.length := by omega
      subst hjl
      have h6 := HK.out
      rw [List.take_length] at h6
      exact ⟨ret_int h6, hb⟩

set_option maxRecDepth 100000 in
set_option maxHeartbeats 4000000 in
theorem heldStore_any (xb : List PBox) (xbA : Option Addr) (xbC : Nat) (n : Nat) (xlA : Option Addr) (xlC : Nat) (xg : Int) (k : Int) (w : World) (R : Rd w xbA xbC 4 xb.length ((markTo xb k xb.length).flatMap PBox.cells)) (M : RdM w (markTo xb k xb.length)) (RL : Rd w xlA xlC 6 n ((markN DCommit.mark 6 n (k + cntB xb)).flatMap DCommit.cells)) (h0 : 1 ≤ k) (h1 : k ≤ 20000000) (hS : cntB xb ≤ 6291456) (hl : n ≤ 2097152) :
    Calls Try.prog 19 #[.agg #[.slice xbA xb.length xbC, .slice xlA n xlC, .int .i64 xg], .int .i64 k] w fun e w' => e = .returned (.int .i64 (k + cntB xb + 6 * n)) ∧ Ext w w' := by
  have HR := Lib.hid R
  have HM := Lib.hid M
  have HL := Lib.hid RL
  clear R M RL
  have hneg1 : decide (k + (cntB xb : Int) < 0) = false := decide_eq_false (by omega)
  have hneg2 : decide (k + (cntB xb : Int) + 6 * (n : Int) < 0) = false := decide_eq_false (by omega)
  go_enter Try.func19, Try.ntmps19
  go_wp2_with fail
  refine (heldBoxS_any xb _ _ k _ (HR.out.ext bxt) (HM.out.ext bxt) h0 (by omega) hS).mono ?_
  rintro e w1 ⟨rfl, hb1⟩
  have c0 : w1.cell? ⟨w.heap.size, 0, none⟩ = some (.slice xbA xb.length xbC) := (hb1.cell (p := ⟨w.heap.size, 0, none⟩) (by simp)).trans (by simp [go_sem])
  have c1 : w1.cell? ⟨w.heap.size, 1, none⟩ = some (.slice xlA n xlC) := (hb1.cell (p := ⟨w.heap.size, 1, none⟩) (by simp)).trans (by simp [go_sem])
  have hs1 : w.heap.size < w1.heap.size := by (have hss := hb1.size; simp at hss; omega)
  go_wp2_with fail
  refine (heldCommitS_any n xlA xlC (k + cntB xb) _ (HL.out.ext bxt) (by omega) (by omega) hl).mono ?_
  rintro e w2 ⟨rfl, hb2⟩
  go_wp2_with fail
  go_ret
  exact ⟨rfl, bxt⟩
end Go.Proofs.Ytpameapajhbdnaa
