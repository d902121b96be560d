/-
  Marks laid into mailboxes of the call's own, and looked at.
  Marks laid into a store of the call's own.
  Marks in mailboxes and in a store, looked at.
-/
import Derived.Test.YtadjlfcdjkikgaaDoorXFam
import Derived.Test.YtadjlfcdjkikgaaDoorXOwn
import Derived.Test.YtadjlfcdjkikgaaDoorXMark
namespace Go.Proofs.YtadjlfcdjkikgaaDoor
open Go.RowKit
set_option linter.unusedVariables false
set_option linter.unusedSimpArgs false

/-- the blocks in which mailboxes lie -/
def rowsB (a : Option Addr) (c : Nat) (l : List PBox) (k : Nat) : Prop := foot (.slice a l.length c) = some k ∨ ∃ v ∈ l.map PBox.key, foot v = some k
theorem OwnBs.chg {S : Nat → Prop} {B E EM c : Nat} {a b : World} {x : Option Addr} {l : List PBox} (h : OwnBs a B E EM x c l) (hb : Chg S a b) (hf : ∀ k, rowsB x c l k → ¬ S k) : OwnBs b B E EM x c l :=
  ⟨h.row.chg hb (fun k hk => hf k (Or.inl hk)), fun z hz => (h.msg z hz).chg hb (fun k hk => hf k (Or.inr ⟨z.key, List.mem_map_of_mem hz, hk⟩)), h.off, h.apart⟩
theorem OwnBs.rows_lt {B E EM c : Nat} {a : World} {x : Option Addr} {l : List PBox} (h : OwnBs a B E EM x c l) : ∀ k, rowsB x c l k → B ≤ k ∧ k < a.heap.size := fun k hk => by
  rcases hk with hk | ⟨v, hv, hk⟩
  · exact h.row.lt k hk
  · obtain ⟨z, hz, rfl⟩ := List.mem_map.1 hv
    exact (h.msg z hz).lt k hk
theorem key_set {m : List PBox} {j : Nat} (hj : j < m.length) {p : PBox} (hp : p.key = m[j].key) : (m.set j p).map PBox.key = m.map PBox.key := by
  rw [List.map_set, hp]
  apply List.ext_getElem?
  intro i
  rw [List.getElem?_set]
  split
  · rename_i e; subst e; simp [hj]
  · rfl
theorem cells_set {m : List PBox} {j : Nat} (hj : j < m.length) {p : PBox} (hp : p.cells = m[j].cells) : (m.set j p).flatMap PBox.cells = m.flatMap PBox.cells := by
  rw [List.flatMap_def, List.flatMap_def, List.map_set, hp]
  congr 1
  apply List.ext_getElem?
  intro i
  rw [List.getElem?_set]
  split
  · rename_i e; subst e; simp [hj]
  · rfl
theorem mem_set {m : List PBox} {j : Nat} {p z : PBox} (h : z ∈ m.set j p) : z = p ∨ ∃ i, ∃ hi : i < m.length, i ≠ j ∧ z = m[i] := by
  obtain ⟨i, hi, rfl⟩ := List.getElem_of_mem h
  rw [List.getElem_set]
  by_cases e : j = i
  · rw [if_pos e]; exact Or.inl rfl
  · rw [if_neg e]; exact Or.inr ⟨i, by simpa using hi, fun h => e h.symm, rfl⟩
/-- the first three cells of one mailbox are written anew -/
theorem OwnBs.head {w : World} {B E EM g c j : Nat} {m : List PBox} (h : OwnBs w B E EM (some ⟨g, 0, none⟩) c m) (hc : c ≠ 0) (hj : j < m.length) (n : ByteArray) (v x : Int) :
    OwnBs (putW w g (j * 4) [.string n, .int .i64 v, .int .i64 x]) B E EM (some ⟨g, 0, none⟩) c (m.set j ⟨n, v, x, m[j].msgs, m[j].ma, m[j].mc⟩) ∧ w.grownBy (putW w g (j * 4) [.string n, .int .i64 v, .int .i64 x]) (some g) := by
  obtain ⟨g', hg', hrow⟩ := h.row.row hc
  cases hg'
  obtain ⟨h1, g1⟩ := own_put [.string n, .int .i64 v, .int .i64 x] w (j * 4) _ hrow
  have hft : foot (.slice (some ⟨g, 0, none⟩) m.length c) = some g := by simp [foot, hc]
  have e0 := flat_set1 PBox.cells_len m j 0 hj (by omega) (.string n) ⟨n, m[j].validity, m[j].next, m[j].msgs, m[j].ma, m[j].mc⟩ (by simp [PBox.cells])
  have e1 := flat_set1 PBox.cells_len (m.set j ⟨n, m[j].validity, m[j].next, m[j].msgs, m[j].ma, m[j].mc⟩) j 1 (by simpa using hj) (by omega) (.int .i64 v) ⟨n, v, m[j].next, m[j].msgs, m[j].ma, m[j].mc⟩ (by simp [PBox.cells])
  have e2 := flat_set1 PBox.cells_len ((m.set j ⟨n, m[j].validity, m[j].next, m[j].msgs, m[j].ma, m[j].mc⟩).set j ⟨n, v, m[j].next, m[j].msgs, m[j].ma, m[j].mc⟩) j 2 (by simpa using hj) (by omega) (.int .i64 x) ⟨n, v, x, m[j].msgs, m[j].ma, m[j].mc⟩ (by simp [PBox.cells])
  have e3 : putAt (m.flatMap PBox.cells) (j * 4) [.string n, .int .i64 v, .int .i64 x] = (m.set j ⟨n, v, x, m[j].msgs, m[j].ma, m[j].mc⟩).flatMap PBox.cells := by
    simp only [putAt]
    rw [Nat.add_zero] at e0
    rw [e0, e1, e2, List.set_set, List.set_set]
  rw [e3] at h1
  have hl : (m.set j ⟨n, v, x, m[j].msgs, m[j].ma, m[j].mc⟩).length = m.length := List.length_set ..
  have hk := key_set hj (p := ⟨n, v, x, m[j].msgs, m[j].ma, m[j].mc⟩) rfl
  refine ⟨⟨by rw [hl]; exact Own.of_row h1, fun z hz => ?_, by rw [hk, hl]; exact h.off, by rw [hk]; exact h.apart⟩, g1⟩
  have ho : ∀ (y : PBox), y ∈ m → foot y.key ≠ some g := fun y hy e => by
    rcases h.off y.key (List.mem_map_of_mem hy) with h2 | h2
    · rw [h2] at e; cases e
    · exact h2 (by rw [e, hft])
  rcases mem_set hz with rfl | ⟨i, hi, _, rfl⟩
  · exact Own.putW_off (ho _ (List.getElem_mem hj)) _ _ _ (h.msg _ (List.getElem_mem hj))
  · exact Own.putW_off (ho _ (List.getElem_mem hi)) _ _ _ (h.msg _ (List.getElem_mem hi))
/-- the messages of one mailbox are written anew -/
theorem OwnBs.tail {w w' : World} {B E EM c j : Nat} {a : Option Addr} {m : List PBox} (h : OwnBs w B E EM a c m) (hj : j < m.length) (l' : List DMsg) (hlen : l'.length = m[j].msgs.length)
    (hown : Own w' B EM 3 (.slice m[j].ma m[j].msgs.length m[j].mc) m[j].msgs.length (l'.flatMap DMsg.cells)) (hg : w.grownBy w' (foot m[j].key)) :
    OwnBs w' B E EM a c (m.set j ⟨m[j].name, m[j].validity, m[j].next, l', m[j].ma, m[j].mc⟩) := by
  have hl : (m.set j ⟨m[j].name, m[j].validity, m[j].next, l', m[j].ma, m[j].mc⟩).length = m.length := List.length_set ..
  have hk := key_set hj (p := ⟨m[j].name, m[j].validity, m[j].next, l', m[j].ma, m[j].mc⟩) (by simp [PBox.key, hlen])
  have hcs := cells_set hj (p := ⟨m[j].name, m[j].validity, m[j].next, l', m[j].ma, m[j].mc⟩) (by simp [PBox.cells, hlen])
  have hkm : m[j].key ∈ m.map PBox.key := List.mem_map_of_mem (List.getElem_mem hj)
  refine ⟨by rw [hl, hcs]; exact h.row.off hg (h.off _ hkm).symm, fun z hz => ?_, by rw [hk, hl]; exact h.off, by rw [hk]; exact h.apart⟩
  rcases mem_set hz with rfl | ⟨i, hi, hij, rfl⟩
  · show Own w' B EM 3 (.slice m[j].ma l'.length m[j].mc) l'.length (l'.flatMap DMsg.cells)
    rw [hlen]; exact hown
  · have hp : Off2 m[i].key m[j].key := by
      have h3 := List.pairwise_iff_getElem.1 h.apart
      rcases Nat.lt_or_ge i j with hlt | hge
      · have := h3 i j (by simpa using hi) (by simpa using hj) hlt
        simpa using this
      · have := h3 j i (by simpa using hj) (by simpa using hi) (by omega)
        exact (by simpa using this : Off2 m[j].key m[i].key).symm
    exact (h.msg _ (List.getElem_mem hi)).off hg hp
def cntB (l : List PBox) : Nat := (l.map fun p => 3 + 3 * p.msgs.length).sum
def markB (p : PBox) (K : Int) : PBox := ⟨mtext K, K + 1, K + 1 + 1, markN DMsg.mark 3 p.msgs.length (K + 1 + 1 + 1), p.ma, p.mc⟩
def markTo (l : List PBox) (k : Int) (j : Nat) : List PBox := (List.range j).map fun i => markB l[i]! (k + cntB (l.take i))
theorem markTo_len (l : List PBox) (k : Int) (j : Nat) : (markTo l k j).length = j := by simp [markTo]
theorem markTo_succ (l : List PBox) (k : Int) (j : Nat) (hj : j < l.length) : markTo l k (j + 1) = markTo l k j ++ [markB l[j] (k + cntB (l.take j))] := by
  unfold markTo
  rw [List.range_succ, List.map_append]
  simp [hj]
theorem mid_get {l A : List PBox} {j : Nat} (hA : A.length = j) (hj : j < l.length) (h : j < (A ++ l.drop j).length) : (A ++ l.drop j)[j] = l[j] := by
  rw [List.getElem_append_right (by omega)]
  simp [hA]
theorem mid_set {l A : List PBox} {j : Nat} (hA : A.length = j) (hj : j < l.length) (p : PBox) : (A ++ l.drop j).set j p = (A ++ [p]) ++ l.drop (j + 1) := by
  have h1 : l.drop j = l[j] :: l.drop (j + 1) := List.drop_eq_getElem_cons hj
  rw [List.set_append_right _ _ (by omega), hA, Nat.sub_self, h1, List.set_cons_zero, List.append_assoc]
  rfl
theorem cntB_succ (l : List PBox) (j : Nat) (hj : j < l.length) : cntB (l.take (j + 1)) = cntB (l.take j) + (3 + 3 * l[j].msgs.length) := sum_take_succ _ l j hj
theorem cntB_le (l : List PBox) (j : Nat) (hj : j < l.length) : cntB (l.take j) + (3 + 3 * l[j].msgs.length) ≤ cntB l := by
  rw [← cntB_succ l j hj]
  unfold cntB
  conv => rhs; rw [← List.take_append_drop (j + 1) l]
  rw [List.map_append, List.sum_append]; omega

theorem OwnBs.head_own {w : World} {B E EM g c j : Nat} {m : List PBox} (h : OwnBs w B E EM (some ⟨g, 0, none⟩) c m) (hc : c ≠ 0) (hj : j < m.length) (n : ByteArray) (v x : Int) :
    Own (putW w g (j * 4) [.string n, .int .i64 v, .int .i64 x]) B EM 3 (.slice m[j].ma m[j].msgs.length m[j].mc) m[j].msgs.length (m[j].msgs.flatMap DMsg.cells) := by
  have h1 := (h.head hc hj n v x).1
  have h2 := h1.msg ⟨n, v, x, m[j].msgs, m[j].ma, m[j].mc⟩ (by
    have h3 := List.getElem_mem (l := m.set j ⟨n, v, x, m[j].msgs, m[j].ma, m[j].mc⟩) (n := j) (by simpa using hj)
    rwa [List.getElem_set_self] at h3)
  exact h2
theorem OwnBs.mark {w1 w2 : World} {B E EM g c j : Nat} {m : List PBox} (h : OwnBs w1 B E EM (some ⟨g, 0, none⟩) c m) (hc : c ≠ 0) (hj : j < m.length) (K : Int)
    (hown : Own w2 B EM 3 (.slice m[j].ma m[j].msgs.length m[j].mc) m[j].msgs.length ((markN DMsg.mark 3 m[j].msgs.length (K + 1 + 1 + 1)).flatMap DMsg.cells))
    (hg : (putW w1 g (j * 4) [.string (mtext K), .int .i64 (K + 1), .int .i64 (K + 1 + 1)]).grownBy w2 (foot m[j].key)) : OwnBs w2 B E EM (some ⟨g, 0, none⟩) c (m.set j (markB m[j] K)) := by
  have h1 := (h.head hc hj (mtext K) (K + 1) (K + 1 + 1)).1
  have hj2 : j < (m.set j ⟨mtext K, K + 1, K + 1 + 1, m[j].msgs, m[j].ma, m[j].mc⟩).length := by simpa using hj
  have hs : (m.set j ⟨mtext K, K + 1, K + 1 + 1, m[j].msgs, m[j].ma, m[j].mc⟩)[j] = ⟨mtext K, K + 1, K + 1 + 1, m[j].msgs, m[j].ma, m[j].mc⟩ := List.getElem_set_self ..
  have h2 := h1.tail hj2 (markN DMsg.mark 3 m[j].msgs.length (K + 1 + 1 + 1)) (by rw [hs, markN_len]) (by rw [hs]; exact hown) (by rw [hs]; exact hg)
  rw [hs, List.set_set] at h2
  exact h2
def MarkBRel (E EM : Nat) (l : List PBox) (k : Int) (W : World) (B g c : Nat) (S : Nat → Prop) (kv i : Value) (wr : World) : Prop :=
  ∃ (j : Nat) (K : Int), j ≤ l.length ∧ i = .int .i64 j ∧ kv = .int .i64 K ∧ Hid (K = k + cntB (l.take j)) ∧ Hid (OwnBs wr B E EM (some ⟨g, 0, none⟩) c (markTo l k j ++ l.drop j)) ∧ Hid (Chg S W wr)

end Go.Proofs.YtadjlfcdjkikgaaDoor

namespace Go.Proofs.YtadjlfcdjkikgaaDoor
open Go.RowKit
set_option linter.unusedVariables false
set_option linter.unusedSimpArgs false

theorem cntB_sz (l : List PBox) : cntB l ≤ 3 * PBox.szS l := by
  unfold cntB PBox.szS
  induction l with
  | nil => simp
  | cons p l ih =>
    have h := DMsg.len_le p.msgs
    simp only [List.map_cons, List.sum_cons, List.length_cons, PBox.sz] at ih ⊢
    omega
theorem cntB_box {l m : List PBox} (h : l.map PBox.box = m.map PBox.box) : cntB l = cntB m := by
  have e : ∀ l : List PBox, cntB l = ((l.map PBox.box).map fun b => 3 + 3 * b.msgs.length).sum := fun l => by
    unfold cntB
    rw [List.map_map]; rfl
  rw [e, e, h]
/-- a block is none of S -/
def ROff (S : Nat → Prop) (b : Nat) : Prop := ¬ S b
theorem Chg.roff {S : Nat → Prop} {w w' : World} (h : Chg S w w') : (∀ b o, b < w.heap.size → ROff S b → w'.cell? ⟨b, o, none⟩ = w.cell? ⟨b, o, none⟩) ∧ (∀ b o, b < w.heap.size → ROff S b → w'.frozen? ⟨b, o, none⟩ = w.frozen? ⟨b, o, none⟩) :=
  ⟨fun b o hb hn => h.cell hb hn, fun b o hb hn => h.frozen hb hn⟩
def rowsS (ba : Option Addr) (bc : Nat) (zs : List PBox) (la : Option Addr) (lc n : Nat) (k : Nat) : Prop := rowsB ba bc zs k ∨ foot (.slice la n lc) = some k
theorem OwnSt.rows_lt {w : World} {B E EM EC bc lc : Nat} {ba la : Option Addr} {zs : List PBox} {l : List DCommit} (h : OwnSt w B E EM EC ba bc zs la lc l) : ∀ k, rowsS ba bc zs la lc l.length k → B ≤ k ∧ k < w.heap.size := fun k hk => by
  rcases hk with hk | hk
  · exact h.box.rows_lt k hk
  · exact h.log.lt k hk
theorem OwnSt.le {w : World} {B B' E EM EC bc lc : Nat} {ba la : Option Addr} {zs : List PBox} {l : List DCommit} (h : OwnSt w B E EM EC ba bc zs la lc l) (hb : B' ≤ B) : OwnSt w B' E EM EC ba bc zs la lc l := ⟨h.box.le hb, h.log.le hb, h.offr, h.offm⟩
theorem OwnSt.chg {S : Nat → Prop} {a b : World} {B E EM EC bc lc : Nat} {ba la : Option Addr} {zs : List PBox} {l : List DCommit} (h : OwnSt a B E EM EC ba bc zs la lc l) (hb : Chg S a b) (hf : ∀ k, rowsS ba bc zs la lc l.length k → ¬ S k) : OwnSt b B E EM EC ba bc zs la lc l :=
  ⟨h.box.chg hb (fun k hk => hf k (Or.inl hk)), h.log.chg hb (fun k hk => hf k (Or.inr hk)), h.offr, h.offm⟩
theorem OwnSt.apart {w : World} {B E EM EC bc lc : Nat} {ba la : Option Addr} {zs : List PBox} {l : List DCommit} (h : OwnSt w B E EM EC ba bc zs la lc l) {k : Nat} (h1 : rowsB ba bc zs k) : foot (.slice la l.length lc) ≠ some k := fun e => by
  rcases h1 with h1 | ⟨v, hv, h1⟩
  · rcases h.offr with h2 | h2
    · rw [h2] at h1; cases h1
    · exact h2 (h1.trans e.symm)
  · obtain ⟨z, hz, rfl⟩ := List.mem_map.1 hv
    rcases h.offm z hz with h2 | h2
    · rw [show foot z.key = none from h2] at h1; cases h1
    · exact h2 (h1.trans e.symm)
theorem key_markTo (l : List PBox) (k : Int) : (markTo l k l.length).map PBox.key = l.map PBox.key := by
  apply List.ext_getElem?
  intro i
  by_cases hi : i < l.length
  · simp [markTo, hi, markB, PBox.key, markN_len]
  · simp [markTo, hi]

end Go.Proofs.YtadjlfcdjkikgaaDoor

namespace Go.Proofs.YtadjlfcdjkikgaaDoor
open Go.RowKit
set_option linter.unusedVariables false
set_option linter.unusedSimpArgs false

theorem markTo_get (l : List PBox) (k : Int) (n j : Nat) (hj : j < n) (hl : j < l.length) (h : j < (markTo l k n).length) : (markTo l k n)[j] = markB l[j] (k + cntB (l.take j)) := by
  simp [markTo, hl]


end Go.Proofs.YtadjlfcdjkikgaaDoor
