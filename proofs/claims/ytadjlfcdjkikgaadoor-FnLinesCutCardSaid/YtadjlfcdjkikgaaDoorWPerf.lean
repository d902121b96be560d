/-
  The program's perform: what its parts leave of the mailboxes.
-/
import Derived.Test.YtadjlfcdjkikgaaDoorXSort
import Derived.Test.YtadjlfcdjkikgaaDoorWLay
import Derived.Test.YtadjlfcdjkikgaaDoorListMsg
import Derived.Test.YtadjlfcdjkikgaaDoorWApplies
namespace Go.Proofs.YtadjlfcdjkikgaaDoor
open Go.RowKit
set_option linter.unusedVariables false
set_option linter.unusedSimpArgs false

/-- the rows of these mailboxes are rows of S or new -/
def NewR (S : Nat → Prop) (w : World) (g : Option Addr) (q : Nat) (l : List PBox) : Prop := ∀ k, rowsB g q l k → S k ∨ w.heap.size ≤ k
theorem NewR.of_len {S : Nat → Prop} {w : World} {g : Option Addr} {q : Nat} {l m : List PBox} (h : NewR S w g q l) (hm : ∀ v ∈ m.map PBox.key, (∃ u ∈ l.map PBox.key, u = v) ∨ ∀ k, foot v = some k → S k ∨ w.heap.size ≤ k) : NewR S w g q m := fun k hk => by
  rcases hk with hk | ⟨v, hv, hk⟩
  · exact h k (Or.inl ((foot_len _ _ _ _).trans hk))
  · rcases hm v hv with ⟨u, hu, rfl⟩ | h2
    · exact h k (Or.inr ⟨_, hu, hk⟩)
    · exact h2 k hk
theorem NewR.self {w : World} (g : Option Addr) (q : Nat) (l : List PBox) : NewR (rowsB g q l) w g q l := fun k hk => Or.inl hk
theorem NewR.push {w wx : World} {a g : Option Addr} {c q : Nat} {l : List PBox} {z : PBox} (hw : ∀ k, foot (.slice g (l.length + 1) q) = some k → foot (.slice a l.length c) = some k ∨ k = wx.heap.size) (hs : w.heap.size ≤ wx.heap.size) (hz : foot z.key = none) : NewR (rowsB a c l) w g q (l ++ [z]) := fun k hk => by
  rcases hk with hk | ⟨v, hv, hk⟩
  · rcases hw k ((foot_len _ _ _ _).trans hk) with h | h
    · exact Or.inl (Or.inl h)
    · exact Or.inr (by omega)
  · rw [List.map_append, List.mem_append] at hv
    rcases hv with hv | hv
    · exact Or.inl (Or.inr ⟨v, hv, hk⟩)
    · obtain rfl : v = z.key := by simpa using hv
      rw [hz] at hk; cases hk
theorem NewR.sub {w : World} {a : Option Addr} {c : Nat} {l m : List PBox} (hs : m.Sublist l) : NewR (rowsB a c l) w a c m := (NewR.self a c l).of_len fun v hv => Or.inl ⟨v, (hs.map _).subset hv, rfl⟩
theorem NewR.set {w : World} {a : Option Addr} {c j : Nat} {l : List PBox} {z : PBox} (hj : j < l.length) (hz : ∀ k, foot (.slice z.ma 0 z.mc) = some k → rowsB a c l k ∨ w.heap.size ≤ k) : NewR (rowsB a c l) w a c (l.set j z) := (NewR.self a c l).of_len fun v hv => by
  obtain ⟨y, hy, rfl⟩ := List.mem_map.1 hv
  rcases mem_set hy with rfl | ⟨i, hi, hij, rfl⟩
  · exact Or.inr (fun k hk => hz k ((foot_len _ _ _ _).trans hk))
  · exact Or.inl ⟨_, List.mem_map_of_mem (List.getElem_mem hi), rfl⟩
theorem Chg.set {S : Nat → Prop} {w w1 : World} (h : Chg S w w1) {p : Addr} (hp : S p.block) (u : Value) : Chg S w (w1.setCell p u) :=
  ⟨h.os, h.tape, h.output, by simpa [World.setCell] using h.size, fun k hk hn => (Below.heap_setCell _ _ _ _ (fun e => hn (by rw [e]; exact hp))).trans (h.block k hk hn)⟩
theorem chg_foot {S : Nat → Prop} {w wr w1 : World} {v : Value} (hb : Ext w wr) (hg : wr.grownBy w1 (foot v)) (hS : ∀ k, foot v = some k → S k) : Chg S w w1 := (Chg.ext hb).trans (Chg.grown hg (fun k e => hS k e))
def PerfPost (B E EM : Nat) (S : Nat → Prop) (w : World) (t : List DBox) : Ending → World → Prop := fun e w' => ∃ g q l', e = .returned (.slice g l'.length q) ∧ OwnBs w' B E EM g q l' ∧ (l'.map PBox.box).Perm t ∧ SortTo l' l'.length ∧ Chg S w w' ∧ NewR S w g q l'
theorem perf_end {w w2 w9 : World} {B E EM g q n : Nat} {l2 l9 : List PBox} {t : List DBox} {S : Nat → Prop} (h2 : Chg S w w2) (hnew : NewR S w (some ⟨g, 0, none⟩) q l2) (hr : OwnBs w2 B E EM (some ⟨g, 0, none⟩) q l2) (h9 : OwnBs w9 B E EM (some ⟨g, 0, none⟩) q l9) (hp : l9.Perm l2) (hs : SortTo l9 n) (hn : l2.length = n)
    (hch : Chg (rowsB (some ⟨g, 0, none⟩) q l2) w2 w9) (ht : l2.map PBox.box = t) : PerfPost B E EM S w t (.returned (.slice (some ⟨g, 0, none⟩) n q)) w9 :=
  ⟨some ⟨g, 0, none⟩, q, l9, by rw [hp.length_eq, hn], h9, by rw [← ht]; exact hp.map _, by rw [hp.length_eq, hn]; exact hs, ⟨hch.os.trans h2.os, hch.tape.trans h2.tape, hch.output.trans h2.output, Nat.le_trans h2.size hch.size, fun k hk hn => (hch.block k (Nat.lt_of_lt_of_le hk h2.size) (fun hr => (hnew k hr).elim hn (fun h => by omega))).trans (h2.block k hk hn)⟩, hnew.of_len fun v hv => Or.inl ⟨v, (hp.map PBox.key).subset hv, rfl⟩⟩
theorem below_foot2 {w wr w1 : World} {B E s n : Nat} {v : Value} {xs : List Value} (hB : B ≤ w.heap.size) (hb : Ext w wr) (hown : Own wr B E s v n xs) (hg : wr.grownBy w1 (foot v)) : Below B w w1 :=
  below_foot (hb.mono hB) hown (Nat.le_refl _) (by have := hb.size; omega) hg
theorem OwnBs.sub {w w2 : World} {B E EM c : Nat} {a : Option Addr} {l m : List PBox} (h : OwnBs w B E EM a c l) (hs : m.Sublist l) (hrow : Own w2 B E 4 (.slice a m.length c) m.length (m.flatMap PBox.cells)) (hg : w.grownBy w2 (foot (.slice a l.length c))) : OwnBs w2 B E EM a c m := by
  have hf : foot (.slice a m.length c) = foot (.slice a l.length c) := foot_len _ _ _ _
  refine ⟨hrow, fun z hz => (h.msg z (hs.subset hz)).off hg (h.off _ (List.mem_map_of_mem (hs.subset hz))), fun v hv => ?_, h.apart.sublist (hs.map _)⟩
  obtain ⟨z, hz, rfl⟩ := List.mem_map.1 hv
  have := h.off _ (List.mem_map_of_mem (hs.subset hz))
  unfold Off2 at this ⊢
  rw [hf]; exact this
/-- one mailbox is written anew, its messages may lie elsewhere -/
theorem OwnBs.refill {w wx wf : World} {B E EM g c j : Nat} {m : List PBox} {z : PBox} (h : OwnBs w B E EM (some ⟨g, 0, none⟩) c m) (hc : c ≠ 0) (hj : j < m.length) (hg : w.grownBy wx (foot m[j].key))
    (hz : Own wx B EM 3 (.slice z.ma z.msgs.length z.mc) z.msgs.length (z.msgs.flatMap DMsg.cells)) (hn : ∀ k, foot z.key = some k → foot m[j].key = some k ∨ w.heap.size ≤ k)
    (hrow : Own wf B E 4 (.slice (some ⟨g, 0, none⟩) m.length c) m.length ((m.set j z).flatMap PBox.cells)) (hgf : wx.grownBy wf (some g)) : OwnBs wf B E EM (some ⟨g, 0, none⟩) c (m.set j z) := by
  have hl : (m.set j z).length = m.length := List.length_set ..
  have hft : foot (.slice (some ⟨g, 0, none⟩) m.length c) = some g := by simp [foot, hc]
  have hgl := (h.row.lt g hft).2
  have hjm : m[j].key ∈ m.map PBox.key := List.mem_map_of_mem (List.getElem_mem hj)
  have hpr : ∀ i (hi : i < m.length), i ≠ j → Off2 m[i].key m[j].key := fun i hi hij => by
    have h3 := List.pairwise_iff_getElem.1 h.apart
    rcases Nat.lt_or_ge i j with hlt | hge
    · have := h3 i j (by simpa using hi) (by simpa using hj) hlt
      simpa using this
    · have := h3 j i (by simpa using hj) (by simpa using hi) (by omega)
      exact (by simpa using this : Off2 m[j].key m[i].key).symm
  have hzr : Off2 z.key (.slice (some ⟨g, 0, none⟩) m.length c) := by
    cases hf : foot z.key with
    | none => exact Or.inl hf
    | some k =>
      refine Or.inr (fun e => ?_)
      rw [hf, hft] at e
      cases e
      rcases hn _ hf with h1 | h1
      · rcases h.off _ hjm with h2 | h2
        · rw [h1] at h2; cases h2
        · exact h2 (by rw [h1, hft])
      · omega
  have hzi : ∀ i (hi : i < m.length), i ≠ j → Off2 m[i].key z.key := fun i hi hij => by
    cases hf : foot m[i].key with
    | none => exact Or.inl hf
    | some k =>
      refine Or.inr (fun e => ?_)
      rw [hf] at e
      have hlt := ((h.msg _ (List.getElem_mem hi)).lt k hf).2
      rcases hn _ e.symm with h1 | h1
      · rcases hpr i hi hij with h2 | h2
        · rw [h2] at hf; cases hf
        · exact h2 (by rw [hf, h1])
      · omega
  refine ⟨by rw [hl]; exact hrow, fun y hy => ?_, fun v hv => ?_, ?_⟩
  · rw [← hft] at hgf
    rcases mem_set hy with rfl | ⟨i, hi, hij, rfl⟩
    · exact hz.off hgf hzr
    · exact ((h.msg _ (List.getElem_mem hi)).off hg (hpr i hi hij)).off hgf (h.off _ (List.mem_map_of_mem (List.getElem_mem hi)))
  · obtain ⟨y, hy, rfl⟩ := List.mem_map.1 hv
    rw [hl]
    rcases mem_set hy with rfl | ⟨i, hi, hij, rfl⟩
    · exact hzr
    · exact h.off _ (List.mem_map_of_mem (List.getElem_mem hi))
  · refine List.pairwise_map.2 (List.pairwise_iff_getElem.2 fun p q hp hq hpq => ?_)
    have hp' : p < m.length := by simpa using hp
    have hq' : q < m.length := by simpa using hq
    rw [List.getElem_set, List.getElem_set]
    by_cases e1 : j = p
    · by_cases e2 : j = q
      · omega
      · rw [if_pos e1, if_neg e2]; exact (hzi q hq' (fun h => e2 h.symm)).symm
    · by_cases e2 : j = q
      · rw [if_neg e1, if_pos e2]; exact hzi p hp' (fun h => e1 h.symm)
      · rw [if_neg e1, if_neg e2]
        have h3 := List.pairwise_iff_getElem.1 h.apart p q (by simpa using hp') (by simpa using hq') hpq
        simpa using h3
theorem OwnBs.one {w : World} {B E EM g c : Nat} {m : List PBox} (h : OwnBs w B E EM (some ⟨g, 0, none⟩) c m) (hc : c ≠ 0) {j : Nat} (hj : j < m.length) {z : PBox} {o : Nat} {u : Value} (ho : o < 4) (hcell : m[j].cells.set o u = z.cells) (hk : z.key = m[j].key) (hm : z.msgs = m[j].msgs) :
    OwnBs (w.setCell ⟨g, j * 4 + o, none⟩ u) B E EM (some ⟨g, 0, none⟩) c (m.set j z) := by
  have hkk : Value.slice z.ma z.msgs.length z.mc = Value.slice m[j].ma m[j].msgs.length m[j].mc := hk
  refine h.refill hc hj (World.grownBy.refl _ _) (by rw [hkk, hm]; exact h.msg _ (List.getElem_mem hj)) (fun k hf => Or.inl (by rw [← hk]; exact hf)) (Own.put1 h.row hc (flat_set1 PBox.cells_len m j o hj ho u z hcell)) (grown_so (World.grownBy.refl _ _) rfl _)
section
variable {P : Program} {w : World} {B s n : Nat} {v : Value} {xs : List Value}
theorem step_appL {ops : Array Oper} {o : Oper} {a : Act} {K : Act → World → Prop} {Q : Exit → Act → World → Prop} {Els : Prop} (hgd : o.guard = none) (sl x : Operand) (t : TypeId)
    (ho : o.op = .call { callee := .builtin .append, args := #[sl, x], argTypes := #[t, t] })
    (e : TypeId) (i : TypeInfo) (z : Value) (bytes : Nat) (ht : P.underlying t = some (.slice e)) (hi : P.info? e = some i) (hz : i.zero = some z)
    (hsize : i.size = s) (hby : i.bytes = bytes) (hzs : z.cells.size = s) (hsz : 0 < s)
    (hs : a.eval sl = v) (hown : Own w B e s v n xs) (ra : Option Addr) (m c : Nat) (news : List Value) (hx : a.eval x = .slice ra m c) (R : Rd w ra c s m news) (h1 : ∀ u ∈ news, u.oneCell' = true)
    (hn : n + m ≤ 4194304) (hb2 : bytes ≤ 1024) (hbase : B ≤ w.heap.size)
    (h : ∀ g q w', Own w' B e s (.slice g (n + m) q) (n + m) (xs ++ news) → w.grownBy w' (foot v) → (∀ k, foot (.slice g (n + m) q) = some k → foot v = some k ∨ k = w.heap.size) → K (a.put o.dst (.slice g (n + m) q)) w') :
    if Region.wanted o (yielded ops a.tmps) = true then Oper.wp P o a w K Q else Els := by
  have hw : Region.wanted o (yielded ops a.tmps) = true := by simp [Region.wanted, hgd]
  rw [if_pos hw]
  obtain ⟨v', w', hr, h2, h3, h4⟩ := run_appL (P := P) t o.type e i z bytes ht hi hz hsize hby hzs hsz hown ra m c news R h1 (by unfold maxLen; omega)
    (Nat.le_trans (Nat.mul_le_mul hn hb2) (by omega)) hbase
  unfold Oper.wp execOp
  simp only [ho, resolve, invoke, builtin, Sem.run_bind, Sem.run_pure, Result.andThen_ok, List.map_toArray, List.map_cons, List.map_nil, hs, hx, hr]
  obtain ⟨g, q, rfl⟩ := h2.shape
  exact h g q w' h2 h3 h4
end

theorem OwnBs.msgs {w wx : World} {B E EM g c j n q2 : Nat} {g2 : Option Addr} {m : List PBox} (h : OwnBs w B E EM (some ⟨g, 0, none⟩) c m) (hc : c ≠ 0) (hj : j < m.length) (ms : List DMsg) (hn : ms.length = n) (hg : w.grownBy wx (foot m[j].key))
    (hz : Own wx B EM 3 (.slice g2 n q2) n (ms.flatMap DMsg.cells)) (hw : ∀ k, foot (.slice g2 n q2) = some k → foot m[j].key = some k ∨ w.heap.size ≤ k) :
    OwnBs (wx.setCell ⟨g, j * 4 + 3, none⟩ (.slice g2 n q2)) B E EM (some ⟨g, 0, none⟩) c (m.set j ⟨m[j].name, m[j].validity, m[j].next, ms, g2, q2⟩) := by
  subst hn
  exact h.refill hc hj hg hz hw (Own.put1 (h.row.off hg (h.off _ (List.mem_map_of_mem (List.getElem_mem hj))).symm) hc (flat_set1 PBox.cells_len m j 3 hj (by omega) _ ⟨m[j].name, m[j].validity, m[j].next, ms, g2, q2⟩ (by simp [PBox.cells]))) (grown_so (World.grownBy.refl _ _) rfl _)
/-- one mailbox holds other messages, and all else stands -/
def Refilled (B E EM g c : Nat) (l : List PBox) (i : Nat) (nm : ByteArray) (va nx : Int) (ms : List DMsg) (w wx : World) : Prop :=
  ∃ g2 q2, OwnBs wx B E EM (some ⟨g, 0, none⟩) c (l.set i ⟨nm, va, nx, ms, g2, q2⟩) ∧ Below B w wx
/-- the same, and which blocks may have changed -/
def RefillC (B E EM g c : Nat) (S : Nat → Prop) (l : List PBox) (i : Nat) (nm : ByteArray) (va nx : Int) (ms : List DMsg) (w wx : World) : Prop :=
  ∃ g2 q2, OwnBs wx B E EM (some ⟨g, 0, none⟩) c (l.set i ⟨nm, va, nx, ms, g2, q2⟩) ∧ Chg S w wx ∧ ∀ k, foot (.slice g2 0 q2) = some k → S k ∨ w.heap.size ≤ k
theorem OwnBs.slot {w : World} {B E EM g c j : Nat} {m : List PBox} (h : OwnBs w B E EM (some ⟨g, 0, none⟩) c m) (hc : c ≠ 0) (hj : j < m.length) (k : Nat) (hk : k < 4) : (∃ u, w.cell? ⟨g, j * 4 + k, none⟩ = some u) ∧ w.frozen? ⟨g, j * 4 + k, none⟩ = false :=
  h.row.slot (j * 4 + k) (by omega)
theorem OwnBs.slotx {w wx : World} {B E EM g c j : Nat} {m : List PBox} (h : OwnBs w B E EM (some ⟨g, 0, none⟩) c m) (hc : c ≠ 0) (hj : j < m.length) (k : Nat) (hk : k < 4) (hg : w.grownBy wx (foot m[j].key)) : (∃ u, wx.cell? ⟨g, j * 4 + k, none⟩ = some u) ∧ wx.frozen? ⟨g, j * 4 + k, none⟩ = false :=
  (h.row.off hg (h.off _ (List.mem_map_of_mem (List.getElem_mem hj))).symm).slot (j * 4 + k) (by omega)
theorem OwnBs.cells {w : World} {B E EM g c j : Nat} {m : List PBox} (h : OwnBs w B E EM (some ⟨g, 0, none⟩) c m) (hj : j < m.length) :
    w.cell? ⟨g, j * 4, none⟩ = some (.string m[j].name) ∧ w.cell? ⟨g, j * 4 + 1, none⟩ = some (.int .i64 m[j].validity) ∧ w.cell? ⟨g, j * 4 + 2, none⟩ = some (.int .i64 m[j].next) ∧ w.cell? ⟨g, j * 4 + 3, none⟩ = some (.slice m[j].ma m[j].msgs.length m[j].mc) := by
  obtain ⟨b, o, hbo, -, hat⟩ := h.rd.ptr (by omega)
  cases hbo
  have h1 := PBox.at hat j hj
  simpa only [Nat.zero_add] using h1
end Go.Proofs.YtadjlfcdjkikgaaDoor
