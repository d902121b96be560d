/-
  The program's perform: what its parts leave of the mailboxes.
  What applying a commit leaves of sorted mailboxes: sorted again, so there is one answer alone.
-/
import Derived.Test.YtpameapajhbdnaaK20
import Derived.Test.YtpameapajhbdnaaK06
import Derived.Test.YtpameapajhbdnaaK17
import Derived.Test.YtpameapajhbdnaaK19
namespace Go.Proofs.Ytpameapajhbdnaa
open Go.RowKit
set_option linter.unusedVariables false
set_option linter.unusedSimpArgs false

/-- the rows of these mailboxes are rows of S or new -/
def NewR (S : Nat → Prop) (w : World) (g : Option Addr) (q : Nat) (l : List PBox) : Prop := ∀ k, rowsB g q l k → S k ∨ w.heap.size ≤ k
theorem NewR.of_len {S : Nat → Prop} {w : World} {g : Option Addr} {q : Nat} {l m : List PBox} (h : NewR S w g q l) (hm : ∀ v ∈ m.map PBox.key, (∃ u ∈ l.map PBox.key, u = v) ∨ ∀ k, foot v = some k → S k ∨ w.heap.size ≤ k) : NewR S w g q m := fun k hk => by
  rcases hk with hk | ⟨v, hv, hk⟩
  · exact h k (Or.inl ((foot_len _ _ _ _).trans hk))
  · rcases hm v hv with ⟨u, hu, rfl⟩ | h2
    · exact h k (Or.inr ⟨_, hu, hk⟩)
    · exact h2 k hk
theorem NewR.self {w : World} (g : Option Addr) (q : Nat) (l : List PBox) : NewR (rowsB g q l) w g q l := fun k hk => Or.inl hk
theorem NewR.push {w wx : World} {a g : Option Addr} {c q : Nat} {l : List PBox} {z : PBox} (hw : ∀ k, foot (.slice g (l.length + 1) q) = some k → foot (.slice a l.length c) = some k ∨ k = wx.heap.size) (hs : w.heap.size ≤ wx.heap.size) (hz : foot z.key = none) : NewR (rowsB a c l) w g q (l ++ [z]) := fun k hk => by
  rcases hk with hk | ⟨v, hv, hk⟩
  · rcases hw k ((foot_len _ _ _ _).trans hk) with h | h
    · exact Or.inl (Or.inl h)
    · exact Or.inr (by omega)
  · rw [List.map_append, List.mem_append] at hv
    rcases hv with hv | hv
    · exact Or.inl (Or.inr ⟨v, hv, hk⟩)
    · obtain rfl : v = z.key := by simpa using hv
      rw [hz] at hk; cases hk
theorem NewR.set {w : World} {a : Option Addr} {c j : Nat} {l : List PBox} {z : PBox} (hj : j < l.length) (hz : ∀ k, foot (.slice z.ma 0 z.mc) = some k → rowsB a c l k ∨ w.heap.size ≤ k) : NewR (rowsB a c l) w a c (l.set j z) := (NewR.self a c l).of_len fun v hv => by
  obtain ⟨y, hy, rfl⟩ := List.mem_map.1 hv
  rcases mem_set hy with rfl | ⟨i, hi, hij, rfl⟩
  · exact Or.inr (fun k hk => hz k ((foot_len _ _ _ _).trans hk))
  · exact Or.inl ⟨_, List.mem_map_of_mem (List.getElem_mem hi), rfl⟩
theorem Chg.set {S : Nat → Prop} {w w1 : World} (h : Chg S w w1) {p : Addr} (hp : S p.block) (u : Value) : Chg S w (w1.setCell p u) :=
  ⟨h.os, h.tape, h.output, by simpa [World.setCell] using h.size, fun k hk hn => (Below.heap_setCell _ _ _ _ (fun e => hn (by rw [e]; exact hp))).trans (h.block k hk hn)⟩
theorem below_foot2 {w wr w1 : World} {B E s n : Nat} {v : Value} {xs : List Value} (hB : B ≤ w.heap.size) (hb : Ext w wr) (hown : Own wr B E s v n xs) (hg : wr.grownBy w1 (foot v)) : Below B w w1 :=
  below_foot (hb.mono hB) hown (Nat.le_refl _) (by have := hb.size; omega) hg
/-- one mailbox is written anew, its messages may lie elsewhere -/
theorem OwnBs.refill {w wx wf : World} {B E EM g c j : Nat} {m : List PBox} {z : PBox} (h : OwnBs w B E EM (some ⟨g, 0, none⟩) c m) (hc : c ≠ 0) (hj : j < m.length) (hg : w.grownBy wx (foot m[j].key))
    (hz : Own wx B EM 3 (.slice z.ma z.msgs.length z.mc) z.msgs.length (z.msgs.flatMap DMsg.cells)) (hn : ∀ k, foot z.key = some k → foot m[j].key = some k ∨ w.heap.size ≤ k)
    (hrow : Own wf B E 4 (.slice (some ⟨g, 0, none⟩) m.length c) m.length ((m.set j z).flatMap PBox.cells)) (hgf : wx.grownBy wf (some g)) : OwnBs wf B E EM (some ⟨g, 0, none⟩) c (m.set j z) := by
  have hl : (m.set j z).length = m.length := List.length_set ..
  have hft : foot (.slice (some ⟨g, 0, none⟩) m.length c) = some g := by simp [foot, hc]
  have hgl := (h.row.lt g hft).2
  have hjm : m[j].key ∈ m.map PBox.key := List.mem_map_of_mem (List.getElem_mem hj)
  have hpr : ∀ i (hi : i < m.length), i ≠ j → Off2 m[i].key m[j].key := fun i hi hij => by
    have h3 := List.pairwise_iff_getElem.1 h.apart
    rcases Nat.lt_or_ge i j with hlt | hge
    · have := h3 i j (by simpa using hi) (by simpa using hj) hlt
      simpa using this
    · have := h3 j i (by simpa using hj) (by simpa using hi) (by omega)
      exact (by simpa using this : Off2 m[j].key m[i].key).symm
  have hzr : Off2 z.key (.slice (some ⟨g, 0, none⟩) m.length c) := by
    cases hf : foot z.key with
    | none => exact Or.inl hf
    | some k =>
      refine Or.inr (fun e => ?_)
      rw [hf, hft] at e
      cases e
      rcases hn _ hf with h1 | h1
      · rcases h.off _ hjm with h2 | h2
        · rw [h1] at h2; cases h2
        · exact h2 (by rw [h1, hft])
      · omega
  have hzi : ∀ i (hi : i < m.length), i ≠ j → Off2 m[i].key z.key := fun i hi hij => by
    cases hf : foot m[i].key with
    | none => exact Or.inl hf
    | some k =>
      refine Or.inr (fun e => ?_)
      rw [hf] at e
      have hlt := ((h.msg _ (List.getElem_mem hi)).lt k hf).2
      rcases hn _ e.symm with h1 | h1
      · rcases hpr i hi hij with h2 | h2
        · rw [h2] at hf; cases hf
        · exact h2 (by rw [hf, h1])
      · omega
  refine ⟨by rw [hl]; exact hrow, fun y hy => ?_, fun v hv => ?_, ?_⟩
  · rw [← hft] at hgf
    rcases mem_set hy with rfl | ⟨i, hi, hij, rfl⟩
    · exact hz.off hgf hzr
    · exact ((h.msg _ (List.getElem_mem hi)).off hg (hpr i hi hij)).off hgf (h.off _ (List.mem_map_of_mem (List.getElem_mem hi)))
  · obtain ⟨y, hy, rfl⟩ := List.mem_map.1 hv
    rw [hl]
    rcases mem_set hy with rfl | ⟨i, hi, hij, rfl⟩
    · exact hzr
    · exact h.off _ (List.mem_map_of_mem (List.getElem_mem hi))
  · refine List.pairwise_map.2 (List.pairwise_iff_getElem.2 fun p q hp hq hpq => ?_)
    have hp' : p < m.length := by simpa using hp
    have hq' : q < m.length := by simpa using hq
    rw [List.getElem_set, List.getElem_set]
    by_cases e1 : j = p
    · by_cases e2 : j = q
      · omega
      · rw [if_pos e1, if_neg e2]; exact (hzi q hq' (fun h => e2 h.symm)).symm
    · by_cases e2 : j = q
      · rw [if_neg e1, if_pos e2]; exact hzi p hp' (fun h => e1 h.symm)
      · rw [if_neg e1, if_neg e2]
        have h3 := List.pairwise_iff_getElem.1 h.apart p q (by simpa using hp') (by simpa using hq') hpq
        simpa using h3
theorem OwnBs.one {w : World} {B E EM g c : Nat} {m : List PBox} (h : OwnBs w B E EM (some ⟨g, 0, none⟩) c m) (hc : c ≠ 0) {j : Nat} (hj : j < m.length) {z : PBox} {o : Nat} {u : Value} (ho : o < 4) (hcell : m[j].cells.set o u = z.cells) (hk : z.key = m[j].key) (hm : z.msgs = m[j].msgs) :
    OwnBs (w.setCell ⟨g, j * 4 + o, none⟩ u) B E EM (some ⟨g, 0, none⟩) c (m.set j z) := by
  have hkk : Value.slice z.ma z.msgs.length z.mc = Value.slice m[j].ma m[j].msgs.length m[j].mc := hk
  refine h.refill hc hj (World.grownBy.refl _ _) (by rw [hkk, hm]; exact h.msg _ (List.getElem_mem hj)) (fun k hf => Or.inl (by rw [← hk]; exact hf)) (Own.put1 h.row hc (flat_set1 PBox.cells_len m j o hj ho u z hcell)) (grown_so (World.grownBy.refl _ _) rfl _)
section
variable {P : Program} {w : World} {B s n : Nat} {v : Value} {xs : List Value}
theorem step_appL {ops : Array Oper} {o : Oper} {a : Act} {K : Act → World → Prop} {Q : Exit → Act → World → Prop} {Els : Prop} (hgd : o.guard = none) (sl x : Operand) (t : TypeId)
    (ho : o.op = .call { callee := .builtin .append, args := #[sl, x], argTypes := #[t, t] })
    (e : TypeId) (i : TypeInfo) (z : Value) (bytes : Nat) (ht : P.underlying t = some (.slice e)) (hi : P.info? e = some i) (hz : i.zero = some z)
    (hsize : i.size = s) (hby : i.bytes = bytes) (hzs : z.cells.size = s) (hsz : 0 < s)
    (hs : a.eval sl = v) (hown : Own w B e s v n xs) (ra : Option Addr) (m c : Nat) (news : List Value) (hx : a.eval x = .slice ra m c) (R : Rd w ra c s m news) (h1 : ∀ u ∈ news, u.oneCell' = true)
    (hn : n + m ≤ 4194304) (hb2 : bytes ≤ 1024) (hbase : B ≤ w.heap.size)
    (h : ∀ g q w', Own w' B e s (.slice g (n + m) q) (n + m) (xs ++ news) → w.grownBy w' (foot v) → (∀ k, foot (.slice g (n + m) q) = some k → foot v = some k ∨ k = w.heap.size) → K (a.put o.dst (.slice g (n + m) q)) w') :
    if Region.wanted o (yielded ops a.tmps) = true then Oper.wp P o a w K Q else Els := by
  have hw : Region.wanted o (yielded ops a.tmps) = true := by simp [Region.wanted, hgd]
  rw [if_pos hw]
  obtain ⟨v', w', hr, h2, h3, h4⟩ := run_appL (P := P) t o.type e i z bytes ht hi hz hsize hby hzs hsz hown ra m c news R h1 (by unfold maxLen; omega)
    (Nat.le_trans (Nat.mul_le_mul hn hb2) (by omega)) hbase
  unfold Oper.wp execOp
  simp only [ho, resolve, invoke, builtin, Sem.run_bind, Sem.run_pure, Result.andThen_ok, List.map_toArray, List.map_cons, List.map_nil, hs, hx, hr]
  obtain ⟨g, q, rfl⟩ := h2.shape
  exact h g q w' h2 h3 h4
end

theorem OwnBs.msgs {w wx : World} {B E EM g c j n q2 : Nat} {g2 : Option Addr} {m : List PBox} (h : OwnBs w B E EM (some ⟨g, 0, none⟩) c m) (hc : c ≠ 0) (hj : j < m.length) (ms : List DMsg) (hn : ms.length = n) (hg : w.grownBy wx (foot m[j].key))
    (hz : Own wx B EM 3 (.slice g2 n q2) n (ms.flatMap DMsg.cells)) (hw : ∀ k, foot (.slice g2 n q2) = some k → foot m[j].key = some k ∨ w.heap.size ≤ k) :
    OwnBs (wx.setCell ⟨g, j * 4 + 3, none⟩ (.slice g2 n q2)) B E EM (some ⟨g, 0, none⟩) c (m.set j ⟨m[j].name, m[j].validity, m[j].next, ms, g2, q2⟩) := by
  subst hn
  exact h.refill hc hj hg hz hw (Own.put1 (h.row.off hg (h.off _ (List.mem_map_of_mem (List.getElem_mem hj))).symm) hc (flat_set1 PBox.cells_len m j 3 hj (by omega) _ ⟨m[j].name, m[j].validity, m[j].next, ms, g2, q2⟩ (by simp [PBox.cells]))) (grown_so (World.grownBy.refl _ _) rfl _)
/-- one mailbox holds other messages, and all else stands -/
def Refilled (B E EM g c : Nat) (l : List PBox) (i : Nat) (nm : ByteArray) (va nx : Int) (ms : List DMsg) (w wx : World) : Prop :=
  ∃ g2 q2, OwnBs wx B E EM (some ⟨g, 0, none⟩) c (l.set i ⟨nm, va, nx, ms, g2, q2⟩) ∧ Below B w wx
theorem OwnBs.slot {w : World} {B E EM g c j : Nat} {m : List PBox} (h : OwnBs w B E EM (some ⟨g, 0, none⟩) c m) (hc : c ≠ 0) (hj : j < m.length) (k : Nat) (hk : k < 4) : (∃ u, w.cell? ⟨g, j * 4 + k, none⟩ = some u) ∧ w.frozen? ⟨g, j * 4 + k, none⟩ = false :=
  h.row.slot (j * 4 + k) (by omega)
theorem OwnBs.slotx {w wx : World} {B E EM g c j : Nat} {m : List PBox} (h : OwnBs w B E EM (some ⟨g, 0, none⟩) c m) (hc : c ≠ 0) (hj : j < m.length) (k : Nat) (hk : k < 4) (hg : w.grownBy wx (foot m[j].key)) : (∃ u, wx.cell? ⟨g, j * 4 + k, none⟩ = some u) ∧ wx.frozen? ⟨g, j * 4 + k, none⟩ = false :=
  (h.row.off hg (h.off _ (List.mem_map_of_mem (List.getElem_mem hj))).symm).slot (j * 4 + k) (by omega)
theorem OwnBs.cells {w : World} {B E EM g c j : Nat} {m : List PBox} (h : OwnBs w B E EM (some ⟨g, 0, none⟩) c m) (hj : j < m.length) :
    w.cell? ⟨g, j * 4, none⟩ = some (.string m[j].name) ∧ w.cell? ⟨g, j * 4 + 1, none⟩ = some (.int .i64 m[j].validity) ∧ w.cell? ⟨g, j * 4 + 2, none⟩ = some (.int .i64 m[j].next) ∧ w.cell? ⟨g, j * 4 + 3, none⟩ = some (.slice m[j].ma m[j].msgs.length m[j].mc) := by
  obtain ⟨b, o, hbo, -, hat⟩ := h.rd.ptr (by omega)
  cases hbo
  have h1 := PBox.at hat j hj
  simpa only [Nat.zero_add] using h1
end Go.Proofs.Ytpameapajhbdnaa

namespace Go.Proofs.Ytpameapajhbdnaa
open Go.RowKit
set_option linter.unusedVariables false
set_option linter.unusedSimpArgs false

def Rise (l : List DBox) : Prop := l.Pairwise fun x y => nameLt x.name y.name = true
def layD (l : List DBox) (x : DBox) : List DBox := l.takeWhile (fun y => nameLt y.name x.name) ++ x :: l.dropWhile (fun y => nameLt y.name x.name)
theorem take_tw {α : Type} (p : α → Bool) (l : List α) : l.take (l.takeWhile p).length = l.takeWhile p ∧ l.drop (l.takeWhile p).length = l.dropWhile p := by
  have h := List.takeWhile_append_dropWhile (p := p) (l := l)
  exact ⟨(congrArg (List.take (l.takeWhile p).length) h).symm.trans List.take_left, (congrArg (List.drop (l.takeWhile p).length) h).symm.trans List.drop_left⟩
theorem layP_box (l : List PBox) (x : PBox) : (layP l x).map PBox.box = layD (l.map PBox.box) x.box := by
  unfold layP layAt layD
  rw [(take_tw _ l).1, (take_tw _ l).2, List.takeWhile_map, List.dropWhile_map]
  simp
  rfl
theorem layD_perm (l : List DBox) (x : DBox) : (layD l x).Perm (l ++ [x]) := by
  unfold layD
  refine List.perm_middle.trans ?_
  rw [List.takeWhile_append_dropWhile]
  exact (List.perm_append_singleton x l).symm
theorem nameLt_of_ne {a b : ByteArray} (h : nameLt a b = false) (hn : a ≠ b) : nameLt b a = true := by
  rw [nameLt_total b a, h, str_beq, decide_eq_false hn]; rfl
theorem layD_rise (l : List DBox) (x : DBox) (h : Rise l) (hn : ∀ y ∈ l, y.name ≠ x.name) : Rise (layD l x) := by
  induction l with
  | nil => exact List.pairwise_singleton _ _
  | cons y l ih =>
    obtain ⟨h1, h2⟩ := List.pairwise_cons.1 h
    cases hy : nameLt y.name x.name with
    | true =>
      have he : layD (y :: l) x = y :: layD l x := by
        unfold layD
        rw [List.takeWhile_cons_of_pos (p := fun z : DBox => nameLt z.name x.name) hy, List.dropWhile_cons_of_pos (p := fun z : DBox => nameLt z.name x.name) hy]; rfl
      rw [he]
      refine List.pairwise_cons.2 ⟨fun z hz => ?_, ih h2 (fun z hz => hn z (List.mem_cons_of_mem _ hz))⟩
      rcases List.mem_append.1 ((layD_perm l x).subset hz) with h3 | h3
      · exact h1 z h3
      · rw [List.mem_singleton.1 h3]; exact hy
    | false =>
      have he : layD (y :: l) x = x :: y :: l := by
        unfold layD
        rw [List.takeWhile_cons_of_neg (p := fun z : DBox => nameLt z.name x.name) (by simp [hy]), List.dropWhile_cons_of_neg (p := fun z : DBox => nameLt z.name x.name) (by simp [hy])]; rfl
      rw [he]
      have hx := nameLt_of_ne hy (hn y (by simp))
      refine List.pairwise_cons.2 ⟨fun z hz => ?_, h⟩
      rcases List.mem_cons.1 hz with rfl | h3
      · exact hx
      · exact nameLt_trans hx (h1 z h3)
theorem boxesP_rise {l : List DBox} (h : BoxesP l) : Rise l := by
  refine List.pairwise_iff_getElem.2 fun i j hi hj hij => ?_
  obtain ⟨d, rfl⟩ : ∃ d, j = i + 1 + d := ⟨j - (i + 1), by omega⟩
  clear hij
  induction d with
  | zero =>
    obtain ⟨h0, -, h2, -⟩ := h.1 (i + 1) hj
    exact h2 (by omega)
  | succ d ih =>
    obtain ⟨h0, -, h2, -⟩ := h.1 (i + 1 + (d + 1)) hj
    exact nameLt_trans (ih (by omega)) (h2 (by omega))
theorem rise_set {l : List DBox} {i : Nat} (hi : i < l.length) {x : DBox} (hx : x.name = l[i].name) (h : Rise l) : Rise (l.set i x) := by
  have e : (l.set i x).map DBox.name = l.map DBox.name := by
    rw [List.map_set, hx]
    refine List.ext_getElem (by simp) fun k h1 h2 => ?_
    rw [List.getElem_set]
    by_cases hk : i = k
    · subst hk; simp
    · rw [if_neg hk]
  have h3 : ((l.set i x).map DBox.name).Pairwise fun a b => nameLt a b = true := by
    rw [e]; exact List.pairwise_map.2 h
  exact List.pairwise_map.1 h3
theorem set_perm {l : List DBox} {i : Nat} (hi : i < l.length) (x : DBox) : (l.set i x).Perm (layD (l.eraseIdx i) x) := by
  refine List.Perm.trans ?_ (layD_perm _ x).symm
  rw [List.set_eq_take_append_cons_drop, if_pos hi, List.eraseIdx_eq_take_drop_succ]
  exact List.perm_middle.trans (List.perm_append_singleton x _).symm
theorem firstI_none {α : Type} {p : α → Bool} {l : List α} (h : firstI p l < 0) : ∀ y ∈ l, p y = false := by
  unfold firstI at h
  split at h
  · omega
  · rename_i h1
    exact List.findIdx?_eq_none_iff.1 h1
theorem named_none {s : ByteArray} {l : List DBox} (h : boxNamed s l < 0) : ∀ y ∈ l, y.name ≠ s := fun y hy => of_decide_eq_false (firstI_none h y hy)

def atD (l : List DBox) (m : DCommit) : Nat := (boxWith m.validity l).toNat
def theD (l : List DBox) (i : Nat) : DBox := (l[i]?).getD ⟨ByteArray.empty, 0, 0, []⟩
def pl (u : Int) (l : List DMsg) : Nat := (placeOf u l).toNat
def theM (l : List DMsg) (i : Nat) : DMsg := (l[i]?).getD ⟨0, 0, ByteArray.empty⟩
def newD (b : DBox) (m : DCommit) : DBox :=
  if m.kind = 3 then ⟨m.name, b.validity, b.next, b.msgs⟩
  else if m.kind = 4 then ⟨b.name, b.validity, b.next + 1, b.msgs ++ [⟨m.uid, m.flags, m.text⟩]⟩
  else if m.kind = 5 then ⟨b.name, b.validity, b.next, b.msgs.set (pl m.uid b.msgs) ⟨(theM b.msgs (pl m.uid b.msgs)).uid, m.flags, (theM b.msgs (pl m.uid b.msgs)).text⟩⟩
  else ⟨b.name, b.validity, b.next, b.msgs.eraseIdx (pl m.uid b.msgs)⟩
/-- the changed mailboxes before they are sorted -/
def perfD (l : List DBox) (m : DCommit) : List DBox :=
  if m.kind = 1 then l ++ [⟨m.name, m.validity, 1, []⟩] else if m.kind = 2 then l.eraseIdx (atD l m) else l.set (atD l m) (newD (theD l (atD l m)) m)
/-- the changed mailboxes -/
def appD (l : List DBox) (m : DCommit) : List DBox :=
  if m.kind = 1 then layD l ⟨m.name, m.validity, 1, []⟩ else if m.kind = 2 then l.eraseIdx (atD l m)
  else if m.kind = 3 then layD (l.eraseIdx (atD l m)) (newD (theD l (atD l m)) m) else l.set (atD l m) (newD (theD l (atD l m)) m)
theorem theD_of {l : List DBox} {i : Nat} (hi : i < l.length) : theD l i = l[i] := by simp [theD, hi]
theorem theM_of {l : List DMsg} {i : Nat} (hi : i < l.length) : theM l i = l[i] := by simp [theM, hi]
theorem appD_perm {l : List DBox} {m : DCommit} (h : BoxesP l) (hf : FitsP l m) : (perfD l m).Perm (appD l m) ∧ Rise (appD l m) := by
  have hr := boxesP_rise h
  unfold perfD appD
  by_cases h1 : m.kind = 1
  · rw [if_pos h1, if_pos h1]
    obtain ⟨-, -, h4⟩ := hf.1 h1
    exact ⟨(layD_perm _ _).symm, layD_rise _ _ hr (named_none h4)⟩
  rw [if_neg h1, if_neg h1]
  obtain ⟨i, hi, hz, h3, h4, h5⟩ := hf.2 h1
  have ha : atD l m = i := by unfold atD; omega
  rw [ha]
  by_cases h2 : m.kind = 2
  · rw [if_pos h2, if_pos h2]
    exact ⟨List.Perm.refl _, List.Pairwise.sublist (List.eraseIdx_sublist ..) hr⟩
  rw [if_neg h2, if_neg h2]
  by_cases hk3 : m.kind = 3
  · rw [if_pos hk3]
    have h6 := named_none (h3 hk3)
    refine ⟨set_perm hi _, layD_rise _ _ (List.Pairwise.sublist (List.eraseIdx_sublist ..) hr) fun y hy => ?_⟩
    have : (newD (theD l i) m).name = m.name := by simp [newD, hk3]
    rw [this]
    exact h6 y ((List.eraseIdx_sublist ..).subset hy)
  · rw [if_neg hk3]
    refine ⟨List.Perm.refl _, rise_set hi ?_ hr⟩
    rw [theD_of hi]
    unfold newD
    rw [if_neg hk3]
    split
    · rfl
    · split <;> rfl
end Go.Proofs.Ytpameapajhbdnaa
