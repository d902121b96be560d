/-
  The laws' functions over Msg: equality, size, copy; over slices of it.
  The laws' functions over Commit: equality, size, copy; over slices of it.
  Mailboxes in a slice: the plain data, the cells, and the laws' functions over them.
  The laws' functions over a store: size, copy, equality.
-/
import Derived.Test.YtadjlfcdjkikgaaDoorTy
import Derived.Test.YtadjlfcdjkikgaaDoorXOwn
namespace Go.Proofs.YtadjlfcdjkikgaaDoor
open Go.RowKit
set_option linter.unusedVariables false
set_option linter.unusedSimpArgs false

/-- two structs held against each other -/
theorem eqMsgB (x y : DMsg) (d : Bool) (hd : decide (x = y) = d) (w : World) :
    (Op.equalIn 10000 111 (.agg #[.int .i64 x.uid, .int .i64 x.flags, .string x.text]) (.agg #[.int .i64 y.uid, .int .i64 y.flags, .string y.text])).run Tryd.prog w = .ok d w := by
  have h1 : Tryd.prog.underlying 111 = some (.struct (Tryd.prog.fieldsOf 111)) := by kernel_rfl
  have h2 : Tryd.prog.stoodInHeld 111 = false := by kernel_rfl
  have h3 := Option.some.inj (h1.symm.trans Tryd.underlying111)
  simp only [TypeDesc.struct.injEq] at h3
  rw [run_equalIn_agg _ _ _ _ _ h1 h2, h3]
  subst hd
  cases x
  cases y
  simp [Op.eqFields, go_sem, str_beq]
  repeat' split
  all_goals simp_all
theorem eqMsgG : Tryd.prog.eqGuardType Tryd.prog.depth 111 = false := by kernel_rfl

theorem info_Msg : (Tryd.prog.info? 111).map (fun i => (i.zero, i.size, i.bytes)) = some (some (.agg #[.int .i64 0, .int .i64 0, .string ByteArray.empty]), 3, 32) := by kernel_rfl

end Go.Proofs.YtadjlfcdjkikgaaDoor

namespace Go.Proofs.YtadjlfcdjkikgaaDoor
open Go.RowKit
set_option linter.unusedVariables false
set_option linter.unusedSimpArgs false

/-- two structs held against each other -/
theorem eqCommitB (x y : DCommit) (d : Bool) (hd : decide (x = y) = d) (w : World) :
    (Op.equalIn 10000 93 (.agg #[.int .i64 x.kind, .int .i64 x.validity, .int .i64 x.uid, .int .i64 x.flags, .string x.name, .string x.text]) (.agg #[.int .i64 y.kind, .int .i64 y.validity, .int .i64 y.uid, .int .i64 y.flags, .string y.name, .string y.text])).run Tryd.prog w = .ok d w := by
  have h1 : Tryd.prog.underlying 93 = some (.struct (Tryd.prog.fieldsOf 93)) := by kernel_rfl
  have h2 : Tryd.prog.stoodInHeld 93 = false := by kernel_rfl
  have h3 := Option.some.inj (h1.symm.trans Tryd.underlying93)
  simp only [TypeDesc.struct.injEq] at h3
  rw [run_equalIn_agg _ _ _ _ _ h1 h2, h3]
  subst hd
  cases x
  cases y
  simp [Op.eqFields, go_sem, str_beq]
  repeat' split
  all_goals simp_all
theorem eqCommitG : Tryd.prog.eqGuardType Tryd.prog.depth 93 = false := by kernel_rfl

theorem info_Commit : (Tryd.prog.info? 93).map (fun i => (i.zero, i.size, i.bytes)) = some (some (.agg #[.int .i64 0, .int .i64 0, .int .i64 0, .int .i64 0, .string ByteArray.empty, .string ByteArray.empty]), 6, 64) := by kernel_rfl

end Go.Proofs.YtadjlfcdjkikgaaDoor

namespace Go.Proofs.YtadjlfcdjkikgaaDoor
open Go.RowKit
set_option linter.unusedVariables false
set_option linter.unusedSimpArgs false

structure DBox where
  name : ByteArray
  validity : Int
  next : Int
  msgs : List DMsg
deriving DecidableEq
/-- a mailbox, and where its messages lie -/
structure PBox where
  name : ByteArray
  validity : Int
  next : Int
  msgs : List DMsg
  ma : Option Addr
  mc : Nat
instance : Inhabited PBox := ⟨⟨ByteArray.empty, 0, 0, [], none, 0⟩⟩
def PBox.cells (p : PBox) : List Value := [.string p.name, .int .i64 p.validity, .int .i64 p.next, .slice p.ma p.msgs.length p.mc]
theorem PBox.cells_len (p : PBox) : p.cells.length = 4 := rfl
def PBox.key (p : PBox) : Value := .slice p.ma p.msgs.length p.mc
def PBox.box (p : PBox) : DBox := ⟨p.name, p.validity, p.next, p.msgs⟩
def PBox.sz (p : PBox) : Nat := p.name.size + DMsg.szS p.msgs
def PBox.szS (l : List PBox) : Nat := l.length + (l.map PBox.sz).sum
theorem PBox.len_le (l : List PBox) : l.length ≤ PBox.szS l := by unfold PBox.szS; omega
theorem PBox.msgs_le (l : List PBox) (k : Nat) (hk : k < l.length) : l[k].msgs.length ≤ PBox.szS l := by
  have h1 := sum_mem PBox.sz l _ (List.getElem_mem hk)
  have h2 := DMsg.len_le l[k].msgs
  unfold PBox.szS
  simp only [PBox.sz] at h1 ⊢
  omega
theorem PBox.at {w : World} {b o : Nat} {l : List PBox} (h : At w b o (l.flatMap PBox.cells)) (k : Nat) (hk : k < l.length) :
      w.cell? ⟨b, o + k * 4, none⟩ = some (.string l[k].name) ∧ w.cell? ⟨b, o + k * 4 + 1, none⟩ = some (.int .i64 l[k].validity) ∧
      w.cell? ⟨b, o + k * 4 + 2, none⟩ = some (.int .i64 l[k].next) ∧ w.cell? ⟨b, o + k * 4 + 3, none⟩ = some (.slice l[k].ma l[k].msgs.length l[k].mc) :=
  ⟨At.el PBox.cells_len h k hk 0 _ rfl, At.el PBox.cells_len h k hk 1 _ rfl, At.el PBox.cells_len h k hk 2 _ rfl, At.el PBox.cells_len h k hk 3 _ rfl⟩
/-- the messages of each mailbox can be read -/
def RdM (w : World) (l : List PBox) : Prop := ∀ y ∈ l, Rd w y.ma y.mc 3 y.msgs.length (y.msgs.flatMap DMsg.cells)
theorem RdM.ext {w w' : World} {l : List PBox} (h : RdM w l) (hb : Below w.heap.size w w') : RdM w' l := fun y hy => (h y hy).ext hb
theorem RdM.at {w : World} {l : List PBox} (h : RdM w l) (k : Nat) (hk : k < l.length) : Rd w l[k].ma l[k].mc 3 l[k].msgs.length (l[k].msgs.flatMap DMsg.cells) := h _ (List.getElem_mem hk)
theorem off_row {w : World} {B E s n G m c : Nat} {v : Value} {xs : List Value} (h : Own w B E s v n xs) (hb : G < B) : Off2 v (.slice (some ⟨G, 0, none⟩) m c) := by
  cases hf : foot v with
  | none => exact Or.inl hf
  | some x =>
    refine Or.inr (fun e => ?_)
    have h1 := (h.lt x hf).1
    rw [hf] at e
    obtain ⟨_, y, hy, rfl⟩ := (foot_slice _ _ _ _).1 e.symm
    cases hy
    exact absurd hb (Nat.not_lt.2 h1)
theorem box_len {l m : List PBox} (h : l.map PBox.box = m.map PBox.box) : l.length = m.length := by
  have := congrArg List.length h
  simpa using this
theorem box_at {l m : List PBox} (h : l.map PBox.box = m.map PBox.box) (k : Nat) (hk : k < l.length) (hk2 : k < m.length) : l[k].box = m[k].box := by
  have := congrArg (fun x => x[k]?) h
  simpa [hk, hk2] using this
theorem box_mem {l m : List PBox} (h : l.map PBox.box = m.map PBox.box) : ∀ y ∈ l, ∃ u ∈ m, u.box = y.box := fun y hy => by
  have h1 : y.box ∈ l.map PBox.box := List.mem_map_of_mem hy
  rw [h] at h1
  obtain ⟨u, hu, e⟩ := List.mem_map.1 h1
  exact ⟨u, hu, e⟩
theorem box_names {l m : List PBox} {n : Nat} (h : l.map PBox.box = m.map PBox.box) (hm : ∀ y ∈ m, y.name.size ≤ n) : ∀ y ∈ l, y.name.size ≤ n := fun y hy => by
  obtain ⟨u, hu, e⟩ := box_mem h y hy
  have e1 : u.name = y.name := congrArg DBox.name e
  rw [← e1]; exact hm u hu
theorem box_texts {l m : List PBox} {n : Nat} (h : l.map PBox.box = m.map PBox.box) (hm : ∀ y ∈ m, ∀ t ∈ y.msgs, t.text.size ≤ n) : ∀ y ∈ l, ∀ t ∈ y.msgs, t.text.size ≤ n := fun y hy => by
  obtain ⟨u, hu, e⟩ := box_mem h y hy
  have e1 : u.msgs = y.msgs := congrArg DBox.msgs e
  rw [← e1]; exact hm u hu
/-- mailboxes of the call's own: the row, and the rows of their messages, no two alike -/
structure OwnBs (w : World) (B E EM : Nat) (a : Option Addr) (c : Nat) (l : List PBox) : Prop where
  row : Own w B E 4 (.slice a l.length c) l.length (l.flatMap PBox.cells)
  msg : ∀ z ∈ l, Own w B EM 3 (.slice z.ma z.msgs.length z.mc) z.msgs.length (z.msgs.flatMap DMsg.cells)
  off : ∀ v ∈ l.map PBox.key, Off2 v (.slice a l.length c)
  apart : (l.map PBox.key).Pairwise Off2
theorem OwnBs.ext {w w' : World} {B E EM c : Nat} {a : Option Addr} {l : List PBox} (h : OwnBs w B E EM a c l) (hb : Below w.heap.size w w') : OwnBs w' B E EM a c l :=
  ⟨h.row.ext hb, fun z hz => (h.msg z hz).ext hb, h.off, h.apart⟩
theorem OwnBs.le {w : World} {B B' E EM c : Nat} {a : Option Addr} {l : List PBox} (h : OwnBs w B E EM a c l) (hb : B' ≤ B) : OwnBs w B' E EM a c l :=
  ⟨h.row.le hb, fun z hz => (h.msg z hz).le hb, h.off, h.apart⟩
theorem OwnBs.rd {w : World} {B E EM c : Nat} {a : Option Addr} {l : List PBox} (h : OwnBs w B E EM a c l) : Rd w a c 4 l.length (l.flatMap PBox.cells) := Rd.of_Own h.row
theorem OwnBs.rdm {w : World} {B E EM c : Nat} {a : Option Addr} {l : List PBox} (h : OwnBs w B E EM a c l) : RdM w l := fun z hz => Rd.of_Own (h.msg z hz)


theorem info_Box : (Tryd.prog.info? 85).map (fun i => (i.zero, i.size, i.bytes)) = some (some (.agg #[.string ByteArray.empty, .int .i64 0, .int .i64 0, .slice none 0 0]), 4, 56) := by kernel_rfl
/-- the copying loop: after k rounds -/
def BoxRel (E EM : Nat) (l : List PBox) (W : World) (G : Nat) (i : Value) (wr : World) : Prop :=
  ∃ (k : Nat) (zs : List PBox), k ≤ l.length ∧ i = .int .i64 k ∧ Hid (zs.map PBox.box = (l.take k).map PBox.box) ∧ Hid (wr.ownsRow G E 4 (.slice (some ⟨G, 0, none⟩) l.length l.length) l.length ((zs ++ List.replicate (l.length - k) default).flatMap PBox.cells)) ∧
    Hid (∀ z ∈ zs, Own wr (G + 1) EM 3 (.slice z.ma z.msgs.length z.mc) z.msgs.length (z.msgs.flatMap DMsg.cells)) ∧ Hid (zs.Pairwise fun y z => Off2 (.slice y.ma y.msgs.length y.mc) (.slice z.ma z.msgs.length z.mc)) ∧ Below W.heap.size W wr
theorem rep_set {α : Type} (zs : List α) (n : Nat) (x z : α) (hn : zs.length < n) : (zs ++ List.replicate (n - zs.length) x).set zs.length z = (zs ++ [z]) ++ List.replicate (n - (zs.length + 1)) x := by
  obtain ⟨m, hm⟩ : ∃ m, n - zs.length = m + 1 := ⟨n - zs.length - 1, by omega⟩
  rw [hm, show n - (zs.length + 1) = m from by omega, List.replicate_succ]
  simp
theorem BoxRel.next {E EM G k : Nat} {l zs : List PBox} {W wr w1 : World} {z : PBox} (hk : k < l.length) (hG : W.heap.size = G) (hz : zs.map PBox.box = (l.take k).map PBox.box)
    (hrow : wr.ownsRow G E 4 (.slice (some ⟨G, 0, none⟩) l.length l.length) l.length ((zs ++ List.replicate (l.length - k) default).flatMap PBox.cells)) (hm : ∀ z ∈ zs, Own wr (G + 1) EM 3 (.slice z.ma z.msgs.length z.mc) z.msgs.length (z.msgs.flatMap DMsg.cells))
    (hp : zs.Pairwise fun y z => Off2 (.slice y.ma y.msgs.length y.mc) (.slice z.ma z.msgs.length z.mc)) (hb : Below W.heap.size W wr) (hs : G + 1 ≤ wr.heap.size) (hzb : z.box = l[k].box)
    (hzo : Own w1 wr.heap.size EM 3 (.slice z.ma z.msgs.length z.mc) z.msgs.length (z.msgs.flatMap DMsg.cells)) (hb1 : Ext wr w1) :
    BoxRel E EM l W G (.int .i64 ((k : Int) + 1)) (putW w1 G (k * 4) z.cells) := by
  have hzl : zs.length = k := by
    have := congrArg List.length hz
    simp at this; omega
  obtain ⟨h1, g1⟩ := own_put z.cells w1 (k * 4) _ (own_ext hrow hb1)
  rw [putAt_flat PBox.cells_len _ k (by simp; omega)] at h1
  subst hzl
  rw [rep_set zs l.length default z hk] at h1
  refine ⟨zs.length + 1, zs ++ [z], hk, by simp, ?_, h1, ?_, ?_, ?_⟩
  · unfold Hid
    rw [List.map_append, hz, List.take_succ_eq_append_getElem hk, List.map_append]; simp [hzb]
  · intro y hy
    rcases List.mem_append.1 hy with hy | hy
    · exact Own.putW_off ((hm y hy).ne_lt (by omega)) _ _ _ ((hm y hy).ext hb1)
    · obtain rfl : y = z := by simpa using hy
      exact Own.putW_off (hzo.ne_lt (by omega)) _ _ _ (hzo.le (by omega))
  · unfold Hid
    rw [List.pairwise_append]
    refine ⟨hp, by simp, fun y hy u hu => ?_⟩
    obtain rfl : u = z := by simpa using hu
    exact Off2.of (hm y hy) hzo (Nat.le_refl _)
  · exact Below.putW (by omega) _ _ _ (Below.ext hb hb1)


end Go.Proofs.YtadjlfcdjkikgaaDoor

namespace Go.Proofs.YtadjlfcdjkikgaaDoor
open Go.RowKit
set_option linter.unusedVariables false
set_option linter.unusedSimpArgs false



/-- a store of the call's own -/
structure OwnSt (w : World) (B E EM EC : Nat) (ba : Option Addr) (bc : Nat) (zs : List PBox) (la : Option Addr) (lc : Nat) (l : List DCommit) : Prop where
  box : OwnBs w B E EM ba bc zs
  log : Own w B EC 6 (.slice la l.length lc) l.length (l.flatMap DCommit.cells)
  offr : Off2 (.slice ba zs.length bc) (.slice la l.length lc)
  offm : ∀ z ∈ zs, Off2 (.slice z.ma z.msgs.length z.mc) (.slice la l.length lc)
theorem OwnSt.ext {w w' : World} {B E EM EC : Nat} {ba la : Option Addr} {bc lc : Nat} {zs : List PBox} {l : List DCommit} (h : OwnSt w B E EM EC ba bc zs la lc l) (hb : Below w.heap.size w w') : OwnSt w' B E EM EC ba bc zs la lc l := ⟨h.box.ext hb, h.log.ext hb, h.offr, h.offm⟩
end Go.Proofs.YtadjlfcdjkikgaaDoor
