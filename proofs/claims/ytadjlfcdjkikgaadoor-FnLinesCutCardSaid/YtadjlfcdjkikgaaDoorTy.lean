/-
  The plain data of the laws: mirrors of the program's structs, and the cells that hold them.
-/
import Derived.Test.YtadjlfcdjkikgaaDoorMem
namespace Go.Proofs.YtadjlfcdjkikgaaDoor
open Go.RowKit
set_option linter.unusedVariables false
set_option linter.unusedSimpArgs false

structure DSeen where
  uid : Int
  flags : Int
deriving DecidableEq
def DSeen.cells (x : DSeen) : List Value := [.int .i64 x.uid, .int .i64 x.flags]
theorem DSeen.cells_len (x : DSeen) : x.cells.length = 2 := rfl
def DSeen.sz (x : DSeen) : Nat := 0
theorem DSeen.at {w : World} {b o : Nat} {l : List DSeen} (h : At w b o (l.flatMap DSeen.cells)) (k : Nat) (hk : k < l.length) :
      w.cell? ⟨b, o + k * 2, none⟩ = some (.int .i64 l[k].uid) ∧
      w.cell? ⟨b, o + k * 2 + 1, none⟩ = some (.int .i64 l[k].flags) :=
  ⟨At.el DSeen.cells_len h k hk 0 _ rfl, At.el DSeen.cells_len h k hk 1 _ rfl⟩
theorem DSeen.at0 {w : World} {b : Nat} {l : List DSeen} (h : At w b 0 (l.flatMap DSeen.cells)) (k : Nat) (hk : k < l.length) :
      w.cell? ⟨b, k * 2, none⟩ = some (.int .i64 l[k].uid) ∧
      w.cell? ⟨b, k * 2 + 1, none⟩ = some (.int .i64 l[k].flags) := by
  have := DSeen.at h k hk
  simpa only [Nat.zero_add] using this
/-- the bulk of a list: its length and its letters -/
def DSeen.szS (l : List DSeen) : Nat := l.length + (l.map DSeen.sz).sum
theorem DSeen.len_le (l : List DSeen) : l.length ≤ DSeen.szS l := by unfold DSeen.szS; omega

structure DNote where
  kind : Int
  n : Int
  uid : Int
  name : ByteArray
deriving DecidableEq
def DNote.cells (x : DNote) : List Value := [.int .i64 x.kind, .int .i64 x.n, .int .i64 x.uid, .string x.name]
theorem DNote.cells_len (x : DNote) : x.cells.length = 4 := rfl
def DNote.sz (x : DNote) : Nat := x.name.size
theorem DNote.at {w : World} {b o : Nat} {l : List DNote} (h : At w b o (l.flatMap DNote.cells)) (k : Nat) (hk : k < l.length) :
      w.cell? ⟨b, o + k * 4, none⟩ = some (.int .i64 l[k].kind) ∧
      w.cell? ⟨b, o + k * 4 + 1, none⟩ = some (.int .i64 l[k].n) ∧
      w.cell? ⟨b, o + k * 4 + 2, none⟩ = some (.int .i64 l[k].uid) ∧
      w.cell? ⟨b, o + k * 4 + 3, none⟩ = some (.string l[k].name) :=
  ⟨At.el DNote.cells_len h k hk 0 _ rfl, At.el DNote.cells_len h k hk 1 _ rfl, At.el DNote.cells_len h k hk 2 _ rfl, At.el DNote.cells_len h k hk 3 _ rfl⟩
theorem DNote.at0 {w : World} {b : Nat} {l : List DNote} (h : At w b 0 (l.flatMap DNote.cells)) (k : Nat) (hk : k < l.length) :
      w.cell? ⟨b, k * 4, none⟩ = some (.int .i64 l[k].kind) ∧
      w.cell? ⟨b, k * 4 + 1, none⟩ = some (.int .i64 l[k].n) ∧
      w.cell? ⟨b, k * 4 + 2, none⟩ = some (.int .i64 l[k].uid) ∧
      w.cell? ⟨b, k * 4 + 3, none⟩ = some (.string l[k].name) := by
  have := DNote.at h k hk
  simpa only [Nat.zero_add] using this
/-- the bulk of a list: its length and its letters -/
def DNote.szS (l : List DNote) : Nat := l.length + (l.map DNote.sz).sum
theorem DNote.len_le (l : List DNote) : l.length ≤ DNote.szS l := by unfold DNote.szS; omega

structure DMsg where
  uid : Int
  flags : Int
  text : ByteArray
deriving DecidableEq
def DMsg.cells (x : DMsg) : List Value := [.int .i64 x.uid, .int .i64 x.flags, .string x.text]
theorem DMsg.cells_len (x : DMsg) : x.cells.length = 3 := rfl
def DMsg.sz (x : DMsg) : Nat := x.text.size
theorem DMsg.at {w : World} {b o : Nat} {l : List DMsg} (h : At w b o (l.flatMap DMsg.cells)) (k : Nat) (hk : k < l.length) :
      w.cell? ⟨b, o + k * 3, none⟩ = some (.int .i64 l[k].uid) ∧
      w.cell? ⟨b, o + k * 3 + 1, none⟩ = some (.int .i64 l[k].flags) ∧
      w.cell? ⟨b, o + k * 3 + 2, none⟩ = some (.string l[k].text) :=
  ⟨At.el DMsg.cells_len h k hk 0 _ rfl, At.el DMsg.cells_len h k hk 1 _ rfl, At.el DMsg.cells_len h k hk 2 _ rfl⟩
theorem DMsg.at0 {w : World} {b : Nat} {l : List DMsg} (h : At w b 0 (l.flatMap DMsg.cells)) (k : Nat) (hk : k < l.length) :
      w.cell? ⟨b, k * 3, none⟩ = some (.int .i64 l[k].uid) ∧
      w.cell? ⟨b, k * 3 + 1, none⟩ = some (.int .i64 l[k].flags) ∧
      w.cell? ⟨b, k * 3 + 2, none⟩ = some (.string l[k].text) := by
  have := DMsg.at h k hk
  simpa only [Nat.zero_add] using this
/-- the bulk of a list: its length and its letters -/
def DMsg.szS (l : List DMsg) : Nat := l.length + (l.map DMsg.sz).sum
theorem DMsg.len_le (l : List DMsg) : l.length ≤ DMsg.szS l := by unfold DMsg.szS; omega

structure DCommit where
  kind : Int
  validity : Int
  uid : Int
  flags : Int
  name : ByteArray
  text : ByteArray
deriving DecidableEq
def DCommit.cells (x : DCommit) : List Value := [.int .i64 x.kind, .int .i64 x.validity, .int .i64 x.uid, .int .i64 x.flags, .string x.name, .string x.text]
theorem DCommit.cells_len (x : DCommit) : x.cells.length = 6 := rfl
def DCommit.sz (x : DCommit) : Nat := x.name.size + x.text.size
theorem DCommit.at {w : World} {b o : Nat} {l : List DCommit} (h : At w b o (l.flatMap DCommit.cells)) (k : Nat) (hk : k < l.length) :
      w.cell? ⟨b, o + k * 6, none⟩ = some (.int .i64 l[k].kind) ∧
      w.cell? ⟨b, o + k * 6 + 1, none⟩ = some (.int .i64 l[k].validity) ∧
      w.cell? ⟨b, o + k * 6 + 2, none⟩ = some (.int .i64 l[k].uid) ∧
      w.cell? ⟨b, o + k * 6 + 3, none⟩ = some (.int .i64 l[k].flags) ∧
      w.cell? ⟨b, o + k * 6 + 4, none⟩ = some (.string l[k].name) ∧
      w.cell? ⟨b, o + k * 6 + 5, none⟩ = some (.string l[k].text) :=
  ⟨At.el DCommit.cells_len h k hk 0 _ rfl, At.el DCommit.cells_len h k hk 1 _ rfl, At.el DCommit.cells_len h k hk 2 _ rfl, At.el DCommit.cells_len h k hk 3 _ rfl, At.el DCommit.cells_len h k hk 4 _ rfl, At.el DCommit.cells_len h k hk 5 _ rfl⟩
theorem DCommit.at0 {w : World} {b : Nat} {l : List DCommit} (h : At w b 0 (l.flatMap DCommit.cells)) (k : Nat) (hk : k < l.length) :
      w.cell? ⟨b, k * 6, none⟩ = some (.int .i64 l[k].kind) ∧
      w.cell? ⟨b, k * 6 + 1, none⟩ = some (.int .i64 l[k].validity) ∧
      w.cell? ⟨b, k * 6 + 2, none⟩ = some (.int .i64 l[k].uid) ∧
      w.cell? ⟨b, k * 6 + 3, none⟩ = some (.int .i64 l[k].flags) ∧
      w.cell? ⟨b, k * 6 + 4, none⟩ = some (.string l[k].name) ∧
      w.cell? ⟨b, k * 6 + 5, none⟩ = some (.string l[k].text) := by
  have := DCommit.at h k hk
  simpa only [Nat.zero_add] using this
/-- the bulk of a list: its length and its letters -/
def DCommit.szS (l : List DCommit) : Nat := l.length + (l.map DCommit.sz).sum
theorem DCommit.len_le (l : List DCommit) : l.length ≤ DCommit.szS l := by unfold DCommit.szS; omega

structure DReply where
  kind : Int
  n : Int
  uid : Int
  flags : Int
  name : ByteArray
  text : ByteArray
deriving DecidableEq
def DReply.cells (x : DReply) : List Value := [.int .i64 x.kind, .int .i64 x.n, .int .i64 x.uid, .int .i64 x.flags, .string x.name, .string x.text]
theorem DReply.cells_len (x : DReply) : x.cells.length = 6 := rfl
def DReply.sz (x : DReply) : Nat := x.name.size + x.text.size
theorem DReply.at {w : World} {b o : Nat} {l : List DReply} (h : At w b o (l.flatMap DReply.cells)) (k : Nat) (hk : k < l.length) :
      w.cell? ⟨b, o + k * 6, none⟩ = some (.int .i64 l[k].kind) ∧
      w.cell? ⟨b, o + k * 6 + 1, none⟩ = some (.int .i64 l[k].n) ∧
      w.cell? ⟨b, o + k * 6 + 2, none⟩ = some (.int .i64 l[k].uid) ∧
      w.cell? ⟨b, o + k * 6 + 3, none⟩ = some (.int .i64 l[k].flags) ∧
      w.cell? ⟨b, o + k * 6 + 4, none⟩ = some (.string l[k].name) ∧
      w.cell? ⟨b, o + k * 6 + 5, none⟩ = some (.string l[k].text) :=
  ⟨At.el DReply.cells_len h k hk 0 _ rfl, At.el DReply.cells_len h k hk 1 _ rfl, At.el DReply.cells_len h k hk 2 _ rfl, At.el DReply.cells_len h k hk 3 _ rfl, At.el DReply.cells_len h k hk 4 _ rfl, At.el DReply.cells_len h k hk 5 _ rfl⟩
theorem DReply.at0 {w : World} {b : Nat} {l : List DReply} (h : At w b 0 (l.flatMap DReply.cells)) (k : Nat) (hk : k < l.length) :
      w.cell? ⟨b, k * 6, none⟩ = some (.int .i64 l[k].kind) ∧
      w.cell? ⟨b, k * 6 + 1, none⟩ = some (.int .i64 l[k].n) ∧
      w.cell? ⟨b, k * 6 + 2, none⟩ = some (.int .i64 l[k].uid) ∧
      w.cell? ⟨b, k * 6 + 3, none⟩ = some (.int .i64 l[k].flags) ∧
      w.cell? ⟨b, k * 6 + 4, none⟩ = some (.string l[k].name) ∧
      w.cell? ⟨b, k * 6 + 5, none⟩ = some (.string l[k].text) := by
  have := DReply.at h k hk
  simpa only [Nat.zero_add] using this
/-- the bulk of a list: its length and its letters -/
def DReply.szS (l : List DReply) : Nat := l.length + (l.map DReply.sz).sum
theorem DReply.len_le (l : List DReply) : l.length ≤ DReply.szS l := by unfold DReply.szS; omega

def intCells (x : Int) : List Value := [.int .i64 x]
theorem intCells_len (x : Int) : (intCells x).length = 1 := rfl
theorem intCells_at {w : World} {b o : Nat} {l : List Int} (h : At w b o (l.flatMap intCells)) (k : Nat) (hk : k < l.length) : w.cell? ⟨b, o + k, none⟩ = some (.int .i64 l[k]) := by
  have := At.el intCells_len h k hk 0 _ rfl
  simpa using this
def strCells (x : ByteArray) : List Value := [.string x]
theorem strCells_len (x : ByteArray) : (strCells x).length = 1 := rfl
theorem strCells_at {w : World} {b o : Nat} {l : List ByteArray} (h : At w b o (l.flatMap strCells)) (k : Nat) (hk : k < l.length) : w.cell? ⟨b, o + k, none⟩ = some (.string l[k]) := by
  have := At.el strCells_len h k hk 0 _ rfl
  simpa using this
theorem sum_take_succ {α : Type} (f : α → Nat) (l : List α) (k : Nat) (hk : k < l.length) : ((l.take (k + 1)).map f).sum = ((l.take k).map f).sum + f l[k] := by
  rw [List.take_succ_eq_append_getElem hk, List.map_append, List.sum_append]; simp
theorem sum_mem {α : Type} (f : α → Nat) (l : List α) (x : α) (hx : x ∈ l) : f x ≤ (l.map f).sum := by
  induction l with
  | nil => cases hx
  | cons y l ih =>
    simp only [List.map_cons, List.sum_cons]
    rcases List.mem_cons.1 hx with rfl | h
    · omega
    · have := ih h; omega

end Go.Proofs.YtadjlfcdjkikgaaDoor
