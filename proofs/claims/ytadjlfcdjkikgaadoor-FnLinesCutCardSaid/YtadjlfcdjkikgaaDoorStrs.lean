/-
  strings.Contains by the shelf's contract, at this program's numbers.
-/
import Derived.Test.YtadjlfcdjkikgaaDoorMem
import Derived.Shelf.Strings.Search3
namespace Go.Proofs.YtadjlfcdjkikgaaDoor
open Go.RowKit Go.Shelf
set_option maxRecDepth 100000
def renF : Nat → Nat
  | 143 => 69
  | 144 => 70
  | 217 => 107
  | 219 => 88
  | 224 => 109
  | 225 => 108
  | 266 => 119
  | 267 => 110
  | 314 => 120
  | n => n
def renT : Nat → Nat
  | 3 => 3
  | 4 => 4
  | 5 => 5
  | 9 => 9
  | 46 => 66
  | 51 => 138
  | 146 => 139
  | n => n
def ren : Ren := ⟨renF, renT, fun _ => 0⟩
theorem lays144 : Lays.n144 Tryd.prog ren where
  mixed := by kernel_rfl
  f143 := Tryd.func69
  f144 := Tryd.func70
  f217 := Tryd.func107
  f219 := Tryd.func88
  f224 := Tryd.func109
  f225 := Tryd.func108
  f266 := Tryd.func119
  f267 := Tryd.func110
  f314 := Tryd.func120
  t3 := by kernel_rfl
  a3 := fun w => by kernel_rfl
  z3 := fun w => by kernel_rfl
  v3 := fun w => by kernel_rfl
  t4 := by kernel_rfl
  a4 := fun w => by kernel_rfl
  z4 := fun w => by kernel_rfl
  v4 := fun w => by kernel_rfl
  t5 := by kernel_rfl
  a5 := fun w => by kernel_rfl
  z5 := fun w => by kernel_rfl
  v5 := fun w => by kernel_rfl
  t9 := by kernel_rfl
  a9 := fun w => by kernel_rfl
  z9 := fun w => by kernel_rfl
  v9 := fun w => by kernel_rfl
  t46 := by kernel_rfl
  a46 := fun w => by kernel_rfl
  z46 := fun w => by kernel_rfl
  v46 := fun w => by kernel_rfl
  t51 := by kernel_rfl
  a51 := fun w => by kernel_rfl
  z51 := fun w => by kernel_rfl
  v51 := fun w => by kernel_rfl
  t146 := by kernel_rfl
  a146 := fun w => by kernel_rfl
  z146 := fun w => by kernel_rfl
  v146 := fun w => by kernel_rfl
  g1 := by kernel_rfl

/-- the library's variable holds a number -/
def MaxLen (w : World) : Prop := ∃ m : Int, w.cell? ⟨0, 0, none⟩ = some (.int .i64 m) ∧ 0 < w.heap.size
theorem MaxLen.ext {w w' : World} (h : MaxLen w) (hb : Below w.heap.size w w') : MaxLen w' := by
  obtain ⟨m, h1, h2⟩ := h
  exact ⟨m, (hb.cell (p := ⟨0, 0, none⟩) h2).trans h1, Nat.lt_of_lt_of_le h2 hb.size⟩

theorem cell_lt {w : World} {b o : Nat} {v : Value} (h : w.cell? ⟨b, o, none⟩ = some v) : b < w.heap.size := by
  apply Nat.lt_of_not_le
  intro hle
  unfold World.cell? at h
  have : w.heap[b]? = none := by simp; omega
  simp [this] at h
theorem contains_any (s sub : ByteArray) (w : World) (hm : MaxLen w) (hs : s.size < 4294967281) :
    Calls Tryd.prog 70 #[.string s, .string sub] w fun e w' => e = .returned (.bool (Lib.contains s.data.toList sub.data.toList)) ∧ w' = w := by
  obtain ⟨m, hm, _⟩ := hm
  exact Any.strings_Contains lays144 s sub m w hs hm
end Go.Proofs.YtadjlfcdjkikgaaDoor
