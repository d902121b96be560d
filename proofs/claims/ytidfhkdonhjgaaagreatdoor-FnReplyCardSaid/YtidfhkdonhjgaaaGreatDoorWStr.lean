/-
  Bytes and strings: a row of bytes read as a string.
-/
import Derived.Test.YtidfhkdonhjgaaaGreatDoorWNumP
import Derived.Test.YtidfhkdonhjgaaaGreatDoorXOwn
import Derived.Lib.ConvBytes
import Derived.Lib.AppendStr
import Derived.Laws.IdiomStrings
import Derived.IntWalk
import Derived.WalkSmall
namespace Go.Proofs.YtidfhkdonhjgaaaGreatDoor
open Go.RowKit
set_option linter.unusedVariables false
set_option linter.unusedSimpArgs false

/-- the cells of bytes -/
def bv (l : List UInt8) : List Value := l.map fun b => Value.int .u8 (b.toNat : Int)
theorem bv_app (a b : List UInt8) : bv (a ++ b) = bv a ++ bv b := by simp [bv]
theorem bv_len (l : List UInt8) : (bv l).length = l.length := by simp [bv]
theorem str_bv (s : ByteArray) : Lib.strCells s = bv s.data.toList := by simp [Lib.strCells, bv]
theorem conv_at {P : Program} (w : World) (src dst e : TypeId) (b o cap : Nat) (l : List UInt8) (hs : P.underlying src = some (.slice e)) (he : P.underlying e = some (.int .u8)) (hd : P.underlying dst = some .string)
    (h : At w b o (bv l)) : (convert src dst (.slice (some ⟨b, o, none⟩) l.length cap)).run P w = .ok (.string ⟨l.toArray⟩) w := by
  refine run_convert_bytes_back w src dst e _ cap l hs he hd (fun j hj => ?_)
  have e1 : (⟨b, o, none⟩ : Addr).add j = ⟨b, o + j, none⟩ := by unfold Addr.add; split <;> simp_all
  rw [e1]
  exact h j _ (by simp [bv, List.getElem?_eq_getElem hj])
theorem conv_own {P : Program} {w : World} {B E : Nat} {g : Option Addr} {n c : Nat} {l : List UInt8} (src dst e : TypeId) (hs : P.underlying src = some (.slice e)) (he : P.underlying e = some (.int .u8)) (hd : P.underlying dst = some .string)
    (h : Own w B E 1 (.slice g n c) n (bv l)) : (convert src dst (.slice g n c)).run P w = .ok (.string ⟨l.toArray⟩) w := by
  have hn : l.length = n := by have := h.1; rw [bv_len] at this; omega
  subst hn
  have hr := Rd.of_Own h
  by_cases h0 : l = []
  · subst h0
    cases g with
    | none => exact run_convert_bytes_nil w src e hs he _ _ dst hd
    | some a => exact run_convert_bytes_back w src dst e a c [] hs he hd (fun j hj => absurd hj (Nat.not_lt_zero _))
  · obtain ⟨b, o, rfl, _, hat⟩ := hr.ptr (List.length_pos_iff.2 h0)
    exact conv_at w src dst e b o c l hs he hd hat
end Go.Proofs.YtidfhkdonhjgaaaGreatDoor
