/-
  The marks of the laws: the letter m and a number's digits, a function of the number alone.
  The laws' functions over slices of Msg: marks laid and looked at.
  The laws' functions over slices of Commit: marks laid and looked at.
-/
import Derived.Test.YtemgabekckhckaaGreatTy
import Derived.Test.YtemgabekckhckaaGreatXOwn
namespace Go.Proofs.YtemgabekckhckaaGreat
open Go.RowKit
set_option linter.unusedVariables false

theorem conv1 {P : Program} (w : World) (S E ST : TypeId) (hs : P.underlying S = some (.slice E)) (he : P.underlying E = some (.int .u8)) (hd : P.underlying ST = some .string) (x : Int) :
    (convert S ST (.slice (some ⟨w.heap.size, 0, none⟩) 1 1)).run P (w.alloc (.cells #[.int .u8 x] E)) = .ok (.string (strOfNums [x])) (w.alloc (.cells #[.int .u8 x] E)) :=
  run_convert_bytes_arg _ S E hs he w.heap.size 0 1 1 [x] rfl (fun i hi => by
    have h : i = 0 := by omega
    subst h
    simp [go_sem]) ST hd

def mtGo : Nat → Nat → List UInt8 → List UInt8
  | 0, _, acc => acc
  | f + 1, q, acc => if q = 0 then acc else mtGo f (q / 10) (UInt8.ofNat (48 + q % 10) :: acc)
/-- the mark of a number above 0 -/
def mtext (k : Int) : ByteArray := ⟨(109 :: mtGo k.toNat k.toNat []).toArray⟩

end Go.Proofs.YtemgabekckhckaaGreat

namespace Go.Proofs.YtemgabekckhckaaGreat
open Go.RowKit
set_option linter.unusedVariables false
set_option linter.unusedSimpArgs false
def DMsg.mark (K : Int) : DMsg := ⟨K, K + 1, mtext (K + 1 + 1)⟩

end Go.Proofs.YtemgabekckhckaaGreat

namespace Go.Proofs.YtemgabekckhckaaGreat
open Go.RowKit
set_option linter.unusedVariables false
set_option linter.unusedSimpArgs false
def DCommit.mark (K : Int) : DCommit := ⟨K, K + 1, K + 1 + 1, K + 1 + 1 + 1, mtext (K + 1 + 1 + 1 + 1), mtext (K + 1 + 1 + 1 + 1 + 1)⟩

end Go.Proofs.YtemgabekckhckaaGreat
