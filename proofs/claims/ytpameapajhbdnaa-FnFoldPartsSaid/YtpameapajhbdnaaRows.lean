/-
  No cell of these rows narrows 'for every input' (looked for: loops, veiled, ifaces, maps, wideKeys, modest, calm, conditions, laid).
  DERIVED. THE GIVEN ROWS OF THIS SEAT. 12 by the template 'for every input the law returns true; each argument reads behind the call as it read before'; 0 by the template 'total and deterministic' (their statements: YtpameapajhbdnaaTotals.lean).
  GIVEN WITH THE SEED: the statements are not yours to turn. If you find one false, say at which input.
  Laid BY PROGRAM, IN A SANDBOX (cutbox-rows.mjs): the forced cells as the released guide's own fill.sh prints them over the translation 5ba2d1c3ec3d9c06… (all of the seat's roots in one cut). By AI agents, Wed Nov 11 2026. No macro, syntax, notation, axiom, sorry.
-/
import Derived.Test.YtpameapajhbdnaaChecked
import GoSem.Claim
import GoSem.ClaimJoined
import GoSem.ClaimMapViews
import Derived.JoinedTies
import Derived.KernelRfl
namespace Go.Proofs.Ytpameapajhbdnaa
/- THE CELL 'sum', in the pinned program and in every row, IS THE sha256 OF THE DUMP (.gsa) THAT YtpameapajhbdnaaProg.lean LOADS. Nothing in Lean hashes anything: it is a label: what it is worth is what the hold of that sum in a sandbox is worth. -/
noncomputable def Try.pinned : Pinned := { name := "ytpameapajhbdnaa", sum := "5ba2d1c3ec3d9c0691f1f7cdd59524fede52f192365e28e995ef0839bc95e432", checked := Try.checked }
namespace Rows
def none {H : Type} : Left H := { results := [], args := [] }

/-- 'laws.FnExactStoreNew': WHATEVER THE INPUT: true; the input reads as it did. -/
def fnExactStoreNewSpec : ChangeSpec := { name := "fnExactStoreNew", fn := fun _ => fun
  | [] => { results := [.lit (.bool true)], args := [] }
  | _ => none }
def fnExactStoreNewRow : OpenClaim := { program := "ytpameapajhbdnaa", sum := "5ba2d1c3ec3d9c0691f1f7cdd59524fede52f192365e28e995ef0839bc95e432", func := "loop.example/g00501/laws.FnExactStoreNew", spec := "fnExactStoreNew", apart := false }
def FnExactStoreNewSaid : Prop := fnExactStoreNewRow.holds Try.pinned (OpenSpec.ofChange fnExactStoreNewSpec)

/-- ITS FALSE NEIGHBOUR: 'it returns false'. Refute it at one input. -/
def fnExactStoreNewWrong : ChangeSpec := { name := "fnExactStoreNew", fn := fun _ => fun
  | [] => { results := [.lit (.bool false)], args := [] }
  | _ => none }
def FnExactStoreNewWrongFalsely : Prop := fnExactStoreNewRow.holds Try.pinned (OpenSpec.ofChange fnExactStoreNewWrong)

/-- 'laws.FnExactApplied': WHATEVER THE INPUT: true; the input reads as it did. -/
def fnExactAppliedSpec : ChangeSpec := { name := "fnExactApplied", fn := fun _ => fun
  | [d1, d2] => { results := [.lit (.bool true)], args := [d1, d2] }
  | _ => none }
def fnExactAppliedRow : OpenClaim := { program := "ytpameapajhbdnaa", sum := "5ba2d1c3ec3d9c0691f1f7cdd59524fede52f192365e28e995ef0839bc95e432", func := "loop.example/g00501/laws.FnExactApplied", spec := "fnExactApplied", inPlace := ["internal/bytealg.IndexByteString", "internal/bytealg.IndexString"], unfollowed := true, recurses := true, named := ["internal/bytealg.MaxLen"], apart := false }
def FnExactAppliedSaid : Prop := fnExactAppliedRow.holds Try.pinned (OpenSpec.ofChange fnExactAppliedSpec)

/-- ITS FALSE NEIGHBOUR: 'it returns false'. Refute it at one input. -/
def fnExactAppliedWrong : ChangeSpec := { name := "fnExactApplied", fn := fun _ => fun
  | [d1, d2] => { results := [.lit (.bool false)], args := [d1, d2] }
  | _ => none }
def FnExactAppliedWrongFalsely : Prop := fnExactAppliedRow.holds Try.pinned (OpenSpec.ofChange fnExactAppliedWrong)

/-- 'laws.FnApplied': WHATEVER THE INPUT: true; the input reads as it did. -/
def fnAppliedSpec : ChangeSpec := { name := "fnApplied", fn := fun _ => fun
  | [d] => { results := [.lit (.bool true)], args := [d] }
  | _ => none }
def fnAppliedRow : OpenClaim := { program := "ytpameapajhbdnaa", sum := "5ba2d1c3ec3d9c0691f1f7cdd59524fede52f192365e28e995ef0839bc95e432", func := "loop.example/g00501/laws.FnApplied", spec := "fnApplied", inPlace := ["internal/bytealg.IndexByteString", "internal/bytealg.IndexString"], unfollowed := true, recurses := true, named := ["internal/bytealg.MaxLen"], apart := false }
def FnAppliedSaid : Prop := fnAppliedRow.holds Try.pinned (OpenSpec.ofChange fnAppliedSpec)

/-- ITS FALSE NEIGHBOUR: 'it returns false'. Refute it at one input. -/
def fnAppliedWrong : ChangeSpec := { name := "fnApplied", fn := fun _ => fun
  | [d] => { results := [.lit (.bool false)], args := [d] }
  | _ => none }
def FnAppliedWrongFalsely : Prop := fnAppliedRow.holds Try.pinned (OpenSpec.ofChange fnAppliedWrong)

/-- 'laws.FnApart': WHATEVER THE INPUT: true; the input reads as it did. -/
def fnApartSpec : ChangeSpec := { name := "fnApart", fn := fun _ => fun
  | [d] => { results := [.lit (.bool true)], args := [d] }
  | _ => none }
def fnApartRow : OpenClaim := { program := "ytpameapajhbdnaa", sum := "5ba2d1c3ec3d9c0691f1f7cdd59524fede52f192365e28e995ef0839bc95e432", func := "loop.example/g00501/laws.FnApart", spec := "fnApart", inPlace := ["internal/bytealg.IndexByteString", "internal/bytealg.IndexString"], unfollowed := true, recurses := true, named := ["internal/bytealg.MaxLen"], apart := false }
def FnApartSaid : Prop := fnApartRow.holds Try.pinned (OpenSpec.ofChange fnApartSpec)

/-- ITS FALSE NEIGHBOUR: 'it returns false'. Refute it at one input. -/
def fnApartWrong : ChangeSpec := { name := "fnApart", fn := fun _ => fun
  | [d] => { results := [.lit (.bool false)], args := [d] }
  | _ => none }
def FnApartWrongFalsely : Prop := fnApartRow.holds Try.pinned (OpenSpec.ofChange fnApartWrong)

/-- 'laws.FnAppliedAll': WHATEVER THE INPUT: true; the input reads as it did. -/
def fnAppliedAllSpec : ChangeSpec := { name := "fnAppliedAll", fn := fun _ => fun
  | [d] => { results := [.lit (.bool true)], args := [d] }
  | _ => none }
def fnAppliedAllRow : OpenClaim := { program := "ytpameapajhbdnaa", sum := "5ba2d1c3ec3d9c0691f1f7cdd59524fede52f192365e28e995ef0839bc95e432", func := "loop.example/g00501/laws.FnAppliedAll", spec := "fnAppliedAll", inPlace := ["internal/bytealg.IndexByteString", "internal/bytealg.IndexString"], unfollowed := true, recurses := true, named := ["internal/bytealg.MaxLen"], apart := false }
def FnAppliedAllSaid : Prop := fnAppliedAllRow.holds Try.pinned (OpenSpec.ofChange fnAppliedAllSpec)

/-- ITS FALSE NEIGHBOUR: 'it returns false'. Refute it at one input. -/
def fnAppliedAllWrong : ChangeSpec := { name := "fnAppliedAll", fn := fun _ => fun
  | [d] => { results := [.lit (.bool false)], args := [d] }
  | _ => none }
def FnAppliedAllWrongFalsely : Prop := fnAppliedAllRow.holds Try.pinned (OpenSpec.ofChange fnAppliedAllWrong)

/-- 'laws.FnFoldParts': WHATEVER THE INPUT: true; the input reads as it did. -/
def fnFoldPartsSpec : ChangeSpec := { name := "fnFoldParts", fn := fun _ => fun
  | [d] => { results := [.lit (.bool true)], args := [d] }
  | _ => none }
def fnFoldPartsRow : OpenClaim := { program := "ytpameapajhbdnaa", sum := "5ba2d1c3ec3d9c0691f1f7cdd59524fede52f192365e28e995ef0839bc95e432", func := "loop.example/g00501/laws.FnFoldParts", spec := "fnFoldParts", apart := false }
def FnFoldPartsSaid : Prop := fnFoldPartsRow.holds Try.pinned (OpenSpec.ofChange fnFoldPartsSpec)

/-- ITS FALSE NEIGHBOUR: 'it returns false'. Refute it at one input. -/
def fnFoldPartsWrong : ChangeSpec := { name := "fnFoldParts", fn := fun _ => fun
  | [d] => { results := [.lit (.bool false)], args := [d] }
  | _ => none }
def FnFoldPartsWrongFalsely : Prop := fnFoldPartsRow.holds Try.pinned (OpenSpec.ofChange fnFoldPartsWrong)

/-- 'laws.FnFollowed': WHATEVER THE INPUT: true; the input reads as it did. -/
def fnFollowedSpec : ChangeSpec := { name := "fnFollowed", fn := fun _ => fun
  | [d] => { results := [.lit (.bool true)], args := [d] }
  | _ => none }
def fnFollowedRow : OpenClaim := { program := "ytpameapajhbdnaa", sum := "5ba2d1c3ec3d9c0691f1f7cdd59524fede52f192365e28e995ef0839bc95e432", func := "loop.example/g00501/laws.FnFollowed", spec := "fnFollowed", inPlace := ["internal/bytealg.IndexByteString", "internal/bytealg.IndexString"], unfollowed := true, recurses := true, named := ["internal/bytealg.MaxLen"], apart := false }
def FnFollowedSaid : Prop := fnFollowedRow.holds Try.pinned (OpenSpec.ofChange fnFollowedSpec)

/-- ITS FALSE NEIGHBOUR: 'it returns false'. Refute it at one input. -/
def fnFollowedWrong : ChangeSpec := { name := "fnFollowed", fn := fun _ => fun
  | [d] => { results := [.lit (.bool false)], args := [d] }
  | _ => none }
def FnFollowedWrongFalsely : Prop := fnFollowedRow.holds Try.pinned (OpenSpec.ofChange fnFollowedWrong)

/-- 'laws.FnExactTelling': WHATEVER THE INPUT: true; the input reads as it did. -/
def fnExactTellingSpec : ChangeSpec := { name := "fnExactTelling", fn := fun _ => fun
  | [d1, d2] => { results := [.lit (.bool true)], args := [d1, d2] }
  | _ => none }
def fnExactTellingRow : OpenClaim := { program := "ytpameapajhbdnaa", sum := "5ba2d1c3ec3d9c0691f1f7cdd59524fede52f192365e28e995ef0839bc95e432", func := "loop.example/g00501/laws.FnExactTelling", spec := "fnExactTelling", inPlace := ["internal/bytealg.IndexByteString", "internal/bytealg.IndexString"], unfollowed := true, recurses := true, named := ["internal/bytealg.MaxLen"], apart := false }
def FnExactTellingSaid : Prop := fnExactTellingRow.holds Try.pinned (OpenSpec.ofChange fnExactTellingSpec)

/-- ITS FALSE NEIGHBOUR: 'it returns false'. Refute it at one input. -/
def fnExactTellingWrong : ChangeSpec := { name := "fnExactTelling", fn := fun _ => fun
  | [d1, d2] => { results := [.lit (.bool false)], args := [d1, d2] }
  | _ => none }
def FnExactTellingWrongFalsely : Prop := fnExactTellingRow.holds Try.pinned (OpenSpec.ofChange fnExactTellingWrong)

/-- 'laws.FnExactSelecting': WHATEVER THE INPUT: true; the input reads as it did. -/
def fnExactSelectingSpec : ChangeSpec := { name := "fnExactSelecting", fn := fun _ => fun
  | [d] => { results := [.lit (.bool true)], args := [d] }
  | _ => none }
def fnExactSelectingRow : OpenClaim := { program := "ytpameapajhbdnaa", sum := "5ba2d1c3ec3d9c0691f1f7cdd59524fede52f192365e28e995ef0839bc95e432", func := "loop.example/g00501/laws.FnExactSelecting", spec := "fnExactSelecting", inPlace := ["internal/bytealg.IndexByteString", "internal/bytealg.IndexString"], named := ["internal/bytealg.MaxLen"], apart := false }
def FnExactSelectingSaid : Prop := fnExactSelectingRow.holds Try.pinned (OpenSpec.ofChange fnExactSelectingSpec)

/-- ITS FALSE NEIGHBOUR: 'it returns false'. Refute it at one input. -/
def fnExactSelectingWrong : ChangeSpec := { name := "fnExactSelecting", fn := fun _ => fun
  | [d] => { results := [.lit (.bool false)], args := [d] }
  | _ => none }
def FnExactSelectingWrongFalsely : Prop := fnExactSelectingRow.holds Try.pinned (OpenSpec.ofChange fnExactSelectingWrong)

/-- 'laws.FnExactFollowed': WHATEVER THE INPUT: true; the input reads as it did. -/
def fnExactFollowedSpec : ChangeSpec := { name := "fnExactFollowed", fn := fun _ => fun
  | [d1, d2] => { results := [.lit (.bool true)], args := [d1, d2] }
  | _ => none }
def fnExactFollowedRow : OpenClaim := { program := "ytpameapajhbdnaa", sum := "5ba2d1c3ec3d9c0691f1f7cdd59524fede52f192365e28e995ef0839bc95e432", func := "loop.example/g00501/laws.FnExactFollowed", spec := "fnExactFollowed", inPlace := ["internal/bytealg.IndexByteString", "internal/bytealg.IndexString"], unfollowed := true, recurses := true, named := ["internal/bytealg.MaxLen"], apart := false }
def FnExactFollowedSaid : Prop := fnExactFollowedRow.holds Try.pinned (OpenSpec.ofChange fnExactFollowedSpec)

/-- ITS FALSE NEIGHBOUR: 'it returns false'. Refute it at one input. -/
def fnExactFollowedWrong : ChangeSpec := { name := "fnExactFollowed", fn := fun _ => fun
  | [d1, d2] => { results := [.lit (.bool false)], args := [d1, d2] }
  | _ => none }
def FnExactFollowedWrongFalsely : Prop := fnExactFollowedRow.holds Try.pinned (OpenSpec.ofChange fnExactFollowedWrong)

/-- 'laws.FnExactFoldAll': WHATEVER THE INPUT: true; the input reads as it did. -/
def fnExactFoldAllSpec : ChangeSpec := { name := "fnExactFoldAll", fn := fun _ => fun
  | [d1, d2] => { results := [.lit (.bool true)], args := [d1, d2] }
  | _ => none }
def fnExactFoldAllRow : OpenClaim := { program := "ytpameapajhbdnaa", sum := "5ba2d1c3ec3d9c0691f1f7cdd59524fede52f192365e28e995ef0839bc95e432", func := "loop.example/g00501/laws.FnExactFoldAll", spec := "fnExactFoldAll", apart := false }
def FnExactFoldAllSaid : Prop := fnExactFoldAllRow.holds Try.pinned (OpenSpec.ofChange fnExactFoldAllSpec)

/-- ITS FALSE NEIGHBOUR: 'it returns false'. Refute it at one input. -/
def fnExactFoldAllWrong : ChangeSpec := { name := "fnExactFoldAll", fn := fun _ => fun
  | [d1, d2] => { results := [.lit (.bool false)], args := [d1, d2] }
  | _ => none }
def FnExactFoldAllWrongFalsely : Prop := fnExactFoldAllRow.holds Try.pinned (OpenSpec.ofChange fnExactFoldAllWrong)

/-- 'laws.FnExactSameClient': WHATEVER THE INPUT: true; the input reads as it did. -/
def fnExactSameClientSpec : ChangeSpec := { name := "fnExactSameClient", fn := fun _ => fun
  | [d1, d2] => { results := [.lit (.bool true)], args := [d1, d2] }
  | _ => none }
def fnExactSameClientRow : OpenClaim := { program := "ytpameapajhbdnaa", sum := "5ba2d1c3ec3d9c0691f1f7cdd59524fede52f192365e28e995ef0839bc95e432", func := "loop.example/g00501/laws.FnExactSameClient", spec := "fnExactSameClient", apart := false }
def FnExactSameClientSaid : Prop := fnExactSameClientRow.holds Try.pinned (OpenSpec.ofChange fnExactSameClientSpec)

/-- ITS FALSE NEIGHBOUR: 'it returns false'. Refute it at one input. -/
def fnExactSameClientWrong : ChangeSpec := { name := "fnExactSameClient", fn := fun _ => fun
  | [d1, d2] => { results := [.lit (.bool false)], args := [d1, d2] }
  | _ => none }
def FnExactSameClientWrongFalsely : Prop := fnExactSameClientRow.holds Try.pinned (OpenSpec.ofChange fnExactSameClientWrong)

/- THE SECOND FORM. 'bulk': how many values and letters a reading holds, each counted each time it is reached (what is shared counts as often as it is met; a slice's spare places count too). A statement '..UptoSaid' is the law's where the arguments, and the package variables that the reading takes, are together of bulk at most 1048576: NARROWER than '..Said'. Prove '..Said' where nothing that the law and all that it calls make is longer than what came in: it says more and counts as full. Else prove '..UptoSaid'. A law counts once. -/
mutual
def uptoBulk {H : Type} : DataW H → Nat
  | .lit (.string bytes) => bytes.length + 1
  | .lit _ => 1
  | .nil => 1
  | .ptr d => uptoBulk d + 1
  | .slice elems spare => uptoBulkAll elems + uptoBulkAll spare + 1
  | .agg parts => uptoBulkAll parts + 1
  | .iface _ d => uptoBulk d + 1
  | .map entries => uptoBulkEntries entries + 1
  | .held _ => 1
def uptoBulkAll {H : Type} : List (DataW H) → Nat
  | [] => 0
  | d :: r => uptoBulk d + uptoBulkAll r
def uptoBulkEntries {H : Type} : List (Lit × DataW H) → Nat
  | [] => 0
  | x :: r => uptoBulkEntry x + uptoBulkEntries r
def uptoBulkEntry {H : Type} : Lit × DataW H → Nat
  | (.string bytes, d) => bytes.length + uptoBulk d + 1
  | (_, d) => uptoBulk d + 1
 end
def uptoSmall : (H : Type) → List (DataW H) → Bool := fun _ ds => decide (uptoBulkAll ds ≤ 1048576)
def OpenSpec.upto (s : _root_.Go.ChangeSpec) : _root_.Go.OpenSpec := { _root_.Go.OpenSpec.ofChange s with cond := some uptoSmall }

/-- 'laws.FnExactStoreNew', WHERE WHAT IT READS IS OF BULK AT MOST 1048576: true; the input reads as it did. -/
def fnExactStoreNewUptoRow : OpenClaim := { program := "ytpameapajhbdnaa", sum := "5ba2d1c3ec3d9c0691f1f7cdd59524fede52f192365e28e995ef0839bc95e432", func := "loop.example/g00501/laws.FnExactStoreNew", spec := "fnExactStoreNew", apart := false, narrowed := true }
def FnExactStoreNewUptoSaid : Prop := fnExactStoreNewUptoRow.holds Try.pinned (OpenSpec.upto fnExactStoreNewSpec)

/-- 'laws.FnExactApplied', WHERE WHAT IT READS IS OF BULK AT MOST 1048576: true; the input reads as it did. -/
def fnExactAppliedUptoRow : OpenClaim := { program := "ytpameapajhbdnaa", sum := "5ba2d1c3ec3d9c0691f1f7cdd59524fede52f192365e28e995ef0839bc95e432", func := "loop.example/g00501/laws.FnExactApplied", spec := "fnExactApplied", inPlace := ["internal/bytealg.IndexByteString", "internal/bytealg.IndexString"], unfollowed := true, recurses := true, named := ["internal/bytealg.MaxLen"], apart := false, narrowed := true }
def FnExactAppliedUptoSaid : Prop := fnExactAppliedUptoRow.holds Try.pinned (OpenSpec.upto fnExactAppliedSpec)

/-- 'laws.FnApplied', WHERE WHAT IT READS IS OF BULK AT MOST 1048576: true; the input reads as it did. -/
def fnAppliedUptoRow : OpenClaim := { program := "ytpameapajhbdnaa", sum := "5ba2d1c3ec3d9c0691f1f7cdd59524fede52f192365e28e995ef0839bc95e432", func := "loop.example/g00501/laws.FnApplied", spec := "fnApplied", inPlace := ["internal/bytealg.IndexByteString", "internal/bytealg.IndexString"], unfollowed := true, recurses := true, named := ["internal/bytealg.MaxLen"], apart := false, narrowed := true }
def FnAppliedUptoSaid : Prop := fnAppliedUptoRow.holds Try.pinned (OpenSpec.upto fnAppliedSpec)

/-- 'laws.FnApart', WHERE WHAT IT READS IS OF BULK AT MOST 1048576: true; the input reads as it did. -/
def fnApartUptoRow : OpenClaim := { program := "ytpameapajhbdnaa", sum := "5ba2d1c3ec3d9c0691f1f7cdd59524fede52f192365e28e995ef0839bc95e432", func := "loop.example/g00501/laws.FnApart", spec := "fnApart", inPlace := ["internal/bytealg.IndexByteString", "internal/bytealg.IndexString"], unfollowed := true, recurses := true, named := ["internal/bytealg.MaxLen"], apart := false, narrowed := true }
def FnApartUptoSaid : Prop := fnApartUptoRow.holds Try.pinned (OpenSpec.upto fnApartSpec)

/-- 'laws.FnAppliedAll', WHERE WHAT IT READS IS OF BULK AT MOST 1048576: true; the input reads as it did. -/
def fnAppliedAllUptoRow : OpenClaim := { program := "ytpameapajhbdnaa", sum := "5ba2d1c3ec3d9c0691f1f7cdd59524fede52f192365e28e995ef0839bc95e432", func := "loop.example/g00501/laws.FnAppliedAll", spec := "fnAppliedAll", inPlace := ["internal/bytealg.IndexByteString", "internal/bytealg.IndexString"], unfollowed := true, recurses := true, named := ["internal/bytealg.MaxLen"], apart := false, narrowed := true }
def FnAppliedAllUptoSaid : Prop := fnAppliedAllUptoRow.holds Try.pinned (OpenSpec.upto fnAppliedAllSpec)

/-- 'laws.FnFoldParts', WHERE WHAT IT READS IS OF BULK AT MOST 1048576: true; the input reads as it did. -/
def fnFoldPartsUptoRow : OpenClaim := { program := "ytpameapajhbdnaa", sum := "5ba2d1c3ec3d9c0691f1f7cdd59524fede52f192365e28e995ef0839bc95e432", func := "loop.example/g00501/laws.FnFoldParts", spec := "fnFoldParts", apart := false, narrowed := true }
def FnFoldPartsUptoSaid : Prop := fnFoldPartsUptoRow.holds Try.pinned (OpenSpec.upto fnFoldPartsSpec)

/-- 'laws.FnFollowed', WHERE WHAT IT READS IS OF BULK AT MOST 1048576: true; the input reads as it did. -/
def fnFollowedUptoRow : OpenClaim := { program := "ytpameapajhbdnaa", sum := "5ba2d1c3ec3d9c0691f1f7cdd59524fede52f192365e28e995ef0839bc95e432", func := "loop.example/g00501/laws.FnFollowed", spec := "fnFollowed", inPlace := ["internal/bytealg.IndexByteString", "internal/bytealg.IndexString"], unfollowed := true, recurses := true, named := ["internal/bytealg.MaxLen"], apart := false, narrowed := true }
def FnFollowedUptoSaid : Prop := fnFollowedUptoRow.holds Try.pinned (OpenSpec.upto fnFollowedSpec)

/-- 'laws.FnExactTelling', WHERE WHAT IT READS IS OF BULK AT MOST 1048576: true; the input reads as it did. -/
def fnExactTellingUptoRow : OpenClaim := { program := "ytpameapajhbdnaa", sum := "5ba2d1c3ec3d9c0691f1f7cdd59524fede52f192365e28e995ef0839bc95e432", func := "loop.example/g00501/laws.FnExactTelling", spec := "fnExactTelling", inPlace := ["internal/bytealg.IndexByteString", "internal/bytealg.IndexString"], unfollowed := true, recurses := true, named := ["internal/bytealg.MaxLen"], apart := false, narrowed := true }
def FnExactTellingUptoSaid : Prop := fnExactTellingUptoRow.holds Try.pinned (OpenSpec.upto fnExactTellingSpec)

/-- 'laws.FnExactSelecting', WHERE WHAT IT READS IS OF BULK AT MOST 1048576: true; the input reads as it did. -/
def fnExactSelectingUptoRow : OpenClaim := { program := "ytpameapajhbdnaa", sum := "5ba2d1c3ec3d9c0691f1f7cdd59524fede52f192365e28e995ef0839bc95e432", func := "loop.example/g00501/laws.FnExactSelecting", spec := "fnExactSelecting", inPlace := ["internal/bytealg.IndexByteString", "internal/bytealg.IndexString"], named := ["internal/bytealg.MaxLen"], apart := false, narrowed := true }
def FnExactSelectingUptoSaid : Prop := fnExactSelectingUptoRow.holds Try.pinned (OpenSpec.upto fnExactSelectingSpec)

/-- 'laws.FnExactFollowed', WHERE WHAT IT READS IS OF BULK AT MOST 1048576: true; the input reads as it did. -/
def fnExactFollowedUptoRow : OpenClaim := { program := "ytpameapajhbdnaa", sum := "5ba2d1c3ec3d9c0691f1f7cdd59524fede52f192365e28e995ef0839bc95e432", func := "loop.example/g00501/laws.FnExactFollowed", spec := "fnExactFollowed", inPlace := ["internal/bytealg.IndexByteString", "internal/bytealg.IndexString"], unfollowed := true, recurses := true, named := ["internal/bytealg.MaxLen"], apart := false, narrowed := true }
def FnExactFollowedUptoSaid : Prop := fnExactFollowedUptoRow.holds Try.pinned (OpenSpec.upto fnExactFollowedSpec)

/-- 'laws.FnExactFoldAll', WHERE WHAT IT READS IS OF BULK AT MOST 1048576: true; the input reads as it did. -/
def fnExactFoldAllUptoRow : OpenClaim := { program := "ytpameapajhbdnaa", sum := "5ba2d1c3ec3d9c0691f1f7cdd59524fede52f192365e28e995ef0839bc95e432", func := "loop.example/g00501/laws.FnExactFoldAll", spec := "fnExactFoldAll", apart := false, narrowed := true }
def FnExactFoldAllUptoSaid : Prop := fnExactFoldAllUptoRow.holds Try.pinned (OpenSpec.upto fnExactFoldAllSpec)

/-- 'laws.FnExactSameClient', WHERE WHAT IT READS IS OF BULK AT MOST 1048576: true; the input reads as it did. -/
def fnExactSameClientUptoRow : OpenClaim := { program := "ytpameapajhbdnaa", sum := "5ba2d1c3ec3d9c0691f1f7cdd59524fede52f192365e28e995ef0839bc95e432", func := "loop.example/g00501/laws.FnExactSameClient", spec := "fnExactSameClient", apart := false, narrowed := true }
def FnExactSameClientUptoSaid : Prop := fnExactSameClientUptoRow.holds Try.pinned (OpenSpec.upto fnExactSameClientSpec)

end Rows
end Go.Proofs.Ytpameapajhbdnaa
