/-
  No cell of these rows narrows 'for every input' (looked for: loops, veiled, ifaces, maps, wideKeys, modest, calm, conditions, laid).
  DERIVED. THE GIVEN ROWS OF THIS SEAT. 6 by the template 'for every input the law returns true; each argument reads behind the call as it read before'; 0 by the template 'total and deterministic' (their statements: YtmmbdmdfbdmilaaTotals.lean).
  GIVEN WITH THE SEED: the statements are not yours to turn. If you find one false, say at which input.
  Laid BY PROGRAM, IN A SANDBOX (cutbox-rows.mjs): the forced cells as the released guide's own fill.sh prints them over the translation fe03d7112ddc84ea… (all of the seat's roots in one cut). By AI agents, Wed Nov 11 2026. No macro, syntax, notation, axiom, sorry.
-/
import Derived.Test.YtmmbdmdfbdmilaaChecked
import GoSem.Claim
import GoSem.ClaimJoined
import GoSem.ClaimMapViews
import Derived.JoinedTies
import Derived.KernelRfl
namespace Go.Proofs.Ytmmbdmdfbdmilaa
/- THE CELL 'sum', in the pinned program and in every row, IS THE sha256 OF THE DUMP (.gsa) THAT YtmmbdmdfbdmilaaProg.lean LOADS. Nothing in Lean hashes anything: it is a label: what it is worth is what the hold of that sum in a sandbox is worth. -/
noncomputable def Try.pinned : Pinned := { name := "ytmmbdmdfbdmilaa", sum := "fe03d7112ddc84eab976a817c22e8c9d6a16fa7713c1435dc3cc434e37f73c95", checked := Try.checked }
namespace Rows
def none {H : Type} : Left H := { results := [], args := [] }

/-- 'laws.FnExactFoldAll': WHATEVER THE INPUT: true; the input reads as it did. -/
def fnExactFoldAllSpec : ChangeSpec := { name := "fnExactFoldAll", fn := fun _ => fun
  | [d1, d2] => { results := [.lit (.bool true)], args := [d1, d2] }
  | _ => none }
def fnExactFoldAllRow : OpenClaim := { program := "ytmmbdmdfbdmilaa", sum := "fe03d7112ddc84eab976a817c22e8c9d6a16fa7713c1435dc3cc434e37f73c95", func := "loop.example/g00501/laws.FnExactFoldAll", spec := "fnExactFoldAll", apart := false }
def FnExactFoldAllSaid : Prop := fnExactFoldAllRow.holds Try.pinned (OpenSpec.ofChange fnExactFoldAllSpec)

/-- ITS FALSE NEIGHBOUR: 'it returns false'. Refute it at one input. -/
def fnExactFoldAllWrong : ChangeSpec := { name := "fnExactFoldAll", fn := fun _ => fun
  | [d1, d2] => { results := [.lit (.bool false)], args := [d1, d2] }
  | _ => none }
def FnExactFoldAllWrongFalsely : Prop := fnExactFoldAllRow.holds Try.pinned (OpenSpec.ofChange fnExactFoldAllWrong)

/-- 'laws.FnExactSelecting': WHATEVER THE INPUT: true; the input reads as it did. -/
def fnExactSelectingSpec : ChangeSpec := { name := "fnExactSelecting", fn := fun _ => fun
  | [d] => { results := [.lit (.bool true)], args := [d] }
  | _ => none }
def fnExactSelectingRow : OpenClaim := { program := "ytmmbdmdfbdmilaa", sum := "fe03d7112ddc84eab976a817c22e8c9d6a16fa7713c1435dc3cc434e37f73c95", func := "loop.example/g00501/laws.FnExactSelecting", spec := "fnExactSelecting", inPlace := ["internal/bytealg.IndexByteString", "internal/bytealg.IndexString"], named := ["internal/bytealg.MaxLen"], apart := false }
def FnExactSelectingSaid : Prop := fnExactSelectingRow.holds Try.pinned (OpenSpec.ofChange fnExactSelectingSpec)

/-- ITS FALSE NEIGHBOUR: 'it returns false'. Refute it at one input. -/
def fnExactSelectingWrong : ChangeSpec := { name := "fnExactSelecting", fn := fun _ => fun
  | [d] => { results := [.lit (.bool false)], args := [d] }
  | _ => none }
def FnExactSelectingWrongFalsely : Prop := fnExactSelectingRow.holds Try.pinned (OpenSpec.ofChange fnExactSelectingWrong)

/-- 'laws.FnExactFollowed': WHATEVER THE INPUT: true; the input reads as it did. -/
def fnExactFollowedSpec : ChangeSpec := { name := "fnExactFollowed", fn := fun _ => fun
  | [d1, d2] => { results := [.lit (.bool true)], args := [d1, d2] }
  | _ => none }
def fnExactFollowedRow : OpenClaim := { program := "ytmmbdmdfbdmilaa", sum := "fe03d7112ddc84eab976a817c22e8c9d6a16fa7713c1435dc3cc434e37f73c95", func := "loop.example/g00501/laws.FnExactFollowed", spec := "fnExactFollowed", inPlace := ["internal/bytealg.IndexByteString", "internal/bytealg.IndexString"], unfollowed := true, recurses := true, named := ["internal/bytealg.MaxLen"], apart := false }
def FnExactFollowedSaid : Prop := fnExactFollowedRow.holds Try.pinned (OpenSpec.ofChange fnExactFollowedSpec)

/-- ITS FALSE NEIGHBOUR: 'it returns false'. Refute it at one input. -/
def fnExactFollowedWrong : ChangeSpec := { name := "fnExactFollowed", fn := fun _ => fun
  | [d1, d2] => { results := [.lit (.bool false)], args := [d1, d2] }
  | _ => none }
def FnExactFollowedWrongFalsely : Prop := fnExactFollowedRow.holds Try.pinned (OpenSpec.ofChange fnExactFollowedWrong)

/-- 'laws.FnExactTelling': WHATEVER THE INPUT: true; the input reads as it did. -/
def fnExactTellingSpec : ChangeSpec := { name := "fnExactTelling", fn := fun _ => fun
  | [d1, d2] => { results := [.lit (.bool true)], args := [d1, d2] }
  | _ => none }
def fnExactTellingRow : OpenClaim := { program := "ytmmbdmdfbdmilaa", sum := "fe03d7112ddc84eab976a817c22e8c9d6a16fa7713c1435dc3cc434e37f73c95", func := "loop.example/g00501/laws.FnExactTelling", spec := "fnExactTelling", inPlace := ["internal/bytealg.IndexByteString", "internal/bytealg.IndexString"], unfollowed := true, recurses := true, named := ["internal/bytealg.MaxLen"], apart := false }
def FnExactTellingSaid : Prop := fnExactTellingRow.holds Try.pinned (OpenSpec.ofChange fnExactTellingSpec)

/-- ITS FALSE NEIGHBOUR: 'it returns false'. Refute it at one input. -/
def fnExactTellingWrong : ChangeSpec := { name := "fnExactTelling", fn := fun _ => fun
  | [d1, d2] => { results := [.lit (.bool false)], args := [d1, d2] }
  | _ => none }
def FnExactTellingWrongFalsely : Prop := fnExactTellingRow.holds Try.pinned (OpenSpec.ofChange fnExactTellingWrong)

/-- 'laws.FnFoldParts': WHATEVER THE INPUT: true; the input reads as it did. -/
def fnFoldPartsSpec : ChangeSpec := { name := "fnFoldParts", fn := fun _ => fun
  | [d] => { results := [.lit (.bool true)], args := [d] }
  | _ => none }
def fnFoldPartsRow : OpenClaim := { program := "ytmmbdmdfbdmilaa", sum := "fe03d7112ddc84eab976a817c22e8c9d6a16fa7713c1435dc3cc434e37f73c95", func := "loop.example/g00501/laws.FnFoldParts", spec := "fnFoldParts", apart := false }
def FnFoldPartsSaid : Prop := fnFoldPartsRow.holds Try.pinned (OpenSpec.ofChange fnFoldPartsSpec)

/-- ITS FALSE NEIGHBOUR: 'it returns false'. Refute it at one input. -/
def fnFoldPartsWrong : ChangeSpec := { name := "fnFoldParts", fn := fun _ => fun
  | [d] => { results := [.lit (.bool false)], args := [d] }
  | _ => none }
def FnFoldPartsWrongFalsely : Prop := fnFoldPartsRow.holds Try.pinned (OpenSpec.ofChange fnFoldPartsWrong)

/-- 'laws.FnFollowed': WHATEVER THE INPUT: true; the input reads as it did. -/
def fnFollowedSpec : ChangeSpec := { name := "fnFollowed", fn := fun _ => fun
  | [d] => { results := [.lit (.bool true)], args := [d] }
  | _ => none }
def fnFollowedRow : OpenClaim := { program := "ytmmbdmdfbdmilaa", sum := "fe03d7112ddc84eab976a817c22e8c9d6a16fa7713c1435dc3cc434e37f73c95", func := "loop.example/g00501/laws.FnFollowed", spec := "fnFollowed", inPlace := ["internal/bytealg.IndexByteString", "internal/bytealg.IndexString"], unfollowed := true, recurses := true, named := ["internal/bytealg.MaxLen"], apart := false }
def FnFollowedSaid : Prop := fnFollowedRow.holds Try.pinned (OpenSpec.ofChange fnFollowedSpec)

/-- ITS FALSE NEIGHBOUR: 'it returns false'. Refute it at one input. -/
def fnFollowedWrong : ChangeSpec := { name := "fnFollowed", fn := fun _ => fun
  | [d] => { results := [.lit (.bool false)], args := [d] }
  | _ => none }
def FnFollowedWrongFalsely : Prop := fnFollowedRow.holds Try.pinned (OpenSpec.ofChange fnFollowedWrong)

/- THE SECOND FORM. 'bulk': how many values and letters a reading holds, each counted each time it is reached (what is shared counts as often as it is met; a slice's spare places count too). A statement '..UptoSaid' is the law's where the arguments, and the package variables that the reading takes, are together of bulk at most 1048576: NARROWER than '..Said'. Prove '..Said' where nothing that the law and all that it calls make is longer than what came in: it says more and counts as full. Else prove '..UptoSaid'. A law counts once. -/
mutual
def uptoBulk {H : Type} : DataW H → Nat
  | .lit (.string bytes) => bytes.length + 1
  | .lit _ => 1
  | .nil => 1
  | .ptr d => uptoBulk d + 1
  | .slice elems spare => uptoBulkAll elems + uptoBulkAll spare + 1
  | .agg parts => uptoBulkAll parts + 1
  | .iface _ d => uptoBulk d + 1
  | .map entries => uptoBulkEntries entries + 1
  | .held _ => 1
def uptoBulkAll {H : Type} : List (DataW H) → Nat
  | [] => 0
  | d :: r => uptoBulk d + uptoBulkAll r
def uptoBulkEntries {H : Type} : List (Lit × DataW H) → Nat
  | [] => 0
  | x :: r => uptoBulkEntry x + uptoBulkEntries r
def uptoBulkEntry {H : Type} : Lit × DataW H → Nat
  | (.string bytes, d) => bytes.length + uptoBulk d + 1
  | (_, d) => uptoBulk d + 1
 end
def uptoSmall : (H : Type) → List (DataW H) → Bool := fun _ ds => decide (uptoBulkAll ds ≤ 1048576)
def OpenSpec.upto (s : _root_.Go.ChangeSpec) : _root_.Go.OpenSpec := { _root_.Go.OpenSpec.ofChange s with cond := some uptoSmall }

/-- 'laws.FnExactFoldAll', WHERE WHAT IT READS IS OF BULK AT MOST 1048576: true; the input reads as it did. -/
def fnExactFoldAllUptoRow : OpenClaim := { program := "ytmmbdmdfbdmilaa", sum := "fe03d7112ddc84eab976a817c22e8c9d6a16fa7713c1435dc3cc434e37f73c95", func := "loop.example/g00501/laws.FnExactFoldAll", spec := "fnExactFoldAll", apart := false, narrowed := true }
def FnExactFoldAllUptoSaid : Prop := fnExactFoldAllUptoRow.holds Try.pinned (OpenSpec.upto fnExactFoldAllSpec)

/-- 'laws.FnExactSelecting', WHERE WHAT IT READS IS OF BULK AT MOST 1048576: true; the input reads as it did. -/
def fnExactSelectingUptoRow : OpenClaim := { program := "ytmmbdmdfbdmilaa", sum := "fe03d7112ddc84eab976a817c22e8c9d6a16fa7713c1435dc3cc434e37f73c95", func := "loop.example/g00501/laws.FnExactSelecting", spec := "fnExactSelecting", inPlace := ["internal/bytealg.IndexByteString", "internal/bytealg.IndexString"], named := ["internal/bytealg.MaxLen"], apart := false, narrowed := true }
def FnExactSelectingUptoSaid : Prop := fnExactSelectingUptoRow.holds Try.pinned (OpenSpec.upto fnExactSelectingSpec)

/-- 'laws.FnExactFollowed', WHERE WHAT IT READS IS OF BULK AT MOST 1048576: true; the input reads as it did. -/
def fnExactFollowedUptoRow : OpenClaim := { program := "ytmmbdmdfbdmilaa", sum := "fe03d7112ddc84eab976a817c22e8c9d6a16fa7713c1435dc3cc434e37f73c95", func := "loop.example/g00501/laws.FnExactFollowed", spec := "fnExactFollowed", inPlace := ["internal/bytealg.IndexByteString", "internal/bytealg.IndexString"], unfollowed := true, recurses := true, named := ["internal/bytealg.MaxLen"], apart := false, narrowed := true }
def FnExactFollowedUptoSaid : Prop := fnExactFollowedUptoRow.holds Try.pinned (OpenSpec.upto fnExactFollowedSpec)

/-- 'laws.FnExactTelling', WHERE WHAT IT READS IS OF BULK AT MOST 1048576: true; the input reads as it did. -/
def fnExactTellingUptoRow : OpenClaim := { program := "ytmmbdmdfbdmilaa", sum := "fe03d7112ddc84eab976a817c22e8c9d6a16fa7713c1435dc3cc434e37f73c95", func := "loop.example/g00501/laws.FnExactTelling", spec := "fnExactTelling", inPlace := ["internal/bytealg.IndexByteString", "internal/bytealg.IndexString"], unfollowed := true, recurses := true, named := ["internal/bytealg.MaxLen"], apart := false, narrowed := true }
def FnExactTellingUptoSaid : Prop := fnExactTellingUptoRow.holds Try.pinned (OpenSpec.upto fnExactTellingSpec)

/-- 'laws.FnFoldParts', WHERE WHAT IT READS IS OF BULK AT MOST 1048576: true; the input reads as it did. -/
def fnFoldPartsUptoRow : OpenClaim := { program := "ytmmbdmdfbdmilaa", sum := "fe03d7112ddc84eab976a817c22e8c9d6a16fa7713c1435dc3cc434e37f73c95", func := "loop.example/g00501/laws.FnFoldParts", spec := "fnFoldParts", apart := false, narrowed := true }
def FnFoldPartsUptoSaid : Prop := fnFoldPartsUptoRow.holds Try.pinned (OpenSpec.upto fnFoldPartsSpec)

/-- 'laws.FnFollowed', WHERE WHAT IT READS IS OF BULK AT MOST 1048576: true; the input reads as it did. -/
def fnFollowedUptoRow : OpenClaim := { program := "ytmmbdmdfbdmilaa", sum := "fe03d7112ddc84eab976a817c22e8c9d6a16fa7713c1435dc3cc434e37f73c95", func := "loop.example/g00501/laws.FnFollowed", spec := "fnFollowed", inPlace := ["internal/bytealg.IndexByteString", "internal/bytealg.IndexString"], unfollowed := true, recurses := true, named := ["internal/bytealg.MaxLen"], apart := false, narrowed := true }
def FnFollowedUptoSaid : Prop := fnFollowedUptoRow.holds Try.pinned (OpenSpec.upto fnFollowedSpec)

end Rows
end Go.Proofs.Ytmmbdmdfbdmilaa
