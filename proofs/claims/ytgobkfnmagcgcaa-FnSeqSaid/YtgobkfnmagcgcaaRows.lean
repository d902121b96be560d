/-
  No cell of these rows narrows 'for every input' (looked for: loops, veiled, ifaces, maps, wideKeys, modest, calm, conditions, laid).
  DERIVED. THE GIVEN ROWS OF THIS SEAT. 5 by the template 'for every input the law returns true; each argument reads behind the call as it read before'; 0 by the template 'total and deterministic' (their statements: YtgobkfnmagcgcaaTotals.lean).
  GIVEN WITH THE SEED: the statements are not yours to turn. If you find one false, say at which input.
  Laid BY PROGRAM, IN A SANDBOX (cutbox-rows.mjs): the forced cells as the released guide's own fill.sh prints them over the translation 804e0c152f968512… (all of the seat's roots in one cut). By AI agents, Wed Nov 11 2026. No macro, syntax, notation, axiom, sorry.
-/
import Derived.Test.YtgobkfnmagcgcaaChecked
import GoSem.Claim
import GoSem.ClaimJoined
import GoSem.ClaimMapViews
import Derived.JoinedTies
import Derived.KernelRfl
namespace Go.Proofs.Ytgobkfnmagcgcaa
/- THE CELL 'sum', in the pinned program and in every row, IS THE sha256 OF THE DUMP (.gsa) THAT YtgobkfnmagcgcaaProg.lean LOADS. Nothing in Lean hashes anything: it is a label: what it is worth is what the hold of that sum in a sandbox is worth. -/
noncomputable def Try.pinned : Pinned := { name := "ytgobkfnmagcgcaa", sum := "804e0c152f96851204aef57b6a4f067db9533ab0e2efe8520865f8774263a6fd", checked := Try.checked }
namespace Rows
def none {H : Type} : Left H := { results := [], args := [] }

/-- 'laws.FnSeq': WHATEVER THE INPUT: true; the input reads as it did. -/
def fnSeqSpec : ChangeSpec := { name := "fnSeq", fn := fun _ => fun
  | [d] => { results := [.lit (.bool true)], args := [d] }
  | _ => none }
def fnSeqRow : OpenClaim := { program := "ytgobkfnmagcgcaa", sum := "804e0c152f96851204aef57b6a4f067db9533ab0e2efe8520865f8774263a6fd", func := "loop.example/g00501/laws.FnSeq", spec := "fnSeq", unfollowed := true, recurses := true, apart := false }
def FnSeqSaid : Prop := fnSeqRow.holds Try.pinned (OpenSpec.ofChange fnSeqSpec)

/-- ITS FALSE NEIGHBOUR: 'it returns false'. Refute it at one input. -/
def fnSeqWrong : ChangeSpec := { name := "fnSeq", fn := fun _ => fun
  | [d] => { results := [.lit (.bool false)], args := [d] }
  | _ => none }
def FnSeqWrongFalsely : Prop := fnSeqRow.holds Try.pinned (OpenSpec.ofChange fnSeqWrong)

/-- 'laws.FnQueue': WHATEVER THE INPUT: true; the input reads as it did. -/
def fnQueueSpec : ChangeSpec := { name := "fnQueue", fn := fun _ => fun
  | [d] => { results := [.lit (.bool true)], args := [d] }
  | _ => none }
def fnQueueRow : OpenClaim := { program := "ytgobkfnmagcgcaa", sum := "804e0c152f96851204aef57b6a4f067db9533ab0e2efe8520865f8774263a6fd", func := "loop.example/g00501/laws.FnQueue", spec := "fnQueue", inPlace := ["internal/bytealg.IndexByteString", "internal/bytealg.IndexString"], unfollowed := true, recurses := true, named := ["internal/bytealg.MaxLen"], apart := false }
def FnQueueSaid : Prop := fnQueueRow.holds Try.pinned (OpenSpec.ofChange fnQueueSpec)

/-- ITS FALSE NEIGHBOUR: 'it returns false'. Refute it at one input. -/
def fnQueueWrong : ChangeSpec := { name := "fnQueue", fn := fun _ => fun
  | [d] => { results := [.lit (.bool false)], args := [d] }
  | _ => none }
def FnQueueWrongFalsely : Prop := fnQueueRow.holds Try.pinned (OpenSpec.ofChange fnQueueWrong)

/-- 'laws.FnDropNote': WHATEVER THE INPUT: true; the input reads as it did. -/
def fnDropNoteSpec : ChangeSpec := { name := "fnDropNote", fn := fun _ => fun
  | [d] => { results := [.lit (.bool true)], args := [d] }
  | _ => none }
def fnDropNoteRow : OpenClaim := { program := "ytgobkfnmagcgcaa", sum := "804e0c152f96851204aef57b6a4f067db9533ab0e2efe8520865f8774263a6fd", func := "loop.example/g00501/laws.FnDropNote", spec := "fnDropNote", inPlace := ["internal/bytealg.IndexByteString", "internal/bytealg.IndexString"], unfollowed := true, recurses := true, named := ["internal/bytealg.MaxLen"], apart := false }
def FnDropNoteSaid : Prop := fnDropNoteRow.holds Try.pinned (OpenSpec.ofChange fnDropNoteSpec)

/-- ITS FALSE NEIGHBOUR: 'it returns false'. Refute it at one input. -/
def fnDropNoteWrong : ChangeSpec := { name := "fnDropNote", fn := fun _ => fun
  | [d] => { results := [.lit (.bool false)], args := [d] }
  | _ => none }
def FnDropNoteWrongFalsely : Prop := fnDropNoteRow.holds Try.pinned (OpenSpec.ofChange fnDropNoteWrong)

/-- 'laws.FnFoldParts': WHATEVER THE INPUT: true; the input reads as it did. -/
def fnFoldPartsSpec : ChangeSpec := { name := "fnFoldParts", fn := fun _ => fun
  | [d] => { results := [.lit (.bool true)], args := [d] }
  | _ => none }
def fnFoldPartsRow : OpenClaim := { program := "ytgobkfnmagcgcaa", sum := "804e0c152f96851204aef57b6a4f067db9533ab0e2efe8520865f8774263a6fd", func := "loop.example/g00501/laws.FnFoldParts", spec := "fnFoldParts", apart := false }
def FnFoldPartsSaid : Prop := fnFoldPartsRow.holds Try.pinned (OpenSpec.ofChange fnFoldPartsSpec)

/-- ITS FALSE NEIGHBOUR: 'it returns false'. Refute it at one input. -/
def fnFoldPartsWrong : ChangeSpec := { name := "fnFoldParts", fn := fun _ => fun
  | [d] => { results := [.lit (.bool false)], args := [d] }
  | _ => none }
def FnFoldPartsWrongFalsely : Prop := fnFoldPartsRow.holds Try.pinned (OpenSpec.ofChange fnFoldPartsWrong)

/-- 'laws.FnFollowed': WHATEVER THE INPUT: true; the input reads as it did. -/
def fnFollowedSpec : ChangeSpec := { name := "fnFollowed", fn := fun _ => fun
  | [d] => { results := [.lit (.bool true)], args := [d] }
  | _ => none }
def fnFollowedRow : OpenClaim := { program := "ytgobkfnmagcgcaa", sum := "804e0c152f96851204aef57b6a4f067db9533ab0e2efe8520865f8774263a6fd", func := "loop.example/g00501/laws.FnFollowed", spec := "fnFollowed", inPlace := ["internal/bytealg.IndexByteString", "internal/bytealg.IndexString"], unfollowed := true, recurses := true, named := ["internal/bytealg.MaxLen"], apart := false }
def FnFollowedSaid : Prop := fnFollowedRow.holds Try.pinned (OpenSpec.ofChange fnFollowedSpec)

/-- ITS FALSE NEIGHBOUR: 'it returns false'. Refute it at one input. -/
def fnFollowedWrong : ChangeSpec := { name := "fnFollowed", fn := fun _ => fun
  | [d] => { results := [.lit (.bool false)], args := [d] }
  | _ => none }
def FnFollowedWrongFalsely : Prop := fnFollowedRow.holds Try.pinned (OpenSpec.ofChange fnFollowedWrong)

/- THE SECOND FORM. 'bulk': how many values and letters a reading holds, each counted each time it is reached (what is shared counts as often as it is met; a slice's spare places count too). A statement '..UptoSaid' is the law's where the arguments, and the package variables that the reading takes, are together of bulk at most 1048576: NARROWER than '..Said'. Prove '..Said' where nothing that the law and all that it calls make is longer than what came in: it says more and counts as full. Else prove '..UptoSaid'. A law counts once. -/
mutual
def uptoBulk {H : Type} : DataW H → Nat
  | .lit (.string bytes) => bytes.length + 1
  | .lit _ => 1
  | .nil => 1
  | .ptr d => uptoBulk d + 1
  | .slice elems spare => uptoBulkAll elems + uptoBulkAll spare + 1
  | .agg parts => uptoBulkAll parts + 1
  | .iface _ d => uptoBulk d + 1
  | .map entries => uptoBulkEntries entries + 1
  | .held _ => 1
def uptoBulkAll {H : Type} : List (DataW H) → Nat
  | [] => 0
  | d :: r => uptoBulk d + uptoBulkAll r
def uptoBulkEntries {H : Type} : List (Lit × DataW H) → Nat
  | [] => 0
  | x :: r => uptoBulkEntry x + uptoBulkEntries r
def uptoBulkEntry {H : Type} : Lit × DataW H → Nat
  | (.string bytes, d) => bytes.length + uptoBulk d + 1
  | (_, d) => uptoBulk d + 1
 end
def uptoSmall : (H : Type) → List (DataW H) → Bool := fun _ ds => decide (uptoBulkAll ds ≤ 1048576)
def OpenSpec.upto (s : _root_.Go.ChangeSpec) : _root_.Go.OpenSpec := { _root_.Go.OpenSpec.ofChange s with cond := some uptoSmall }

/-- 'laws.FnSeq', WHERE WHAT IT READS IS OF BULK AT MOST 1048576: true; the input reads as it did. -/
def fnSeqUptoRow : OpenClaim := { program := "ytgobkfnmagcgcaa", sum := "804e0c152f96851204aef57b6a4f067db9533ab0e2efe8520865f8774263a6fd", func := "loop.example/g00501/laws.FnSeq", spec := "fnSeq", unfollowed := true, recurses := true, apart := false, narrowed := true }
def FnSeqUptoSaid : Prop := fnSeqUptoRow.holds Try.pinned (OpenSpec.upto fnSeqSpec)

/-- 'laws.FnQueue', WHERE WHAT IT READS IS OF BULK AT MOST 1048576: true; the input reads as it did. -/
def fnQueueUptoRow : OpenClaim := { program := "ytgobkfnmagcgcaa", sum := "804e0c152f96851204aef57b6a4f067db9533ab0e2efe8520865f8774263a6fd", func := "loop.example/g00501/laws.FnQueue", spec := "fnQueue", inPlace := ["internal/bytealg.IndexByteString", "internal/bytealg.IndexString"], unfollowed := true, recurses := true, named := ["internal/bytealg.MaxLen"], apart := false, narrowed := true }
def FnQueueUptoSaid : Prop := fnQueueUptoRow.holds Try.pinned (OpenSpec.upto fnQueueSpec)

/-- 'laws.FnDropNote', WHERE WHAT IT READS IS OF BULK AT MOST 1048576: true; the input reads as it did. -/
def fnDropNoteUptoRow : OpenClaim := { program := "ytgobkfnmagcgcaa", sum := "804e0c152f96851204aef57b6a4f067db9533ab0e2efe8520865f8774263a6fd", func := "loop.example/g00501/laws.FnDropNote", spec := "fnDropNote", inPlace := ["internal/bytealg.IndexByteString", "internal/bytealg.IndexString"], unfollowed := true, recurses := true, named := ["internal/bytealg.MaxLen"], apart := false, narrowed := true }
def FnDropNoteUptoSaid : Prop := fnDropNoteUptoRow.holds Try.pinned (OpenSpec.upto fnDropNoteSpec)

/-- 'laws.FnFoldParts', WHERE WHAT IT READS IS OF BULK AT MOST 1048576: true; the input reads as it did. -/
def fnFoldPartsUptoRow : OpenClaim := { program := "ytgobkfnmagcgcaa", sum := "804e0c152f96851204aef57b6a4f067db9533ab0e2efe8520865f8774263a6fd", func := "loop.example/g00501/laws.FnFoldParts", spec := "fnFoldParts", apart := false, narrowed := true }
def FnFoldPartsUptoSaid : Prop := fnFoldPartsUptoRow.holds Try.pinned (OpenSpec.upto fnFoldPartsSpec)

/-- 'laws.FnFollowed', WHERE WHAT IT READS IS OF BULK AT MOST 1048576: true; the input reads as it did. -/
def fnFollowedUptoRow : OpenClaim := { program := "ytgobkfnmagcgcaa", sum := "804e0c152f96851204aef57b6a4f067db9533ab0e2efe8520865f8774263a6fd", func := "loop.example/g00501/laws.FnFollowed", spec := "fnFollowed", inPlace := ["internal/bytealg.IndexByteString", "internal/bytealg.IndexString"], unfollowed := true, recurses := true, named := ["internal/bytealg.MaxLen"], apart := false, narrowed := true }
def FnFollowedUptoSaid : Prop := fnFollowedUptoRow.holds Try.pinned (OpenSpec.upto fnFollowedSpec)

end Rows
end Go.Proofs.Ytgobkfnmagcgcaa
