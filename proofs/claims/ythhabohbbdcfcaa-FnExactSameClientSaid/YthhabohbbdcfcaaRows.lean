/-
  No cell of these rows narrows 'for every input' (looked for: loops, veiled, ifaces, maps, wideKeys, modest, calm, conditions, laid).
  DERIVED. THE GIVEN ROWS OF THIS SEAT. 7 by the template 'for every input the law returns true; each argument reads behind the call as it read before'; 0 by the template 'total and deterministic' (their statements: YthhabohbbdcfcaaTotals.lean).
  GIVEN WITH THE SEED: the statements are not yours to turn. If you find one false, say at which input.
  Laid BY PROGRAM, IN A SANDBOX (cutbox-rows.mjs): the forced cells as the released guide's own fill.sh prints them over the translation 38628ab2551dc4eb… (all of the seat's roots in one cut). By AI agents, Wed Nov 11 2026. No macro, syntax, notation, axiom, sorry.
-/
import Derived.Test.YthhabohbbdcfcaaChecked
import GoSem.Claim
import GoSem.ClaimJoined
import GoSem.ClaimMapViews
import Derived.JoinedTies
import Derived.KernelRfl
namespace Go.Proofs.Ythhabohbbdcfcaa
/- THE CELL 'sum', in the pinned program and in every row, IS THE sha256 OF THE DUMP (.gsa) THAT YthhabohbbdcfcaaProg.lean LOADS. Nothing in Lean hashes anything: it is a label: what it is worth is what the hold of that sum in a sandbox is worth. -/
noncomputable def Try.pinned : Pinned := { name := "ythhabohbbdcfcaa", sum := "38628ab2551dc4ebc5e4d803c8fda272f01a74ecdbec818848c419188d2491ff", checked := Try.checked }
namespace Rows
def none {H : Type} : Left H := { results := [], args := [] }

/-- 'laws.FnExactEventOf': WHATEVER THE INPUT: true; the input reads as it did. -/
def fnExactEventOfSpec : ChangeSpec := { name := "fnExactEventOf", fn := fun _ => fun
  | [d] => { results := [.lit (.bool true)], args := [d] }
  | _ => none }
def fnExactEventOfRow : OpenClaim := { program := "ythhabohbbdcfcaa", sum := "38628ab2551dc4ebc5e4d803c8fda272f01a74ecdbec818848c419188d2491ff", func := "loop.example/g00501/laws.FnExactEventOf", spec := "fnExactEventOf", apart := false }
def FnExactEventOfSaid : Prop := fnExactEventOfRow.holds Try.pinned (OpenSpec.ofChange fnExactEventOfSpec)

/-- ITS FALSE NEIGHBOUR: 'it returns false'. Refute it at one input. -/
def fnExactEventOfWrong : ChangeSpec := { name := "fnExactEventOf", fn := fun _ => fun
  | [d] => { results := [.lit (.bool false)], args := [d] }
  | _ => none }
def FnExactEventOfWrongFalsely : Prop := fnExactEventOfRow.holds Try.pinned (OpenSpec.ofChange fnExactEventOfWrong)

/-- 'laws.FnExactSeqIn': WHATEVER THE INPUT: true; the input reads as it did. -/
def fnExactSeqInSpec : ChangeSpec := { name := "fnExactSeqIn", fn := fun _ => fun
  | [d1, d2] => { results := [.lit (.bool true)], args := [d1, d2] }
  | _ => none }
def fnExactSeqInRow : OpenClaim := { program := "ythhabohbbdcfcaa", sum := "38628ab2551dc4ebc5e4d803c8fda272f01a74ecdbec818848c419188d2491ff", func := "loop.example/g00501/laws.FnExactSeqIn", spec := "fnExactSeqIn", unfollowed := true, recurses := true, apart := false }
def FnExactSeqInSaid : Prop := fnExactSeqInRow.holds Try.pinned (OpenSpec.ofChange fnExactSeqInSpec)

/-- ITS FALSE NEIGHBOUR: 'it returns false'. Refute it at one input. -/
def fnExactSeqInWrong : ChangeSpec := { name := "fnExactSeqIn", fn := fun _ => fun
  | [d1, d2] => { results := [.lit (.bool false)], args := [d1, d2] }
  | _ => none }
def FnExactSeqInWrongFalsely : Prop := fnExactSeqInRow.holds Try.pinned (OpenSpec.ofChange fnExactSeqInWrong)

/-- 'laws.FnExactViewOk': WHATEVER THE INPUT: true; the input reads as it did. -/
def fnExactViewOkSpec : ChangeSpec := { name := "fnExactViewOk", fn := fun _ => fun
  | [d] => { results := [.lit (.bool true)], args := [d] }
  | _ => none }
def fnExactViewOkRow : OpenClaim := { program := "ythhabohbbdcfcaa", sum := "38628ab2551dc4ebc5e4d803c8fda272f01a74ecdbec818848c419188d2491ff", func := "loop.example/g00501/laws.FnExactViewOk", spec := "fnExactViewOk", apart := false }
def FnExactViewOkSaid : Prop := fnExactViewOkRow.holds Try.pinned (OpenSpec.ofChange fnExactViewOkSpec)

/-- ITS FALSE NEIGHBOUR: 'it returns false'. Refute it at one input. -/
def fnExactViewOkWrong : ChangeSpec := { name := "fnExactViewOk", fn := fun _ => fun
  | [d] => { results := [.lit (.bool false)], args := [d] }
  | _ => none }
def FnExactViewOkWrongFalsely : Prop := fnExactViewOkRow.holds Try.pinned (OpenSpec.ofChange fnExactViewOkWrong)

/-- 'laws.FnExactSameView': WHATEVER THE INPUT: true; the input reads as it did. -/
def fnExactSameViewSpec : ChangeSpec := { name := "fnExactSameView", fn := fun _ => fun
  | [d1, d2] => { results := [.lit (.bool true)], args := [d1, d2] }
  | _ => none }
def fnExactSameViewRow : OpenClaim := { program := "ythhabohbbdcfcaa", sum := "38628ab2551dc4ebc5e4d803c8fda272f01a74ecdbec818848c419188d2491ff", func := "loop.example/g00501/laws.FnExactSameView", spec := "fnExactSameView", apart := false }
def FnExactSameViewSaid : Prop := fnExactSameViewRow.holds Try.pinned (OpenSpec.ofChange fnExactSameViewSpec)

/-- ITS FALSE NEIGHBOUR: 'it returns false'. Refute it at one input. -/
def fnExactSameViewWrong : ChangeSpec := { name := "fnExactSameView", fn := fun _ => fun
  | [d1, d2] => { results := [.lit (.bool false)], args := [d1, d2] }
  | _ => none }
def FnExactSameViewWrongFalsely : Prop := fnExactSameViewRow.holds Try.pinned (OpenSpec.ofChange fnExactSameViewWrong)

/-- 'laws.FnExactFirstNote': WHATEVER THE INPUT: true; the input reads as it did. -/
def fnExactFirstNoteSpec : ChangeSpec := { name := "fnExactFirstNote", fn := fun _ => fun
  | [d1, d2, d3] => { results := [.lit (.bool true)], args := [d1, d2, d3] }
  | _ => none }
def fnExactFirstNoteRow : OpenClaim := { program := "ythhabohbbdcfcaa", sum := "38628ab2551dc4ebc5e4d803c8fda272f01a74ecdbec818848c419188d2491ff", func := "loop.example/g00501/laws.FnExactFirstNote", spec := "fnExactFirstNote", unfollowed := true, recurses := true, apart := false }
def FnExactFirstNoteSaid : Prop := fnExactFirstNoteRow.holds Try.pinned (OpenSpec.ofChange fnExactFirstNoteSpec)

/-- ITS FALSE NEIGHBOUR: 'it returns false'. Refute it at one input. -/
def fnExactFirstNoteWrong : ChangeSpec := { name := "fnExactFirstNote", fn := fun _ => fun
  | [d1, d2, d3] => { results := [.lit (.bool false)], args := [d1, d2, d3] }
  | _ => none }
def FnExactFirstNoteWrongFalsely : Prop := fnExactFirstNoteRow.holds Try.pinned (OpenSpec.ofChange fnExactFirstNoteWrong)

/-- 'laws.FnExactSameClient': WHATEVER THE INPUT: true; the input reads as it did. -/
def fnExactSameClientSpec : ChangeSpec := { name := "fnExactSameClient", fn := fun _ => fun
  | [d1, d2] => { results := [.lit (.bool true)], args := [d1, d2] }
  | _ => none }
def fnExactSameClientRow : OpenClaim := { program := "ythhabohbbdcfcaa", sum := "38628ab2551dc4ebc5e4d803c8fda272f01a74ecdbec818848c419188d2491ff", func := "loop.example/g00501/laws.FnExactSameClient", spec := "fnExactSameClient", apart := false }
def FnExactSameClientSaid : Prop := fnExactSameClientRow.holds Try.pinned (OpenSpec.ofChange fnExactSameClientSpec)

/-- ITS FALSE NEIGHBOUR: 'it returns false'. Refute it at one input. -/
def fnExactSameClientWrong : ChangeSpec := { name := "fnExactSameClient", fn := fun _ => fun
  | [d1, d2] => { results := [.lit (.bool false)], args := [d1, d2] }
  | _ => none }
def FnExactSameClientWrongFalsely : Prop := fnExactSameClientRow.holds Try.pinned (OpenSpec.ofChange fnExactSameClientWrong)

/-- 'laws.FnExactSameQueue': WHATEVER THE INPUT: true; the input reads as it did. -/
def fnExactSameQueueSpec : ChangeSpec := { name := "fnExactSameQueue", fn := fun _ => fun
  | [d1, d2] => { results := [.lit (.bool true)], args := [d1, d2] }
  | _ => none }
def fnExactSameQueueRow : OpenClaim := { program := "ythhabohbbdcfcaa", sum := "38628ab2551dc4ebc5e4d803c8fda272f01a74ecdbec818848c419188d2491ff", func := "loop.example/g00501/laws.FnExactSameQueue", spec := "fnExactSameQueue", apart := false }
def FnExactSameQueueSaid : Prop := fnExactSameQueueRow.holds Try.pinned (OpenSpec.ofChange fnExactSameQueueSpec)

/-- ITS FALSE NEIGHBOUR: 'it returns false'. Refute it at one input. -/
def fnExactSameQueueWrong : ChangeSpec := { name := "fnExactSameQueue", fn := fun _ => fun
  | [d1, d2] => { results := [.lit (.bool false)], args := [d1, d2] }
  | _ => none }
def FnExactSameQueueWrongFalsely : Prop := fnExactSameQueueRow.holds Try.pinned (OpenSpec.ofChange fnExactSameQueueWrong)

/- THE SECOND FORM. 'bulk': how many values and letters a reading holds, each counted each time it is reached (what is shared counts as often as it is met; a slice's spare places count too). A statement '..UptoSaid' is the law's where the arguments, and the package variables that the reading takes, are together of bulk at most 1048576: NARROWER than '..Said'. Prove '..Said' where nothing that the law and all that it calls make is longer than what came in: it says more and counts as full. Else prove '..UptoSaid'. A law counts once. -/
mutual
def uptoBulk {H : Type} : DataW H → Nat
  | .lit (.string bytes) => bytes.length + 1
  | .lit _ => 1
  | .nil => 1
  | .ptr d => uptoBulk d + 1
  | .slice elems spare => uptoBulkAll elems + uptoBulkAll spare + 1
  | .agg parts => uptoBulkAll parts + 1
  | .iface _ d => uptoBulk d + 1
  | .map entries => uptoBulkEntries entries + 1
  | .held _ => 1
def uptoBulkAll {H : Type} : List (DataW H) → Nat
  | [] => 0
  | d :: r => uptoBulk d + uptoBulkAll r
def uptoBulkEntries {H : Type} : List (Lit × DataW H) → Nat
  | [] => 0
  | x :: r => uptoBulkEntry x + uptoBulkEntries r
def uptoBulkEntry {H : Type} : Lit × DataW H → Nat
  | (.string bytes, d) => bytes.length + uptoBulk d + 1
  | (_, d) => uptoBulk d + 1
 end
def uptoSmall : (H : Type) → List (DataW H) → Bool := fun _ ds => decide (uptoBulkAll ds ≤ 1048576)
def OpenSpec.upto (s : _root_.Go.ChangeSpec) : _root_.Go.OpenSpec := { _root_.Go.OpenSpec.ofChange s with cond := some uptoSmall }

/-- 'laws.FnExactEventOf', WHERE WHAT IT READS IS OF BULK AT MOST 1048576: true; the input reads as it did. -/
def fnExactEventOfUptoRow : OpenClaim := { program := "ythhabohbbdcfcaa", sum := "38628ab2551dc4ebc5e4d803c8fda272f01a74ecdbec818848c419188d2491ff", func := "loop.example/g00501/laws.FnExactEventOf", spec := "fnExactEventOf", apart := false, narrowed := true }
def FnExactEventOfUptoSaid : Prop := fnExactEventOfUptoRow.holds Try.pinned (OpenSpec.upto fnExactEventOfSpec)

/-- 'laws.FnExactSeqIn', WHERE WHAT IT READS IS OF BULK AT MOST 1048576: true; the input reads as it did. -/
def fnExactSeqInUptoRow : OpenClaim := { program := "ythhabohbbdcfcaa", sum := "38628ab2551dc4ebc5e4d803c8fda272f01a74ecdbec818848c419188d2491ff", func := "loop.example/g00501/laws.FnExactSeqIn", spec := "fnExactSeqIn", unfollowed := true, recurses := true, apart := false, narrowed := true }
def FnExactSeqInUptoSaid : Prop := fnExactSeqInUptoRow.holds Try.pinned (OpenSpec.upto fnExactSeqInSpec)

/-- 'laws.FnExactViewOk', WHERE WHAT IT READS IS OF BULK AT MOST 1048576: true; the input reads as it did. -/
def fnExactViewOkUptoRow : OpenClaim := { program := "ythhabohbbdcfcaa", sum := "38628ab2551dc4ebc5e4d803c8fda272f01a74ecdbec818848c419188d2491ff", func := "loop.example/g00501/laws.FnExactViewOk", spec := "fnExactViewOk", apart := false, narrowed := true }
def FnExactViewOkUptoSaid : Prop := fnExactViewOkUptoRow.holds Try.pinned (OpenSpec.upto fnExactViewOkSpec)

/-- 'laws.FnExactSameView', WHERE WHAT IT READS IS OF BULK AT MOST 1048576: true; the input reads as it did. -/
def fnExactSameViewUptoRow : OpenClaim := { program := "ythhabohbbdcfcaa", sum := "38628ab2551dc4ebc5e4d803c8fda272f01a74ecdbec818848c419188d2491ff", func := "loop.example/g00501/laws.FnExactSameView", spec := "fnExactSameView", apart := false, narrowed := true }
def FnExactSameViewUptoSaid : Prop := fnExactSameViewUptoRow.holds Try.pinned (OpenSpec.upto fnExactSameViewSpec)

/-- 'laws.FnExactFirstNote', WHERE WHAT IT READS IS OF BULK AT MOST 1048576: true; the input reads as it did. -/
def fnExactFirstNoteUptoRow : OpenClaim := { program := "ythhabohbbdcfcaa", sum := "38628ab2551dc4ebc5e4d803c8fda272f01a74ecdbec818848c419188d2491ff", func := "loop.example/g00501/laws.FnExactFirstNote", spec := "fnExactFirstNote", unfollowed := true, recurses := true, apart := false, narrowed := true }
def FnExactFirstNoteUptoSaid : Prop := fnExactFirstNoteUptoRow.holds Try.pinned (OpenSpec.upto fnExactFirstNoteSpec)

/-- 'laws.FnExactSameClient', WHERE WHAT IT READS IS OF BULK AT MOST 1048576: true; the input reads as it did. -/
def fnExactSameClientUptoRow : OpenClaim := { program := "ythhabohbbdcfcaa", sum := "38628ab2551dc4ebc5e4d803c8fda272f01a74ecdbec818848c419188d2491ff", func := "loop.example/g00501/laws.FnExactSameClient", spec := "fnExactSameClient", apart := false, narrowed := true }
def FnExactSameClientUptoSaid : Prop := fnExactSameClientUptoRow.holds Try.pinned (OpenSpec.upto fnExactSameClientSpec)

/-- 'laws.FnExactSameQueue', WHERE WHAT IT READS IS OF BULK AT MOST 1048576: true; the input reads as it did. -/
def fnExactSameQueueUptoRow : OpenClaim := { program := "ythhabohbbdcfcaa", sum := "38628ab2551dc4ebc5e4d803c8fda272f01a74ecdbec818848c419188d2491ff", func := "loop.example/g00501/laws.FnExactSameQueue", spec := "fnExactSameQueue", apart := false, narrowed := true }
def FnExactSameQueueUptoSaid : Prop := fnExactSameQueueUptoRow.holds Try.pinned (OpenSpec.upto fnExactSameQueueSpec)

end Rows
end Go.Proofs.Ythhabohbbdcfcaa
