/-
  No cell of these rows narrows 'for every input' (looked for: loops, veiled, ifaces, maps, wideKeys, modest, calm, conditions, laid).
  DERIVED. THE GIVEN ROWS OF THIS SEAT. 7 by the template 'for every input the law returns true; each argument reads behind the call as it read before'; 0 by the template 'total and deterministic' (their statements: YtdigkaddmpdeoaaTotals.lean).
  GIVEN WITH THE SEED: the statements are not yours to turn. If you find one false, say at which input.
  Laid BY PROGRAM, IN A SANDBOX (cutbox-rows.mjs): the forced cells as the released guide's own fill.sh prints them over the translation 893ca15a5a5fdbaa… (all of the seat's roots in one cut). By AI agents, Wed Nov 11 2026. No macro, syntax, notation, axiom, sorry.
-/
import Derived.Test.YtdigkaddmpdeoaaChecked
import GoSem.Claim
import GoSem.ClaimJoined
import GoSem.ClaimMapViews
import Derived.JoinedTies
import Derived.KernelRfl
namespace Go.Proofs.Ytdigkaddmpdeoaa
/- THE CELL 'sum', in the pinned program and in every row, IS THE sha256 OF THE DUMP (.gsa) THAT YtdigkaddmpdeoaaProg.lean LOADS. Nothing in Lean hashes anything: it is a label: what it is worth is what the hold of that sum in a sandbox is worth. -/
noncomputable def Try.pinned : Pinned := { name := "ytdigkaddmpdeoaa", sum := "893ca15a5a5fdbaa84b75d75b6242c2013829af0d600b89fb514d14ff7512148", checked := Try.checked }
namespace Rows
def none {H : Type} : Left H := { results := [], args := [] }

/-- 'laws.FnExactSameStore': WHATEVER THE INPUT: true; the input reads as it did. -/
def fnExactSameStoreSpec : ChangeSpec := { name := "fnExactSameStore", fn := fun _ => fun
  | [d1, d2] => { results := [.lit (.bool true)], args := [d1, d2] }
  | _ => none }
def fnExactSameStoreRow : OpenClaim := { program := "ytdigkaddmpdeoaa", sum := "893ca15a5a5fdbaa84b75d75b6242c2013829af0d600b89fb514d14ff7512148", func := "loop.example/g00501/laws.FnExactSameStore", spec := "fnExactSameStore", unfollowed := true, recurses := true, apart := false }
def FnExactSameStoreSaid : Prop := fnExactSameStoreRow.holds Try.pinned (OpenSpec.ofChange fnExactSameStoreSpec)

/-- ITS FALSE NEIGHBOUR: 'it returns false'. Refute it at one input. -/
def fnExactSameStoreWrong : ChangeSpec := { name := "fnExactSameStore", fn := fun _ => fun
  | [d1, d2] => { results := [.lit (.bool false)], args := [d1, d2] }
  | _ => none }
def FnExactSameStoreWrongFalsely : Prop := fnExactSameStoreRow.holds Try.pinned (OpenSpec.ofChange fnExactSameStoreWrong)

/-- 'laws.FnExactCommitsOf': WHATEVER THE INPUT: true; the input reads as it did. -/
def fnExactCommitsOfSpec : ChangeSpec := { name := "fnExactCommitsOf", fn := fun _ => fun
  | [d1, d2, d3] => { results := [.lit (.bool true)], args := [d1, d2, d3] }
  | _ => none }
def fnExactCommitsOfRow : OpenClaim := { program := "ytdigkaddmpdeoaa", sum := "893ca15a5a5fdbaa84b75d75b6242c2013829af0d600b89fb514d14ff7512148", func := "loop.example/g00501/laws.FnExactCommitsOf", spec := "fnExactCommitsOf", apart := false }
def FnExactCommitsOfSaid : Prop := fnExactCommitsOfRow.holds Try.pinned (OpenSpec.ofChange fnExactCommitsOfSpec)

/-- ITS FALSE NEIGHBOUR: 'it returns false'. Refute it at one input. -/
def fnExactCommitsOfWrong : ChangeSpec := { name := "fnExactCommitsOf", fn := fun _ => fun
  | [d1, d2, d3] => { results := [.lit (.bool false)], args := [d1, d2, d3] }
  | _ => none }
def FnExactCommitsOfWrongFalsely : Prop := fnExactCommitsOfRow.holds Try.pinned (OpenSpec.ofChange fnExactCommitsOfWrong)

/-- 'laws.FnExactStoreNew': WHATEVER THE INPUT: true; the input reads as it did. -/
def fnExactStoreNewSpec : ChangeSpec := { name := "fnExactStoreNew", fn := fun _ => fun
  | [] => { results := [.lit (.bool true)], args := [] }
  | _ => none }
def fnExactStoreNewRow : OpenClaim := { program := "ytdigkaddmpdeoaa", sum := "893ca15a5a5fdbaa84b75d75b6242c2013829af0d600b89fb514d14ff7512148", func := "loop.example/g00501/laws.FnExactStoreNew", spec := "fnExactStoreNew", apart := false }
def FnExactStoreNewSaid : Prop := fnExactStoreNewRow.holds Try.pinned (OpenSpec.ofChange fnExactStoreNewSpec)

/-- ITS FALSE NEIGHBOUR: 'it returns false'. Refute it at one input. -/
def fnExactStoreNewWrong : ChangeSpec := { name := "fnExactStoreNew", fn := fun _ => fun
  | [] => { results := [.lit (.bool false)], args := [] }
  | _ => none }
def FnExactStoreNewWrongFalsely : Prop := fnExactStoreNewRow.holds Try.pinned (OpenSpec.ofChange fnExactStoreNewWrong)

/-- 'laws.FnExactApplies': WHATEVER THE INPUT: true; the input reads as it did. -/
def fnExactAppliesSpec : ChangeSpec := { name := "fnExactApplies", fn := fun _ => fun
  | [d1, d2] => { results := [.lit (.bool true)], args := [d1, d2] }
  | _ => none }
def fnExactAppliesRow : OpenClaim := { program := "ytdigkaddmpdeoaa", sum := "893ca15a5a5fdbaa84b75d75b6242c2013829af0d600b89fb514d14ff7512148", func := "loop.example/g00501/laws.FnExactApplies", spec := "fnExactApplies", inPlace := ["internal/bytealg.IndexByteString", "internal/bytealg.IndexString"], unfollowed := true, recurses := true, named := ["internal/bytealg.MaxLen"], apart := false }
def FnExactAppliesSaid : Prop := fnExactAppliesRow.holds Try.pinned (OpenSpec.ofChange fnExactAppliesSpec)

/-- ITS FALSE NEIGHBOUR: 'it returns false'. Refute it at one input. -/
def fnExactAppliesWrong : ChangeSpec := { name := "fnExactApplies", fn := fun _ => fun
  | [d1, d2] => { results := [.lit (.bool false)], args := [d1, d2] }
  | _ => none }
def FnExactAppliesWrongFalsely : Prop := fnExactAppliesRow.holds Try.pinned (OpenSpec.ofChange fnExactAppliesWrong)

/-- 'laws.FnAppliedAll': WHATEVER THE INPUT: true; the input reads as it did. -/
def fnAppliedAllSpec : ChangeSpec := { name := "fnAppliedAll", fn := fun _ => fun
  | [d] => { results := [.lit (.bool true)], args := [d] }
  | _ => none }
def fnAppliedAllRow : OpenClaim := { program := "ytdigkaddmpdeoaa", sum := "893ca15a5a5fdbaa84b75d75b6242c2013829af0d600b89fb514d14ff7512148", func := "loop.example/g00501/laws.FnAppliedAll", spec := "fnAppliedAll", inPlace := ["internal/bytealg.IndexByteString", "internal/bytealg.IndexString"], unfollowed := true, recurses := true, named := ["internal/bytealg.MaxLen"], apart := false }
def FnAppliedAllSaid : Prop := fnAppliedAllRow.holds Try.pinned (OpenSpec.ofChange fnAppliedAllSpec)

/-- ITS FALSE NEIGHBOUR: 'it returns false'. Refute it at one input. -/
def fnAppliedAllWrong : ChangeSpec := { name := "fnAppliedAll", fn := fun _ => fun
  | [d] => { results := [.lit (.bool false)], args := [d] }
  | _ => none }
def FnAppliedAllWrongFalsely : Prop := fnAppliedAllRow.holds Try.pinned (OpenSpec.ofChange fnAppliedAllWrong)

/-- 'laws.FnExactApplied': WHATEVER THE INPUT: true; the input reads as it did. -/
def fnExactAppliedSpec : ChangeSpec := { name := "fnExactApplied", fn := fun _ => fun
  | [d1, d2] => { results := [.lit (.bool true)], args := [d1, d2] }
  | _ => none }
def fnExactAppliedRow : OpenClaim := { program := "ytdigkaddmpdeoaa", sum := "893ca15a5a5fdbaa84b75d75b6242c2013829af0d600b89fb514d14ff7512148", func := "loop.example/g00501/laws.FnExactApplied", spec := "fnExactApplied", inPlace := ["internal/bytealg.IndexByteString", "internal/bytealg.IndexString"], unfollowed := true, recurses := true, named := ["internal/bytealg.MaxLen"], apart := false }
def FnExactAppliedSaid : Prop := fnExactAppliedRow.holds Try.pinned (OpenSpec.ofChange fnExactAppliedSpec)

/-- ITS FALSE NEIGHBOUR: 'it returns false'. Refute it at one input. -/
def fnExactAppliedWrong : ChangeSpec := { name := "fnExactApplied", fn := fun _ => fun
  | [d1, d2] => { results := [.lit (.bool false)], args := [d1, d2] }
  | _ => none }
def FnExactAppliedWrongFalsely : Prop := fnExactAppliedRow.holds Try.pinned (OpenSpec.ofChange fnExactAppliedWrong)

/-- 'laws.FnExactAppliedAll': WHATEVER THE INPUT: true; the input reads as it did. -/
def fnExactAppliedAllSpec : ChangeSpec := { name := "fnExactAppliedAll", fn := fun _ => fun
  | [d1, d2] => { results := [.lit (.bool true)], args := [d1, d2] }
  | _ => none }
def fnExactAppliedAllRow : OpenClaim := { program := "ytdigkaddmpdeoaa", sum := "893ca15a5a5fdbaa84b75d75b6242c2013829af0d600b89fb514d14ff7512148", func := "loop.example/g00501/laws.FnExactAppliedAll", spec := "fnExactAppliedAll", inPlace := ["internal/bytealg.IndexByteString", "internal/bytealg.IndexString"], unfollowed := true, recurses := true, named := ["internal/bytealg.MaxLen"], apart := false }
def FnExactAppliedAllSaid : Prop := fnExactAppliedAllRow.holds Try.pinned (OpenSpec.ofChange fnExactAppliedAllSpec)

/-- ITS FALSE NEIGHBOUR: 'it returns false'. Refute it at one input. -/
def fnExactAppliedAllWrong : ChangeSpec := { name := "fnExactAppliedAll", fn := fun _ => fun
  | [d1, d2] => { results := [.lit (.bool false)], args := [d1, d2] }
  | _ => none }
def FnExactAppliedAllWrongFalsely : Prop := fnExactAppliedAllRow.holds Try.pinned (OpenSpec.ofChange fnExactAppliedAllWrong)

/- THE SECOND FORM. 'bulk': how many values and letters a reading holds, each counted each time it is reached (what is shared counts as often as it is met; a slice's spare places count too). A statement '..UptoSaid' is the law's where the arguments, and the package variables that the reading takes, are together of bulk at most 1048576: NARROWER than '..Said'. Prove '..Said' where nothing that the law and all that it calls make is longer than what came in: it says more and counts as full. Else prove '..UptoSaid'. A law counts once. -/
mutual
def uptoBulk {H : Type} : DataW H → Nat
  | .lit (.string bytes) => bytes.length + 1
  | .lit _ => 1
  | .nil => 1
  | .ptr d => uptoBulk d + 1
  | .slice elems spare => uptoBulkAll elems + uptoBulkAll spare + 1
  | .agg parts => uptoBulkAll parts + 1
  | .iface _ d => uptoBulk d + 1
  | .map entries => uptoBulkEntries entries + 1
  | .held _ => 1
def uptoBulkAll {H : Type} : List (DataW H) → Nat
  | [] => 0
  | d :: r => uptoBulk d + uptoBulkAll r
def uptoBulkEntries {H : Type} : List (Lit × DataW H) → Nat
  | [] => 0
  | x :: r => uptoBulkEntry x + uptoBulkEntries r
def uptoBulkEntry {H : Type} : Lit × DataW H → Nat
  | (.string bytes, d) => bytes.length + uptoBulk d + 1
  | (_, d) => uptoBulk d + 1
 end
def uptoSmall : (H : Type) → List (DataW H) → Bool := fun _ ds => decide (uptoBulkAll ds ≤ 1048576)
def OpenSpec.upto (s : _root_.Go.ChangeSpec) : _root_.Go.OpenSpec := { _root_.Go.OpenSpec.ofChange s with cond := some uptoSmall }

/-- 'laws.FnExactSameStore', WHERE WHAT IT READS IS OF BULK AT MOST 1048576: true; the input reads as it did. -/
def fnExactSameStoreUptoRow : OpenClaim := { program := "ytdigkaddmpdeoaa", sum := "893ca15a5a5fdbaa84b75d75b6242c2013829af0d600b89fb514d14ff7512148", func := "loop.example/g00501/laws.FnExactSameStore", spec := "fnExactSameStore", unfollowed := true, recurses := true, apart := false, narrowed := true }
def FnExactSameStoreUptoSaid : Prop := fnExactSameStoreUptoRow.holds Try.pinned (OpenSpec.upto fnExactSameStoreSpec)

/-- 'laws.FnExactCommitsOf', WHERE WHAT IT READS IS OF BULK AT MOST 1048576: true; the input reads as it did. -/
def fnExactCommitsOfUptoRow : OpenClaim := { program := "ytdigkaddmpdeoaa", sum := "893ca15a5a5fdbaa84b75d75b6242c2013829af0d600b89fb514d14ff7512148", func := "loop.example/g00501/laws.FnExactCommitsOf", spec := "fnExactCommitsOf", apart := false, narrowed := true }
def FnExactCommitsOfUptoSaid : Prop := fnExactCommitsOfUptoRow.holds Try.pinned (OpenSpec.upto fnExactCommitsOfSpec)

/-- 'laws.FnExactStoreNew', WHERE WHAT IT READS IS OF BULK AT MOST 1048576: true; the input reads as it did. -/
def fnExactStoreNewUptoRow : OpenClaim := { program := "ytdigkaddmpdeoaa", sum := "893ca15a5a5fdbaa84b75d75b6242c2013829af0d600b89fb514d14ff7512148", func := "loop.example/g00501/laws.FnExactStoreNew", spec := "fnExactStoreNew", apart := false, narrowed := true }
def FnExactStoreNewUptoSaid : Prop := fnExactStoreNewUptoRow.holds Try.pinned (OpenSpec.upto fnExactStoreNewSpec)

/-- 'laws.FnExactApplies', WHERE WHAT IT READS IS OF BULK AT MOST 1048576: true; the input reads as it did. -/
def fnExactAppliesUptoRow : OpenClaim := { program := "ytdigkaddmpdeoaa", sum := "893ca15a5a5fdbaa84b75d75b6242c2013829af0d600b89fb514d14ff7512148", func := "loop.example/g00501/laws.FnExactApplies", spec := "fnExactApplies", inPlace := ["internal/bytealg.IndexByteString", "internal/bytealg.IndexString"], unfollowed := true, recurses := true, named := ["internal/bytealg.MaxLen"], apart := false, narrowed := true }
def FnExactAppliesUptoSaid : Prop := fnExactAppliesUptoRow.holds Try.pinned (OpenSpec.upto fnExactAppliesSpec)

/-- 'laws.FnAppliedAll', WHERE WHAT IT READS IS OF BULK AT MOST 1048576: true; the input reads as it did. -/
def fnAppliedAllUptoRow : OpenClaim := { program := "ytdigkaddmpdeoaa", sum := "893ca15a5a5fdbaa84b75d75b6242c2013829af0d600b89fb514d14ff7512148", func := "loop.example/g00501/laws.FnAppliedAll", spec := "fnAppliedAll", inPlace := ["internal/bytealg.IndexByteString", "internal/bytealg.IndexString"], unfollowed := true, recurses := true, named := ["internal/bytealg.MaxLen"], apart := false, narrowed := true }
def FnAppliedAllUptoSaid : Prop := fnAppliedAllUptoRow.holds Try.pinned (OpenSpec.upto fnAppliedAllSpec)

/-- 'laws.FnExactApplied', WHERE WHAT IT READS IS OF BULK AT MOST 1048576: true; the input reads as it did. -/
def fnExactAppliedUptoRow : OpenClaim := { program := "ytdigkaddmpdeoaa", sum := "893ca15a5a5fdbaa84b75d75b6242c2013829af0d600b89fb514d14ff7512148", func := "loop.example/g00501/laws.FnExactApplied", spec := "fnExactApplied", inPlace := ["internal/bytealg.IndexByteString", "internal/bytealg.IndexString"], unfollowed := true, recurses := true, named := ["internal/bytealg.MaxLen"], apart := false, narrowed := true }
def FnExactAppliedUptoSaid : Prop := fnExactAppliedUptoRow.holds Try.pinned (OpenSpec.upto fnExactAppliedSpec)

/-- 'laws.FnExactAppliedAll', WHERE WHAT IT READS IS OF BULK AT MOST 1048576: true; the input reads as it did. -/
def fnExactAppliedAllUptoRow : OpenClaim := { program := "ytdigkaddmpdeoaa", sum := "893ca15a5a5fdbaa84b75d75b6242c2013829af0d600b89fb514d14ff7512148", func := "loop.example/g00501/laws.FnExactAppliedAll", spec := "fnExactAppliedAll", inPlace := ["internal/bytealg.IndexByteString", "internal/bytealg.IndexString"], unfollowed := true, recurses := true, named := ["internal/bytealg.MaxLen"], apart := false, narrowed := true }
def FnExactAppliedAllUptoSaid : Prop := fnExactAppliedAllUptoRow.holds Try.pinned (OpenSpec.upto fnExactAppliedAllSpec)

end Rows
end Go.Proofs.Ytdigkaddmpdeoaa
