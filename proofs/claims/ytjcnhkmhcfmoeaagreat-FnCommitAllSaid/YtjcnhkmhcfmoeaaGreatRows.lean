/-
  No cell of these rows narrows 'for every input' (looked for: loops, veiled, ifaces, maps, wideKeys, modest, calm, conditions, laid).
  DERIVED. THE GIVEN ROWS OF THIS SEAT. 9 by the template 'for every input the law returns true; each argument reads behind the call as it read before'; 0 by the template 'total and deterministic' (their statements: YtjcnhkmhcfmoeaaGreatTotals.lean).
  GIVEN WITH THE SEED: the statements are not yours to turn. If you find one false, say at which input.
  Laid BY PROGRAM, IN A SANDBOX (cutbox-rows.mjs): the forced cells as the released guide's own fill.sh prints them over the translation 1796ca1f28b1544f… (all of the seat's roots in one cut). By AI agents, Wed Nov 11 2026. No macro, syntax, notation, axiom, sorry.
-/
import Derived.Test.YtjcnhkmhcfmoeaaGreatChecked
import GoSem.Claim
import GoSem.ClaimJoined
import GoSem.ClaimMapViews
import Derived.JoinedTies
import Derived.KernelRfl
namespace Go.Proofs.YtjcnhkmhcfmoeaaGreat
/- THE CELL 'sum', in the pinned program and in every row, IS THE sha256 OF THE DUMP (.gsa) THAT YtjcnhkmhcfmoeaaGreatProg.lean LOADS. Nothing in Lean hashes anything: it is a label: what it is worth is what the hold of that sum in a sandbox is worth. -/
noncomputable def Tryz.pinned : Pinned := { name := "ytjcnhkmhcfmoeaagreat", sum := "1796ca1f28b1544f66077da7839d0f9ab10ddf72f204d5690622a86da113709d", checked := Tryz.checked }
namespace Rows
def none {H : Type} : Left H := { results := [], args := [] }

/-- 'laws.FnCommitAll': WHATEVER THE INPUT: true; the input reads as it did. -/
def fnCommitAllSpec : ChangeSpec := { name := "fnCommitAll", fn := fun _ => fun
  | [d] => { results := [.lit (.bool true)], args := [d] }
  | _ => none }
def fnCommitAllRow : OpenClaim := { program := "ytjcnhkmhcfmoeaagreat", sum := "1796ca1f28b1544f66077da7839d0f9ab10ddf72f204d5690622a86da113709d", func := "loop.example/g00501/laws.FnCommitAll", spec := "fnCommitAll", inPlace := ["internal/bytealg.IndexByteString", "internal/bytealg.IndexString"], unfollowed := true, recurses := true, named := ["internal/bytealg.MaxLen"], apart := false }
def FnCommitAllSaid : Prop := fnCommitAllRow.holds Tryz.pinned (OpenSpec.ofChange fnCommitAllSpec)

/-- ITS FALSE NEIGHBOUR: 'it returns false'. Refute it at one input. -/
def fnCommitAllWrong : ChangeSpec := { name := "fnCommitAll", fn := fun _ => fun
  | [d] => { results := [.lit (.bool false)], args := [d] }
  | _ => none }
def FnCommitAllWrongFalsely : Prop := fnCommitAllRow.holds Tryz.pinned (OpenSpec.ofChange fnCommitAllWrong)

/-- 'laws.FnStore': WHATEVER THE INPUT: true; the input reads as it did. -/
def fnStoreSpec : ChangeSpec := { name := "fnStore", fn := fun _ => fun
  | [d] => { results := [.lit (.bool true)], args := [d] }
  | _ => none }
def fnStoreRow : OpenClaim := { program := "ytjcnhkmhcfmoeaagreat", sum := "1796ca1f28b1544f66077da7839d0f9ab10ddf72f204d5690622a86da113709d", func := "loop.example/g00501/laws.FnStore", spec := "fnStore", inPlace := ["internal/bytealg.IndexByteString", "internal/bytealg.IndexString"], unfollowed := true, recurses := true, named := ["internal/bytealg.MaxLen"], apart := false }
def FnStoreSaid : Prop := fnStoreRow.holds Tryz.pinned (OpenSpec.ofChange fnStoreSpec)

/-- ITS FALSE NEIGHBOUR: 'it returns false'. Refute it at one input. -/
def fnStoreWrong : ChangeSpec := { name := "fnStore", fn := fun _ => fun
  | [d] => { results := [.lit (.bool false)], args := [d] }
  | _ => none }
def FnStoreWrongFalsely : Prop := fnStoreRow.holds Tryz.pinned (OpenSpec.ofChange fnStoreWrong)

/-- 'laws.FnCommitted': WHATEVER THE INPUT: true; the input reads as it did. -/
def fnCommittedSpec : ChangeSpec := { name := "fnCommitted", fn := fun _ => fun
  | [d] => { results := [.lit (.bool true)], args := [d] }
  | _ => none }
def fnCommittedRow : OpenClaim := { program := "ytjcnhkmhcfmoeaagreat", sum := "1796ca1f28b1544f66077da7839d0f9ab10ddf72f204d5690622a86da113709d", func := "loop.example/g00501/laws.FnCommitted", spec := "fnCommitted", inPlace := ["internal/bytealg.IndexByteString", "internal/bytealg.IndexString"], unfollowed := true, recurses := true, named := ["internal/bytealg.MaxLen"], apart := false }
def FnCommittedSaid : Prop := fnCommittedRow.holds Tryz.pinned (OpenSpec.ofChange fnCommittedSpec)

/-- ITS FALSE NEIGHBOUR: 'it returns false'. Refute it at one input. -/
def fnCommittedWrong : ChangeSpec := { name := "fnCommitted", fn := fun _ => fun
  | [d] => { results := [.lit (.bool false)], args := [d] }
  | _ => none }
def FnCommittedWrongFalsely : Prop := fnCommittedRow.holds Tryz.pinned (OpenSpec.ofChange fnCommittedWrong)

/-- 'laws.FnCommitsOf': WHATEVER THE INPUT: true; the input reads as it did. -/
def fnCommitsOfSpec : ChangeSpec := { name := "fnCommitsOf", fn := fun _ => fun
  | [d] => { results := [.lit (.bool true)], args := [d] }
  | _ => none }
def fnCommitsOfRow : OpenClaim := { program := "ytjcnhkmhcfmoeaagreat", sum := "1796ca1f28b1544f66077da7839d0f9ab10ddf72f204d5690622a86da113709d", func := "loop.example/g00501/laws.FnCommitsOf", spec := "fnCommitsOf", inPlace := ["internal/bytealg.IndexByteString", "internal/bytealg.IndexString"], unfollowed := true, recurses := true, named := ["internal/bytealg.MaxLen"], apart := false }
def FnCommitsOfSaid : Prop := fnCommitsOfRow.holds Tryz.pinned (OpenSpec.ofChange fnCommitsOfSpec)

/-- ITS FALSE NEIGHBOUR: 'it returns false'. Refute it at one input. -/
def fnCommitsOfWrong : ChangeSpec := { name := "fnCommitsOf", fn := fun _ => fun
  | [d] => { results := [.lit (.bool false)], args := [d] }
  | _ => none }
def FnCommitsOfWrongFalsely : Prop := fnCommitsOfRow.holds Tryz.pinned (OpenSpec.ofChange fnCommitsOfWrong)

/-- 'laws.FnPutMsg': WHATEVER THE INPUT: true; the input reads as it did. -/
def fnPutMsgSpec : ChangeSpec := { name := "fnPutMsg", fn := fun _ => fun
  | [d] => { results := [.lit (.bool true)], args := [d] }
  | _ => none }
def fnPutMsgRow : OpenClaim := { program := "ytjcnhkmhcfmoeaagreat", sum := "1796ca1f28b1544f66077da7839d0f9ab10ddf72f204d5690622a86da113709d", func := "loop.example/g00501/laws.FnPutMsg", spec := "fnPutMsg", inPlace := ["internal/bytealg.IndexByteString", "internal/bytealg.IndexString"], unfollowed := true, recurses := true, named := ["internal/bytealg.MaxLen"], apart := false }
def FnPutMsgSaid : Prop := fnPutMsgRow.holds Tryz.pinned (OpenSpec.ofChange fnPutMsgSpec)

/-- ITS FALSE NEIGHBOUR: 'it returns false'. Refute it at one input. -/
def fnPutMsgWrong : ChangeSpec := { name := "fnPutMsg", fn := fun _ => fun
  | [d] => { results := [.lit (.bool false)], args := [d] }
  | _ => none }
def FnPutMsgWrongFalsely : Prop := fnPutMsgRow.holds Tryz.pinned (OpenSpec.ofChange fnPutMsgWrong)

/-- 'laws.FnPurge': WHATEVER THE INPUT: true; the input reads as it did. -/
def fnPurgeSpec : ChangeSpec := { name := "fnPurge", fn := fun _ => fun
  | [d] => { results := [.lit (.bool true)], args := [d] }
  | _ => none }
def fnPurgeRow : OpenClaim := { program := "ytjcnhkmhcfmoeaagreat", sum := "1796ca1f28b1544f66077da7839d0f9ab10ddf72f204d5690622a86da113709d", func := "loop.example/g00501/laws.FnPurge", spec := "fnPurge", inPlace := ["internal/bytealg.IndexByteString", "internal/bytealg.IndexString"], unfollowed := true, recurses := true, named := ["internal/bytealg.MaxLen"], apart := false }
def FnPurgeSaid : Prop := fnPurgeRow.holds Tryz.pinned (OpenSpec.ofChange fnPurgeSpec)

/-- ITS FALSE NEIGHBOUR: 'it returns false'. Refute it at one input. -/
def fnPurgeWrong : ChangeSpec := { name := "fnPurge", fn := fun _ => fun
  | [d] => { results := [.lit (.bool false)], args := [d] }
  | _ => none }
def FnPurgeWrongFalsely : Prop := fnPurgeRow.holds Tryz.pinned (OpenSpec.ofChange fnPurgeWrong)

/-- 'laws.FnCopy': WHATEVER THE INPUT: true; the input reads as it did. -/
def fnCopySpec : ChangeSpec := { name := "fnCopy", fn := fun _ => fun
  | [d] => { results := [.lit (.bool true)], args := [d] }
  | _ => none }
def fnCopyRow : OpenClaim := { program := "ytjcnhkmhcfmoeaagreat", sum := "1796ca1f28b1544f66077da7839d0f9ab10ddf72f204d5690622a86da113709d", func := "loop.example/g00501/laws.FnCopy", spec := "fnCopy", inPlace := ["internal/bytealg.IndexByteString", "internal/bytealg.IndexString"], unfollowed := true, recurses := true, named := ["internal/bytealg.MaxLen"], apart := false }
def FnCopySaid : Prop := fnCopyRow.holds Tryz.pinned (OpenSpec.ofChange fnCopySpec)

/-- ITS FALSE NEIGHBOUR: 'it returns false'. Refute it at one input. -/
def fnCopyWrong : ChangeSpec := { name := "fnCopy", fn := fun _ => fun
  | [d] => { results := [.lit (.bool false)], args := [d] }
  | _ => none }
def FnCopyWrongFalsely : Prop := fnCopyRow.holds Tryz.pinned (OpenSpec.ofChange fnCopyWrong)

/-- 'laws.FnOps': WHATEVER THE INPUT: true; the input reads as it did. -/
def fnOpsSpec : ChangeSpec := { name := "fnOps", fn := fun _ => fun
  | [d] => { results := [.lit (.bool true)], args := [d] }
  | _ => none }
def fnOpsRow : OpenClaim := { program := "ytjcnhkmhcfmoeaagreat", sum := "1796ca1f28b1544f66077da7839d0f9ab10ddf72f204d5690622a86da113709d", func := "loop.example/g00501/laws.FnOps", spec := "fnOps", inPlace := ["internal/bytealg.IndexByteString", "internal/bytealg.IndexString"], unfollowed := true, recurses := true, named := ["internal/bytealg.MaxLen"], apart := false }
def FnOpsSaid : Prop := fnOpsRow.holds Tryz.pinned (OpenSpec.ofChange fnOpsSpec)

/-- ITS FALSE NEIGHBOUR: 'it returns false'. Refute it at one input. -/
def fnOpsWrong : ChangeSpec := { name := "fnOps", fn := fun _ => fun
  | [d] => { results := [.lit (.bool false)], args := [d] }
  | _ => none }
def FnOpsWrongFalsely : Prop := fnOpsRow.holds Tryz.pinned (OpenSpec.ofChange fnOpsWrong)

/-- 'laws.FnSetFlags': WHATEVER THE INPUT: true; the input reads as it did. -/
def fnSetFlagsSpec : ChangeSpec := { name := "fnSetFlags", fn := fun _ => fun
  | [d] => { results := [.lit (.bool true)], args := [d] }
  | _ => none }
def fnSetFlagsRow : OpenClaim := { program := "ytjcnhkmhcfmoeaagreat", sum := "1796ca1f28b1544f66077da7839d0f9ab10ddf72f204d5690622a86da113709d", func := "loop.example/g00501/laws.FnSetFlags", spec := "fnSetFlags", inPlace := ["internal/bytealg.IndexByteString", "internal/bytealg.IndexString"], unfollowed := true, recurses := true, named := ["internal/bytealg.MaxLen"], apart := false }
def FnSetFlagsSaid : Prop := fnSetFlagsRow.holds Tryz.pinned (OpenSpec.ofChange fnSetFlagsSpec)

/-- ITS FALSE NEIGHBOUR: 'it returns false'. Refute it at one input. -/
def fnSetFlagsWrong : ChangeSpec := { name := "fnSetFlags", fn := fun _ => fun
  | [d] => { results := [.lit (.bool false)], args := [d] }
  | _ => none }
def FnSetFlagsWrongFalsely : Prop := fnSetFlagsRow.holds Tryz.pinned (OpenSpec.ofChange fnSetFlagsWrong)

/- THE SECOND FORM. 'bulk': how many values and letters a reading holds, each counted each time it is reached (what is shared counts as often as it is met; a slice's spare places count too). A statement '..UptoSaid' is the law's where the arguments, and the package variables that the reading takes, are together of bulk at most 1048576: NARROWER than '..Said'. Prove '..Said' where nothing that the law and all that it calls make is longer than what came in: it says more and counts as full. Else prove '..UptoSaid'. A law counts once. -/
mutual
def uptoBulk {H : Type} : DataW H → Nat
  | .lit (.string bytes) => bytes.length + 1
  | .lit _ => 1
  | .nil => 1
  | .ptr d => uptoBulk d + 1
  | .slice elems spare => uptoBulkAll elems + uptoBulkAll spare + 1
  | .agg parts => uptoBulkAll parts + 1
  | .iface _ d => uptoBulk d + 1
  | .map entries => uptoBulkEntries entries + 1
  | .held _ => 1
def uptoBulkAll {H : Type} : List (DataW H) → Nat
  | [] => 0
  | d :: r => uptoBulk d + uptoBulkAll r
def uptoBulkEntries {H : Type} : List (Lit × DataW H) → Nat
  | [] => 0
  | x :: r => uptoBulkEntry x + uptoBulkEntries r
def uptoBulkEntry {H : Type} : Lit × DataW H → Nat
  | (.string bytes, d) => bytes.length + uptoBulk d + 1
  | (_, d) => uptoBulk d + 1
 end
def uptoSmall : (H : Type) → List (DataW H) → Bool := fun _ ds => decide (uptoBulkAll ds ≤ 1048576)
def OpenSpec.upto (s : _root_.Go.ChangeSpec) : _root_.Go.OpenSpec := { _root_.Go.OpenSpec.ofChange s with cond := some uptoSmall }

/-- 'laws.FnCommitAll', WHERE WHAT IT READS IS OF BULK AT MOST 1048576: true; the input reads as it did. -/
def fnCommitAllUptoRow : OpenClaim := { program := "ytjcnhkmhcfmoeaagreat", sum := "1796ca1f28b1544f66077da7839d0f9ab10ddf72f204d5690622a86da113709d", func := "loop.example/g00501/laws.FnCommitAll", spec := "fnCommitAll", inPlace := ["internal/bytealg.IndexByteString", "internal/bytealg.IndexString"], unfollowed := true, recurses := true, named := ["internal/bytealg.MaxLen"], apart := false, narrowed := true }
def FnCommitAllUptoSaid : Prop := fnCommitAllUptoRow.holds Tryz.pinned (OpenSpec.upto fnCommitAllSpec)

/-- 'laws.FnStore', WHERE WHAT IT READS IS OF BULK AT MOST 1048576: true; the input reads as it did. -/
def fnStoreUptoRow : OpenClaim := { program := "ytjcnhkmhcfmoeaagreat", sum := "1796ca1f28b1544f66077da7839d0f9ab10ddf72f204d5690622a86da113709d", func := "loop.example/g00501/laws.FnStore", spec := "fnStore", inPlace := ["internal/bytealg.IndexByteString", "internal/bytealg.IndexString"], unfollowed := true, recurses := true, named := ["internal/bytealg.MaxLen"], apart := false, narrowed := true }
def FnStoreUptoSaid : Prop := fnStoreUptoRow.holds Tryz.pinned (OpenSpec.upto fnStoreSpec)

/-- 'laws.FnCommitted', WHERE WHAT IT READS IS OF BULK AT MOST 1048576: true; the input reads as it did. -/
def fnCommittedUptoRow : OpenClaim := { program := "ytjcnhkmhcfmoeaagreat", sum := "1796ca1f28b1544f66077da7839d0f9ab10ddf72f204d5690622a86da113709d", func := "loop.example/g00501/laws.FnCommitted", spec := "fnCommitted", inPlace := ["internal/bytealg.IndexByteString", "internal/bytealg.IndexString"], unfollowed := true, recurses := true, named := ["internal/bytealg.MaxLen"], apart := false, narrowed := true }
def FnCommittedUptoSaid : Prop := fnCommittedUptoRow.holds Tryz.pinned (OpenSpec.upto fnCommittedSpec)

/-- 'laws.FnCommitsOf', WHERE WHAT IT READS IS OF BULK AT MOST 1048576: true; the input reads as it did. -/
def fnCommitsOfUptoRow : OpenClaim := { program := "ytjcnhkmhcfmoeaagreat", sum := "1796ca1f28b1544f66077da7839d0f9ab10ddf72f204d5690622a86da113709d", func := "loop.example/g00501/laws.FnCommitsOf", spec := "fnCommitsOf", inPlace := ["internal/bytealg.IndexByteString", "internal/bytealg.IndexString"], unfollowed := true, recurses := true, named := ["internal/bytealg.MaxLen"], apart := false, narrowed := true }
def FnCommitsOfUptoSaid : Prop := fnCommitsOfUptoRow.holds Tryz.pinned (OpenSpec.upto fnCommitsOfSpec)

/-- 'laws.FnPutMsg', WHERE WHAT IT READS IS OF BULK AT MOST 1048576: true; the input reads as it did. -/
def fnPutMsgUptoRow : OpenClaim := { program := "ytjcnhkmhcfmoeaagreat", sum := "1796ca1f28b1544f66077da7839d0f9ab10ddf72f204d5690622a86da113709d", func := "loop.example/g00501/laws.FnPutMsg", spec := "fnPutMsg", inPlace := ["internal/bytealg.IndexByteString", "internal/bytealg.IndexString"], unfollowed := true, recurses := true, named := ["internal/bytealg.MaxLen"], apart := false, narrowed := true }
def FnPutMsgUptoSaid : Prop := fnPutMsgUptoRow.holds Tryz.pinned (OpenSpec.upto fnPutMsgSpec)

/-- 'laws.FnPurge', WHERE WHAT IT READS IS OF BULK AT MOST 1048576: true; the input reads as it did. -/
def fnPurgeUptoRow : OpenClaim := { program := "ytjcnhkmhcfmoeaagreat", sum := "1796ca1f28b1544f66077da7839d0f9ab10ddf72f204d5690622a86da113709d", func := "loop.example/g00501/laws.FnPurge", spec := "fnPurge", inPlace := ["internal/bytealg.IndexByteString", "internal/bytealg.IndexString"], unfollowed := true, recurses := true, named := ["internal/bytealg.MaxLen"], apart := false, narrowed := true }
def FnPurgeUptoSaid : Prop := fnPurgeUptoRow.holds Tryz.pinned (OpenSpec.upto fnPurgeSpec)

/-- 'laws.FnCopy', WHERE WHAT IT READS IS OF BULK AT MOST 1048576: true; the input reads as it did. -/
def fnCopyUptoRow : OpenClaim := { program := "ytjcnhkmhcfmoeaagreat", sum := "1796ca1f28b1544f66077da7839d0f9ab10ddf72f204d5690622a86da113709d", func := "loop.example/g00501/laws.FnCopy", spec := "fnCopy", inPlace := ["internal/bytealg.IndexByteString", "internal/bytealg.IndexString"], unfollowed := true, recurses := true, named := ["internal/bytealg.MaxLen"], apart := false, narrowed := true }
def FnCopyUptoSaid : Prop := fnCopyUptoRow.holds Tryz.pinned (OpenSpec.upto fnCopySpec)

/-- 'laws.FnOps', WHERE WHAT IT READS IS OF BULK AT MOST 1048576: true; the input reads as it did. -/
def fnOpsUptoRow : OpenClaim := { program := "ytjcnhkmhcfmoeaagreat", sum := "1796ca1f28b1544f66077da7839d0f9ab10ddf72f204d5690622a86da113709d", func := "loop.example/g00501/laws.FnOps", spec := "fnOps", inPlace := ["internal/bytealg.IndexByteString", "internal/bytealg.IndexString"], unfollowed := true, recurses := true, named := ["internal/bytealg.MaxLen"], apart := false, narrowed := true }
def FnOpsUptoSaid : Prop := fnOpsUptoRow.holds Tryz.pinned (OpenSpec.upto fnOpsSpec)

/-- 'laws.FnSetFlags', WHERE WHAT IT READS IS OF BULK AT MOST 1048576: true; the input reads as it did. -/
def fnSetFlagsUptoRow : OpenClaim := { program := "ytjcnhkmhcfmoeaagreat", sum := "1796ca1f28b1544f66077da7839d0f9ab10ddf72f204d5690622a86da113709d", func := "loop.example/g00501/laws.FnSetFlags", spec := "fnSetFlags", inPlace := ["internal/bytealg.IndexByteString", "internal/bytealg.IndexString"], unfollowed := true, recurses := true, named := ["internal/bytealg.MaxLen"], apart := false, narrowed := true }
def FnSetFlagsUptoSaid : Prop := fnSetFlagsUptoRow.holds Tryz.pinned (OpenSpec.upto fnSetFlagsSpec)

end Rows
end Go.Proofs.YtjcnhkmhcfmoeaaGreat
