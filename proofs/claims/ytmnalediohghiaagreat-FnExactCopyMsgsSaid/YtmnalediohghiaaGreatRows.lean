/-
  No cell of these rows narrows 'for every input' (looked for: loops, veiled, ifaces, maps, wideKeys, modest, calm, conditions, laid).
  DERIVED. THE GIVEN ROWS OF THIS SEAT. 7 by the template 'for every input the law returns true; each argument reads behind the call as it read before'; 0 by the template 'total and deterministic' (their statements: YtmnalediohghiaaGreatTotals.lean).
  GIVEN WITH THE SEED: the statements are not yours to turn. If you find one false, say at which input.
  Laid BY PROGRAM, IN A SANDBOX (cutbox-rows.mjs): the forced cells as the released guide's own fill.sh prints them over the translation 8761c12ac2ce3b58… (all of the seat's roots in one cut). By AI agents, Wed Nov 11 2026. No macro, syntax, notation, axiom, sorry.
-/
import Derived.Test.YtmnalediohghiaaGreatChecked
import GoSem.Claim
import GoSem.ClaimJoined
import GoSem.ClaimMapViews
import Derived.JoinedTies
import Derived.KernelRfl
namespace Go.Proofs.YtmnalediohghiaaGreat
/- THE CELL 'sum', in the pinned program and in every row, IS THE sha256 OF THE DUMP (.gsa) THAT YtmnalediohghiaaGreatProg.lean LOADS. Nothing in Lean hashes anything: it is a label: what it is worth is what the hold of that sum in a sandbox is worth. -/
noncomputable def Tryz.pinned : Pinned := { name := "ytmnalediohghiaagreat", sum := "8761c12ac2ce3b588b1870b7af5a213f244fa8e22d40a6e41dca0b5db86fdf56", checked := Tryz.checked }
namespace Rows
def none {H : Type} : Left H := { results := [], args := [] }

/-- 'laws.FnExactMakeBox': WHATEVER THE INPUT: true; the input reads as it did. -/
def fnExactMakeBoxSpec : ChangeSpec := { name := "fnExactMakeBox", fn := fun _ => fun
  | [d1, d2] => { results := [.lit (.bool true)], args := [d1, d2] }
  | _ => none }
def fnExactMakeBoxRow : OpenClaim := { program := "ytmnalediohghiaagreat", sum := "8761c12ac2ce3b588b1870b7af5a213f244fa8e22d40a6e41dca0b5db86fdf56", func := "loop.example/g00501/laws.FnExactMakeBox", spec := "fnExactMakeBox", inPlace := ["internal/bytealg.IndexByteString", "internal/bytealg.IndexString"], unfollowed := true, recurses := true, named := ["internal/bytealg.MaxLen"], apart := false }
def FnExactMakeBoxSaid : Prop := fnExactMakeBoxRow.holds Tryz.pinned (OpenSpec.ofChange fnExactMakeBoxSpec)

/-- ITS FALSE NEIGHBOUR: 'it returns false'. Refute it at one input. -/
def fnExactMakeBoxWrong : ChangeSpec := { name := "fnExactMakeBox", fn := fun _ => fun
  | [d1, d2] => { results := [.lit (.bool false)], args := [d1, d2] }
  | _ => none }
def FnExactMakeBoxWrongFalsely : Prop := fnExactMakeBoxRow.holds Tryz.pinned (OpenSpec.ofChange fnExactMakeBoxWrong)

/-- 'laws.FnExactDropBox': WHATEVER THE INPUT: true; the input reads as it did. -/
def fnExactDropBoxSpec : ChangeSpec := { name := "fnExactDropBox", fn := fun _ => fun
  | [d1, d2] => { results := [.lit (.bool true)], args := [d1, d2] }
  | _ => none }
def fnExactDropBoxRow : OpenClaim := { program := "ytmnalediohghiaagreat", sum := "8761c12ac2ce3b588b1870b7af5a213f244fa8e22d40a6e41dca0b5db86fdf56", func := "loop.example/g00501/laws.FnExactDropBox", spec := "fnExactDropBox", inPlace := ["internal/bytealg.IndexByteString", "internal/bytealg.IndexString"], unfollowed := true, recurses := true, named := ["internal/bytealg.MaxLen"], apart := false }
def FnExactDropBoxSaid : Prop := fnExactDropBoxRow.holds Tryz.pinned (OpenSpec.ofChange fnExactDropBoxSpec)

/-- ITS FALSE NEIGHBOUR: 'it returns false'. Refute it at one input. -/
def fnExactDropBoxWrong : ChangeSpec := { name := "fnExactDropBox", fn := fun _ => fun
  | [d1, d2] => { results := [.lit (.bool false)], args := [d1, d2] }
  | _ => none }
def FnExactDropBoxWrongFalsely : Prop := fnExactDropBoxRow.holds Tryz.pinned (OpenSpec.ofChange fnExactDropBoxWrong)

/-- 'laws.FnExactPutMsg': WHATEVER THE INPUT: true; the input reads as it did. -/
def fnExactPutMsgSpec : ChangeSpec := { name := "fnExactPutMsg", fn := fun _ => fun
  | [d1, d2, d3, d4] => { results := [.lit (.bool true)], args := [d1, d2, d3, d4] }
  | _ => none }
def fnExactPutMsgRow : OpenClaim := { program := "ytmnalediohghiaagreat", sum := "8761c12ac2ce3b588b1870b7af5a213f244fa8e22d40a6e41dca0b5db86fdf56", func := "loop.example/g00501/laws.FnExactPutMsg", spec := "fnExactPutMsg", inPlace := ["internal/bytealg.IndexByteString", "internal/bytealg.IndexString"], unfollowed := true, recurses := true, named := ["internal/bytealg.MaxLen"], apart := false }
def FnExactPutMsgSaid : Prop := fnExactPutMsgRow.holds Tryz.pinned (OpenSpec.ofChange fnExactPutMsgSpec)

/-- ITS FALSE NEIGHBOUR: 'it returns false'. Refute it at one input. -/
def fnExactPutMsgWrong : ChangeSpec := { name := "fnExactPutMsg", fn := fun _ => fun
  | [d1, d2, d3, d4] => { results := [.lit (.bool false)], args := [d1, d2, d3, d4] }
  | _ => none }
def FnExactPutMsgWrongFalsely : Prop := fnExactPutMsgRow.holds Tryz.pinned (OpenSpec.ofChange fnExactPutMsgWrong)

/-- 'laws.FnExactNameBox': WHATEVER THE INPUT: true; the input reads as it did. -/
def fnExactNameBoxSpec : ChangeSpec := { name := "fnExactNameBox", fn := fun _ => fun
  | [d1, d2, d3] => { results := [.lit (.bool true)], args := [d1, d2, d3] }
  | _ => none }
def fnExactNameBoxRow : OpenClaim := { program := "ytmnalediohghiaagreat", sum := "8761c12ac2ce3b588b1870b7af5a213f244fa8e22d40a6e41dca0b5db86fdf56", func := "loop.example/g00501/laws.FnExactNameBox", spec := "fnExactNameBox", inPlace := ["internal/bytealg.IndexByteString", "internal/bytealg.IndexString"], unfollowed := true, recurses := true, named := ["internal/bytealg.MaxLen"], apart := false }
def FnExactNameBoxSaid : Prop := fnExactNameBoxRow.holds Tryz.pinned (OpenSpec.ofChange fnExactNameBoxSpec)

/-- ITS FALSE NEIGHBOUR: 'it returns false'. Refute it at one input. -/
def fnExactNameBoxWrong : ChangeSpec := { name := "fnExactNameBox", fn := fun _ => fun
  | [d1, d2, d3] => { results := [.lit (.bool false)], args := [d1, d2, d3] }
  | _ => none }
def FnExactNameBoxWrongFalsely : Prop := fnExactNameBoxRow.holds Tryz.pinned (OpenSpec.ofChange fnExactNameBoxWrong)

/-- 'laws.FnExactPurge': WHATEVER THE INPUT: true; the input reads as it did. -/
def fnExactPurgeSpec : ChangeSpec := { name := "fnExactPurge", fn := fun _ => fun
  | [d1, d2, d3] => { results := [.lit (.bool true)], args := [d1, d2, d3] }
  | _ => none }
def fnExactPurgeRow : OpenClaim := { program := "ytmnalediohghiaagreat", sum := "8761c12ac2ce3b588b1870b7af5a213f244fa8e22d40a6e41dca0b5db86fdf56", func := "loop.example/g00501/laws.FnExactPurge", spec := "fnExactPurge", inPlace := ["internal/bytealg.IndexByteString", "internal/bytealg.IndexString"], unfollowed := true, recurses := true, named := ["internal/bytealg.MaxLen"], apart := false }
def FnExactPurgeSaid : Prop := fnExactPurgeRow.holds Tryz.pinned (OpenSpec.ofChange fnExactPurgeSpec)

/-- ITS FALSE NEIGHBOUR: 'it returns false'. Refute it at one input. -/
def fnExactPurgeWrong : ChangeSpec := { name := "fnExactPurge", fn := fun _ => fun
  | [d1, d2, d3] => { results := [.lit (.bool false)], args := [d1, d2, d3] }
  | _ => none }
def FnExactPurgeWrongFalsely : Prop := fnExactPurgeRow.holds Tryz.pinned (OpenSpec.ofChange fnExactPurgeWrong)

/-- 'laws.FnExactCopyMsgs': WHATEVER THE INPUT: true; the input reads as it did. -/
def fnExactCopyMsgsSpec : ChangeSpec := { name := "fnExactCopyMsgs", fn := fun _ => fun
  | [d1, d2, d3, d4] => { results := [.lit (.bool true)], args := [d1, d2, d3, d4] }
  | _ => none }
def fnExactCopyMsgsRow : OpenClaim := { program := "ytmnalediohghiaagreat", sum := "8761c12ac2ce3b588b1870b7af5a213f244fa8e22d40a6e41dca0b5db86fdf56", func := "loop.example/g00501/laws.FnExactCopyMsgs", spec := "fnExactCopyMsgs", inPlace := ["internal/bytealg.IndexByteString", "internal/bytealg.IndexString"], unfollowed := true, recurses := true, named := ["internal/bytealg.MaxLen"], apart := false }
def FnExactCopyMsgsSaid : Prop := fnExactCopyMsgsRow.holds Tryz.pinned (OpenSpec.ofChange fnExactCopyMsgsSpec)

/-- ITS FALSE NEIGHBOUR: 'it returns false'. Refute it at one input. -/
def fnExactCopyMsgsWrong : ChangeSpec := { name := "fnExactCopyMsgs", fn := fun _ => fun
  | [d1, d2, d3, d4] => { results := [.lit (.bool false)], args := [d1, d2, d3, d4] }
  | _ => none }
def FnExactCopyMsgsWrongFalsely : Prop := fnExactCopyMsgsRow.holds Tryz.pinned (OpenSpec.ofChange fnExactCopyMsgsWrong)

/-- 'laws.FnExactSetFlags': WHATEVER THE INPUT: true; the input reads as it did. -/
def fnExactSetFlagsSpec : ChangeSpec := { name := "fnExactSetFlags", fn := fun _ => fun
  | [d1, d2, d3, d4, d5] => { results := [.lit (.bool true)], args := [d1, d2, d3, d4, d5] }
  | _ => none }
def fnExactSetFlagsRow : OpenClaim := { program := "ytmnalediohghiaagreat", sum := "8761c12ac2ce3b588b1870b7af5a213f244fa8e22d40a6e41dca0b5db86fdf56", func := "loop.example/g00501/laws.FnExactSetFlags", spec := "fnExactSetFlags", inPlace := ["internal/bytealg.IndexByteString", "internal/bytealg.IndexString"], unfollowed := true, recurses := true, named := ["internal/bytealg.MaxLen"], apart := false }
def FnExactSetFlagsSaid : Prop := fnExactSetFlagsRow.holds Tryz.pinned (OpenSpec.ofChange fnExactSetFlagsSpec)

/-- ITS FALSE NEIGHBOUR: 'it returns false'. Refute it at one input. -/
def fnExactSetFlagsWrong : ChangeSpec := { name := "fnExactSetFlags", fn := fun _ => fun
  | [d1, d2, d3, d4, d5] => { results := [.lit (.bool false)], args := [d1, d2, d3, d4, d5] }
  | _ => none }
def FnExactSetFlagsWrongFalsely : Prop := fnExactSetFlagsRow.holds Tryz.pinned (OpenSpec.ofChange fnExactSetFlagsWrong)

/- THE SECOND FORM. 'bulk': how many values and letters a reading holds, each counted each time it is reached (what is shared counts as often as it is met; a slice's spare places count too). A statement '..UptoSaid' is the law's where the arguments, and the package variables that the reading takes, are together of bulk at most 1048576: NARROWER than '..Said'. Prove '..Said' where nothing that the law and all that it calls make is longer than what came in: it says more and counts as full. Else prove '..UptoSaid'. A law counts once. -/
mutual
def uptoBulk {H : Type} : DataW H → Nat
  | .lit (.string bytes) => bytes.length + 1
  | .lit _ => 1
  | .nil => 1
  | .ptr d => uptoBulk d + 1
  | .slice elems spare => uptoBulkAll elems + uptoBulkAll spare + 1
  | .agg parts => uptoBulkAll parts + 1
  | .iface _ d => uptoBulk d + 1
  | .map entries => uptoBulkEntries entries + 1
  | .held _ => 1
def uptoBulkAll {H : Type} : List (DataW H) → Nat
  | [] => 0
  | d :: r => uptoBulk d + uptoBulkAll r
def uptoBulkEntries {H : Type} : List (Lit × DataW H) → Nat
  | [] => 0
  | x :: r => uptoBulkEntry x + uptoBulkEntries r
def uptoBulkEntry {H : Type} : Lit × DataW H → Nat
  | (.string bytes, d) => bytes.length + uptoBulk d + 1
  | (_, d) => uptoBulk d + 1
 end
def uptoSmall : (H : Type) → List (DataW H) → Bool := fun _ ds => decide (uptoBulkAll ds ≤ 1048576)
def OpenSpec.upto (s : _root_.Go.ChangeSpec) : _root_.Go.OpenSpec := { _root_.Go.OpenSpec.ofChange s with cond := some uptoSmall }

/-- 'laws.FnExactMakeBox', WHERE WHAT IT READS IS OF BULK AT MOST 1048576: true; the input reads as it did. -/
def fnExactMakeBoxUptoRow : OpenClaim := { program := "ytmnalediohghiaagreat", sum := "8761c12ac2ce3b588b1870b7af5a213f244fa8e22d40a6e41dca0b5db86fdf56", func := "loop.example/g00501/laws.FnExactMakeBox", spec := "fnExactMakeBox", inPlace := ["internal/bytealg.IndexByteString", "internal/bytealg.IndexString"], unfollowed := true, recurses := true, named := ["internal/bytealg.MaxLen"], apart := false, narrowed := true }
def FnExactMakeBoxUptoSaid : Prop := fnExactMakeBoxUptoRow.holds Tryz.pinned (OpenSpec.upto fnExactMakeBoxSpec)

/-- 'laws.FnExactDropBox', WHERE WHAT IT READS IS OF BULK AT MOST 1048576: true; the input reads as it did. -/
def fnExactDropBoxUptoRow : OpenClaim := { program := "ytmnalediohghiaagreat", sum := "8761c12ac2ce3b588b1870b7af5a213f244fa8e22d40a6e41dca0b5db86fdf56", func := "loop.example/g00501/laws.FnExactDropBox", spec := "fnExactDropBox", inPlace := ["internal/bytealg.IndexByteString", "internal/bytealg.IndexString"], unfollowed := true, recurses := true, named := ["internal/bytealg.MaxLen"], apart := false, narrowed := true }
def FnExactDropBoxUptoSaid : Prop := fnExactDropBoxUptoRow.holds Tryz.pinned (OpenSpec.upto fnExactDropBoxSpec)

/-- 'laws.FnExactPutMsg', WHERE WHAT IT READS IS OF BULK AT MOST 1048576: true; the input reads as it did. -/
def fnExactPutMsgUptoRow : OpenClaim := { program := "ytmnalediohghiaagreat", sum := "8761c12ac2ce3b588b1870b7af5a213f244fa8e22d40a6e41dca0b5db86fdf56", func := "loop.example/g00501/laws.FnExactPutMsg", spec := "fnExactPutMsg", inPlace := ["internal/bytealg.IndexByteString", "internal/bytealg.IndexString"], unfollowed := true, recurses := true, named := ["internal/bytealg.MaxLen"], apart := false, narrowed := true }
def FnExactPutMsgUptoSaid : Prop := fnExactPutMsgUptoRow.holds Tryz.pinned (OpenSpec.upto fnExactPutMsgSpec)

/-- 'laws.FnExactNameBox', WHERE WHAT IT READS IS OF BULK AT MOST 1048576: true; the input reads as it did. -/
def fnExactNameBoxUptoRow : OpenClaim := { program := "ytmnalediohghiaagreat", sum := "8761c12ac2ce3b588b1870b7af5a213f244fa8e22d40a6e41dca0b5db86fdf56", func := "loop.example/g00501/laws.FnExactNameBox", spec := "fnExactNameBox", inPlace := ["internal/bytealg.IndexByteString", "internal/bytealg.IndexString"], unfollowed := true, recurses := true, named := ["internal/bytealg.MaxLen"], apart := false, narrowed := true }
def FnExactNameBoxUptoSaid : Prop := fnExactNameBoxUptoRow.holds Tryz.pinned (OpenSpec.upto fnExactNameBoxSpec)

/-- 'laws.FnExactPurge', WHERE WHAT IT READS IS OF BULK AT MOST 1048576: true; the input reads as it did. -/
def fnExactPurgeUptoRow : OpenClaim := { program := "ytmnalediohghiaagreat", sum := "8761c12ac2ce3b588b1870b7af5a213f244fa8e22d40a6e41dca0b5db86fdf56", func := "loop.example/g00501/laws.FnExactPurge", spec := "fnExactPurge", inPlace := ["internal/bytealg.IndexByteString", "internal/bytealg.IndexString"], unfollowed := true, recurses := true, named := ["internal/bytealg.MaxLen"], apart := false, narrowed := true }
def FnExactPurgeUptoSaid : Prop := fnExactPurgeUptoRow.holds Tryz.pinned (OpenSpec.upto fnExactPurgeSpec)

/-- 'laws.FnExactCopyMsgs', WHERE WHAT IT READS IS OF BULK AT MOST 1048576: true; the input reads as it did. -/
def fnExactCopyMsgsUptoRow : OpenClaim := { program := "ytmnalediohghiaagreat", sum := "8761c12ac2ce3b588b1870b7af5a213f244fa8e22d40a6e41dca0b5db86fdf56", func := "loop.example/g00501/laws.FnExactCopyMsgs", spec := "fnExactCopyMsgs", inPlace := ["internal/bytealg.IndexByteString", "internal/bytealg.IndexString"], unfollowed := true, recurses := true, named := ["internal/bytealg.MaxLen"], apart := false, narrowed := true }
def FnExactCopyMsgsUptoSaid : Prop := fnExactCopyMsgsUptoRow.holds Tryz.pinned (OpenSpec.upto fnExactCopyMsgsSpec)

/-- 'laws.FnExactSetFlags', WHERE WHAT IT READS IS OF BULK AT MOST 1048576: true; the input reads as it did. -/
def fnExactSetFlagsUptoRow : OpenClaim := { program := "ytmnalediohghiaagreat", sum := "8761c12ac2ce3b588b1870b7af5a213f244fa8e22d40a6e41dca0b5db86fdf56", func := "loop.example/g00501/laws.FnExactSetFlags", spec := "fnExactSetFlags", inPlace := ["internal/bytealg.IndexByteString", "internal/bytealg.IndexString"], unfollowed := true, recurses := true, named := ["internal/bytealg.MaxLen"], apart := false, narrowed := true }
def FnExactSetFlagsUptoSaid : Prop := fnExactSetFlagsUptoRow.holds Tryz.pinned (OpenSpec.upto fnExactSetFlagsSpec)

end Rows
end Go.Proofs.YtmnalediohghiaaGreat
