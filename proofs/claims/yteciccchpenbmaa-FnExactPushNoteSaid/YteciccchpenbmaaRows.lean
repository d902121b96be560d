/-
  No cell of these rows narrows 'for every input' (looked for: loops, veiled, ifaces, maps, wideKeys, modest, calm, conditions, laid).
  DERIVED. THE GIVEN ROWS OF THIS SEAT. 12 by the template 'for every input the law returns true; each argument reads behind the call as it read before'; 0 by the template 'total and deterministic' (their statements: YteciccchpenbmaaTotals.lean).
  GIVEN WITH THE SEED: the statements are not yours to turn. If you find one false, say at which input.
  Laid BY PROGRAM, IN A SANDBOX (cutbox-rows.mjs): the forced cells as the released guide's own fill.sh prints them over the translation fd08982d0b8fb229… (all of the seat's roots in one cut). By AI agents, Wed Nov 11 2026. No macro, syntax, notation, axiom, sorry.
-/
import Derived.Test.YteciccchpenbmaaChecked
import GoSem.Claim
import GoSem.ClaimJoined
import GoSem.ClaimMapViews
import Derived.JoinedTies
import Derived.KernelRfl
namespace Go.Proofs.Yteciccchpenbmaa
/- THE CELL 'sum', in the pinned program and in every row, IS THE sha256 OF THE DUMP (.gsa) THAT YteciccchpenbmaaProg.lean LOADS. Nothing in Lean hashes anything: it is a label: what it is worth is what the hold of that sum in a sandbox is worth. -/
noncomputable def Try.pinned : Pinned := { name := "yteciccchpenbmaa", sum := "fd08982d0b8fb229828f6391817585be2788f0bed3b2e584ba5b4e4a2a498a66", checked := Try.checked }
namespace Rows
def none {H : Type} : Left H := { results := [], args := [] }

/-- 'laws.FnQueue': WHATEVER THE INPUT: true; the input reads as it did. -/
def fnQueueSpec : ChangeSpec := { name := "fnQueue", fn := fun _ => fun
  | [d] => { results := [.lit (.bool true)], args := [d] }
  | _ => none }
def fnQueueRow : OpenClaim := { program := "yteciccchpenbmaa", sum := "fd08982d0b8fb229828f6391817585be2788f0bed3b2e584ba5b4e4a2a498a66", func := "loop.example/g00501/laws.FnQueue", spec := "fnQueue", inPlace := ["internal/bytealg.IndexByteString", "internal/bytealg.IndexString"], unfollowed := true, recurses := true, named := ["internal/bytealg.MaxLen"], apart := false }
def FnQueueSaid : Prop := fnQueueRow.holds Try.pinned (OpenSpec.ofChange fnQueueSpec)

/-- ITS FALSE NEIGHBOUR: 'it returns false'. Refute it at one input. -/
def fnQueueWrong : ChangeSpec := { name := "fnQueue", fn := fun _ => fun
  | [d] => { results := [.lit (.bool false)], args := [d] }
  | _ => none }
def FnQueueWrongFalsely : Prop := fnQueueRow.holds Try.pinned (OpenSpec.ofChange fnQueueWrong)

/-- 'laws.FnExactUidsIn': WHATEVER THE INPUT: true; the input reads as it did. -/
def fnExactUidsInSpec : ChangeSpec := { name := "fnExactUidsIn", fn := fun _ => fun
  | [d] => { results := [.lit (.bool true)], args := [d] }
  | _ => none }
def fnExactUidsInRow : OpenClaim := { program := "yteciccchpenbmaa", sum := "fd08982d0b8fb229828f6391817585be2788f0bed3b2e584ba5b4e4a2a498a66", func := "loop.example/g00501/laws.FnExactUidsIn", spec := "fnExactUidsIn", apart := false }
def FnExactUidsInSaid : Prop := fnExactUidsInRow.holds Try.pinned (OpenSpec.ofChange fnExactUidsInSpec)

/-- ITS FALSE NEIGHBOUR: 'it returns false'. Refute it at one input. -/
def fnExactUidsInWrong : ChangeSpec := { name := "fnExactUidsIn", fn := fun _ => fun
  | [d] => { results := [.lit (.bool false)], args := [d] }
  | _ => none }
def FnExactUidsInWrongFalsely : Prop := fnExactUidsInRow.holds Try.pinned (OpenSpec.ofChange fnExactUidsInWrong)

/-- 'laws.FnSeq': WHATEVER THE INPUT: true; the input reads as it did. -/
def fnSeqSpec : ChangeSpec := { name := "fnSeq", fn := fun _ => fun
  | [d] => { results := [.lit (.bool true)], args := [d] }
  | _ => none }
def fnSeqRow : OpenClaim := { program := "yteciccchpenbmaa", sum := "fd08982d0b8fb229828f6391817585be2788f0bed3b2e584ba5b4e4a2a498a66", func := "loop.example/g00501/laws.FnSeq", spec := "fnSeq", unfollowed := true, recurses := true, apart := false }
def FnSeqSaid : Prop := fnSeqRow.holds Try.pinned (OpenSpec.ofChange fnSeqSpec)

/-- ITS FALSE NEIGHBOUR: 'it returns false'. Refute it at one input. -/
def fnSeqWrong : ChangeSpec := { name := "fnSeq", fn := fun _ => fun
  | [d] => { results := [.lit (.bool false)], args := [d] }
  | _ => none }
def FnSeqWrongFalsely : Prop := fnSeqRow.holds Try.pinned (OpenSpec.ofChange fnSeqWrong)

/-- 'laws.FnExactNoteOk': WHATEVER THE INPUT: true; the input reads as it did. -/
def fnExactNoteOkSpec : ChangeSpec := { name := "fnExactNoteOk", fn := fun _ => fun
  | [d] => { results := [.lit (.bool true)], args := [d] }
  | _ => none }
def fnExactNoteOkRow : OpenClaim := { program := "yteciccchpenbmaa", sum := "fd08982d0b8fb229828f6391817585be2788f0bed3b2e584ba5b4e4a2a498a66", func := "loop.example/g00501/laws.FnExactNoteOk", spec := "fnExactNoteOk", inPlace := ["internal/bytealg.IndexByteString", "internal/bytealg.IndexString"], named := ["internal/bytealg.MaxLen"], apart := false }
def FnExactNoteOkSaid : Prop := fnExactNoteOkRow.holds Try.pinned (OpenSpec.ofChange fnExactNoteOkSpec)

/-- ITS FALSE NEIGHBOUR: 'it returns false'. Refute it at one input. -/
def fnExactNoteOkWrong : ChangeSpec := { name := "fnExactNoteOk", fn := fun _ => fun
  | [d] => { results := [.lit (.bool false)], args := [d] }
  | _ => none }
def FnExactNoteOkWrongFalsely : Prop := fnExactNoteOkRow.holds Try.pinned (OpenSpec.ofChange fnExactNoteOkWrong)

/-- 'laws.FnExactDropNote': WHATEVER THE INPUT: true; the input reads as it did. -/
def fnExactDropNoteSpec : ChangeSpec := { name := "fnExactDropNote", fn := fun _ => fun
  | [d1, d2] => { results := [.lit (.bool true)], args := [d1, d2] }
  | _ => none }
def fnExactDropNoteRow : OpenClaim := { program := "yteciccchpenbmaa", sum := "fd08982d0b8fb229828f6391817585be2788f0bed3b2e584ba5b4e4a2a498a66", func := "loop.example/g00501/laws.FnExactDropNote", spec := "fnExactDropNote", apart := false }
def FnExactDropNoteSaid : Prop := fnExactDropNoteRow.holds Try.pinned (OpenSpec.ofChange fnExactDropNoteSpec)

/-- ITS FALSE NEIGHBOUR: 'it returns false'. Refute it at one input. -/
def fnExactDropNoteWrong : ChangeSpec := { name := "fnExactDropNote", fn := fun _ => fun
  | [d1, d2] => { results := [.lit (.bool false)], args := [d1, d2] }
  | _ => none }
def FnExactDropNoteWrongFalsely : Prop := fnExactDropNoteRow.holds Try.pinned (OpenSpec.ofChange fnExactDropNoteWrong)

/-- 'laws.FnExactViewOf': WHATEVER THE INPUT: true; the input reads as it did. -/
def fnExactViewOfSpec : ChangeSpec := { name := "fnExactViewOf", fn := fun _ => fun
  | [d] => { results := [.lit (.bool true)], args := [d] }
  | _ => none }
def fnExactViewOfRow : OpenClaim := { program := "yteciccchpenbmaa", sum := "fd08982d0b8fb229828f6391817585be2788f0bed3b2e584ba5b4e4a2a498a66", func := "loop.example/g00501/laws.FnExactViewOf", spec := "fnExactViewOf", apart := false }
def FnExactViewOfSaid : Prop := fnExactViewOfRow.holds Try.pinned (OpenSpec.ofChange fnExactViewOfSpec)

/-- ITS FALSE NEIGHBOUR: 'it returns false'. Refute it at one input. -/
def fnExactViewOfWrong : ChangeSpec := { name := "fnExactViewOf", fn := fun _ => fun
  | [d] => { results := [.lit (.bool false)], args := [d] }
  | _ => none }
def FnExactViewOfWrongFalsely : Prop := fnExactViewOfRow.holds Try.pinned (OpenSpec.ofChange fnExactViewOfWrong)

/-- 'laws.FnExactCommitOk': WHATEVER THE INPUT: true; the input reads as it did. -/
def fnExactCommitOkSpec : ChangeSpec := { name := "fnExactCommitOk", fn := fun _ => fun
  | [d] => { results := [.lit (.bool true)], args := [d] }
  | _ => none }
def fnExactCommitOkRow : OpenClaim := { program := "yteciccchpenbmaa", sum := "fd08982d0b8fb229828f6391817585be2788f0bed3b2e584ba5b4e4a2a498a66", func := "loop.example/g00501/laws.FnExactCommitOk", spec := "fnExactCommitOk", inPlace := ["internal/bytealg.IndexByteString", "internal/bytealg.IndexString"], named := ["internal/bytealg.MaxLen"], apart := false }
def FnExactCommitOkSaid : Prop := fnExactCommitOkRow.holds Try.pinned (OpenSpec.ofChange fnExactCommitOkSpec)

/-- ITS FALSE NEIGHBOUR: 'it returns false'. Refute it at one input. -/
def fnExactCommitOkWrong : ChangeSpec := { name := "fnExactCommitOk", fn := fun _ => fun
  | [d] => { results := [.lit (.bool false)], args := [d] }
  | _ => none }
def FnExactCommitOkWrongFalsely : Prop := fnExactCommitOkRow.holds Try.pinned (OpenSpec.ofChange fnExactCommitOkWrong)

/-- 'laws.FnExactFoldReply': WHATEVER THE INPUT: true; the input reads as it did. -/
def fnExactFoldReplySpec : ChangeSpec := { name := "fnExactFoldReply", fn := fun _ => fun
  | [d1, d2] => { results := [.lit (.bool true)], args := [d1, d2] }
  | _ => none }
def fnExactFoldReplyRow : OpenClaim := { program := "yteciccchpenbmaa", sum := "fd08982d0b8fb229828f6391817585be2788f0bed3b2e584ba5b4e4a2a498a66", func := "loop.example/g00501/laws.FnExactFoldReply", spec := "fnExactFoldReply", apart := false }
def FnExactFoldReplySaid : Prop := fnExactFoldReplyRow.holds Try.pinned (OpenSpec.ofChange fnExactFoldReplySpec)

/-- ITS FALSE NEIGHBOUR: 'it returns false'. Refute it at one input. -/
def fnExactFoldReplyWrong : ChangeSpec := { name := "fnExactFoldReply", fn := fun _ => fun
  | [d1, d2] => { results := [.lit (.bool false)], args := [d1, d2] }
  | _ => none }
def FnExactFoldReplyWrongFalsely : Prop := fnExactFoldReplyRow.holds Try.pinned (OpenSpec.ofChange fnExactFoldReplyWrong)

/-- 'laws.FnExactReplyOk': WHATEVER THE INPUT: true; the input reads as it did. -/
def fnExactReplyOkSpec : ChangeSpec := { name := "fnExactReplyOk", fn := fun _ => fun
  | [d] => { results := [.lit (.bool true)], args := [d] }
  | _ => none }
def fnExactReplyOkRow : OpenClaim := { program := "yteciccchpenbmaa", sum := "fd08982d0b8fb229828f6391817585be2788f0bed3b2e584ba5b4e4a2a498a66", func := "loop.example/g00501/laws.FnExactReplyOk", spec := "fnExactReplyOk", inPlace := ["internal/bytealg.IndexByteString", "internal/bytealg.IndexString"], named := ["internal/bytealg.MaxLen"], apart := false }
def FnExactReplyOkSaid : Prop := fnExactReplyOkRow.holds Try.pinned (OpenSpec.ofChange fnExactReplyOkSpec)

/-- ITS FALSE NEIGHBOUR: 'it returns false'. Refute it at one input. -/
def fnExactReplyOkWrong : ChangeSpec := { name := "fnExactReplyOk", fn := fun _ => fun
  | [d] => { results := [.lit (.bool false)], args := [d] }
  | _ => none }
def FnExactReplyOkWrongFalsely : Prop := fnExactReplyOkRow.holds Try.pinned (OpenSpec.ofChange fnExactReplyOkWrong)

/-- 'laws.FnExactQueueOk': WHATEVER THE INPUT: true; the input reads as it did. -/
def fnExactQueueOkSpec : ChangeSpec := { name := "fnExactQueueOk", fn := fun _ => fun
  | [d] => { results := [.lit (.bool true)], args := [d] }
  | _ => none }
def fnExactQueueOkRow : OpenClaim := { program := "yteciccchpenbmaa", sum := "fd08982d0b8fb229828f6391817585be2788f0bed3b2e584ba5b4e4a2a498a66", func := "loop.example/g00501/laws.FnExactQueueOk", spec := "fnExactQueueOk", inPlace := ["internal/bytealg.IndexByteString", "internal/bytealg.IndexString"], named := ["internal/bytealg.MaxLen"], apart := false }
def FnExactQueueOkSaid : Prop := fnExactQueueOkRow.holds Try.pinned (OpenSpec.ofChange fnExactQueueOkSpec)

/-- ITS FALSE NEIGHBOUR: 'it returns false'. Refute it at one input. -/
def fnExactQueueOkWrong : ChangeSpec := { name := "fnExactQueueOk", fn := fun _ => fun
  | [d] => { results := [.lit (.bool false)], args := [d] }
  | _ => none }
def FnExactQueueOkWrongFalsely : Prop := fnExactQueueOkRow.holds Try.pinned (OpenSpec.ofChange fnExactQueueOkWrong)

/-- 'laws.FnDropNote': WHATEVER THE INPUT: true; the input reads as it did. -/
def fnDropNoteSpec : ChangeSpec := { name := "fnDropNote", fn := fun _ => fun
  | [d] => { results := [.lit (.bool true)], args := [d] }
  | _ => none }
def fnDropNoteRow : OpenClaim := { program := "yteciccchpenbmaa", sum := "fd08982d0b8fb229828f6391817585be2788f0bed3b2e584ba5b4e4a2a498a66", func := "loop.example/g00501/laws.FnDropNote", spec := "fnDropNote", inPlace := ["internal/bytealg.IndexByteString", "internal/bytealg.IndexString"], unfollowed := true, recurses := true, named := ["internal/bytealg.MaxLen"], apart := false }
def FnDropNoteSaid : Prop := fnDropNoteRow.holds Try.pinned (OpenSpec.ofChange fnDropNoteSpec)

/-- ITS FALSE NEIGHBOUR: 'it returns false'. Refute it at one input. -/
def fnDropNoteWrong : ChangeSpec := { name := "fnDropNote", fn := fun _ => fun
  | [d] => { results := [.lit (.bool false)], args := [d] }
  | _ => none }
def FnDropNoteWrongFalsely : Prop := fnDropNoteRow.holds Try.pinned (OpenSpec.ofChange fnDropNoteWrong)

/-- 'laws.FnExactPushNote': WHATEVER THE INPUT: true; the input reads as it did. -/
def fnExactPushNoteSpec : ChangeSpec := { name := "fnExactPushNote", fn := fun _ => fun
  | [d1, d2] => { results := [.lit (.bool true)], args := [d1, d2] }
  | _ => none }
def fnExactPushNoteRow : OpenClaim := { program := "yteciccchpenbmaa", sum := "fd08982d0b8fb229828f6391817585be2788f0bed3b2e584ba5b4e4a2a498a66", func := "loop.example/g00501/laws.FnExactPushNote", spec := "fnExactPushNote", inPlace := ["internal/bytealg.IndexByteString", "internal/bytealg.IndexString"], unfollowed := true, recurses := true, named := ["internal/bytealg.MaxLen"], apart := false }
def FnExactPushNoteSaid : Prop := fnExactPushNoteRow.holds Try.pinned (OpenSpec.ofChange fnExactPushNoteSpec)

/-- ITS FALSE NEIGHBOUR: 'it returns false'. Refute it at one input. -/
def fnExactPushNoteWrong : ChangeSpec := { name := "fnExactPushNote", fn := fun _ => fun
  | [d1, d2] => { results := [.lit (.bool false)], args := [d1, d2] }
  | _ => none }
def FnExactPushNoteWrongFalsely : Prop := fnExactPushNoteRow.holds Try.pinned (OpenSpec.ofChange fnExactPushNoteWrong)

/- THE SECOND FORM. 'bulk': how many values and letters a reading holds, each counted each time it is reached (what is shared counts as often as it is met; a slice's spare places count too). A statement '..UptoSaid' is the law's where the arguments, and the package variables that the reading takes, are together of bulk at most 1048576: NARROWER than '..Said'. Prove '..Said' where nothing that the law and all that it calls make is longer than what came in: it says more and counts as full. Else prove '..UptoSaid'. A law counts once. -/
mutual
def uptoBulk {H : Type} : DataW H → Nat
  | .lit (.string bytes) => bytes.length + 1
  | .lit _ => 1
  | .nil => 1
  | .ptr d => uptoBulk d + 1
  | .slice elems spare => uptoBulkAll elems + uptoBulkAll spare + 1
  | .agg parts => uptoBulkAll parts + 1
  | .iface _ d => uptoBulk d + 1
  | .map entries => uptoBulkEntries entries + 1
  | .held _ => 1
def uptoBulkAll {H : Type} : List (DataW H) → Nat
  | [] => 0
  | d :: r => uptoBulk d + uptoBulkAll r
def uptoBulkEntries {H : Type} : List (Lit × DataW H) → Nat
  | [] => 0
  | x :: r => uptoBulkEntry x + uptoBulkEntries r
def uptoBulkEntry {H : Type} : Lit × DataW H → Nat
  | (.string bytes, d) => bytes.length + uptoBulk d + 1
  | (_, d) => uptoBulk d + 1
 end
def uptoSmall : (H : Type) → List (DataW H) → Bool := fun _ ds => decide (uptoBulkAll ds ≤ 1048576)
def OpenSpec.upto (s : _root_.Go.ChangeSpec) : _root_.Go.OpenSpec := { _root_.Go.OpenSpec.ofChange s with cond := some uptoSmall }

/-- 'laws.FnQueue', WHERE WHAT IT READS IS OF BULK AT MOST 1048576: true; the input reads as it did. -/
def fnQueueUptoRow : OpenClaim := { program := "yteciccchpenbmaa", sum := "fd08982d0b8fb229828f6391817585be2788f0bed3b2e584ba5b4e4a2a498a66", func := "loop.example/g00501/laws.FnQueue", spec := "fnQueue", inPlace := ["internal/bytealg.IndexByteString", "internal/bytealg.IndexString"], unfollowed := true, recurses := true, named := ["internal/bytealg.MaxLen"], apart := false, narrowed := true }
def FnQueueUptoSaid : Prop := fnQueueUptoRow.holds Try.pinned (OpenSpec.upto fnQueueSpec)

/-- 'laws.FnExactUidsIn', WHERE WHAT IT READS IS OF BULK AT MOST 1048576: true; the input reads as it did. -/
def fnExactUidsInUptoRow : OpenClaim := { program := "yteciccchpenbmaa", sum := "fd08982d0b8fb229828f6391817585be2788f0bed3b2e584ba5b4e4a2a498a66", func := "loop.example/g00501/laws.FnExactUidsIn", spec := "fnExactUidsIn", apart := false, narrowed := true }
def FnExactUidsInUptoSaid : Prop := fnExactUidsInUptoRow.holds Try.pinned (OpenSpec.upto fnExactUidsInSpec)

/-- 'laws.FnSeq', WHERE WHAT IT READS IS OF BULK AT MOST 1048576: true; the input reads as it did. -/
def fnSeqUptoRow : OpenClaim := { program := "yteciccchpenbmaa", sum := "fd08982d0b8fb229828f6391817585be2788f0bed3b2e584ba5b4e4a2a498a66", func := "loop.example/g00501/laws.FnSeq", spec := "fnSeq", unfollowed := true, recurses := true, apart := false, narrowed := true }
def FnSeqUptoSaid : Prop := fnSeqUptoRow.holds Try.pinned (OpenSpec.upto fnSeqSpec)

/-- 'laws.FnExactNoteOk', WHERE WHAT IT READS IS OF BULK AT MOST 1048576: true; the input reads as it did. -/
def fnExactNoteOkUptoRow : OpenClaim := { program := "yteciccchpenbmaa", sum := "fd08982d0b8fb229828f6391817585be2788f0bed3b2e584ba5b4e4a2a498a66", func := "loop.example/g00501/laws.FnExactNoteOk", spec := "fnExactNoteOk", inPlace := ["internal/bytealg.IndexByteString", "internal/bytealg.IndexString"], named := ["internal/bytealg.MaxLen"], apart := false, narrowed := true }
def FnExactNoteOkUptoSaid : Prop := fnExactNoteOkUptoRow.holds Try.pinned (OpenSpec.upto fnExactNoteOkSpec)

/-- 'laws.FnExactDropNote', WHERE WHAT IT READS IS OF BULK AT MOST 1048576: true; the input reads as it did. -/
def fnExactDropNoteUptoRow : OpenClaim := { program := "yteciccchpenbmaa", sum := "fd08982d0b8fb229828f6391817585be2788f0bed3b2e584ba5b4e4a2a498a66", func := "loop.example/g00501/laws.FnExactDropNote", spec := "fnExactDropNote", apart := false, narrowed := true }
def FnExactDropNoteUptoSaid : Prop := fnExactDropNoteUptoRow.holds Try.pinned (OpenSpec.upto fnExactDropNoteSpec)

/-- 'laws.FnExactViewOf', WHERE WHAT IT READS IS OF BULK AT MOST 1048576: true; the input reads as it did. -/
def fnExactViewOfUptoRow : OpenClaim := { program := "yteciccchpenbmaa", sum := "fd08982d0b8fb229828f6391817585be2788f0bed3b2e584ba5b4e4a2a498a66", func := "loop.example/g00501/laws.FnExactViewOf", spec := "fnExactViewOf", apart := false, narrowed := true }
def FnExactViewOfUptoSaid : Prop := fnExactViewOfUptoRow.holds Try.pinned (OpenSpec.upto fnExactViewOfSpec)

/-- 'laws.FnExactCommitOk', WHERE WHAT IT READS IS OF BULK AT MOST 1048576: true; the input reads as it did. -/
def fnExactCommitOkUptoRow : OpenClaim := { program := "yteciccchpenbmaa", sum := "fd08982d0b8fb229828f6391817585be2788f0bed3b2e584ba5b4e4a2a498a66", func := "loop.example/g00501/laws.FnExactCommitOk", spec := "fnExactCommitOk", inPlace := ["internal/bytealg.IndexByteString", "internal/bytealg.IndexString"], named := ["internal/bytealg.MaxLen"], apart := false, narrowed := true }
def FnExactCommitOkUptoSaid : Prop := fnExactCommitOkUptoRow.holds Try.pinned (OpenSpec.upto fnExactCommitOkSpec)

/-- 'laws.FnExactFoldReply', WHERE WHAT IT READS IS OF BULK AT MOST 1048576: true; the input reads as it did. -/
def fnExactFoldReplyUptoRow : OpenClaim := { program := "yteciccchpenbmaa", sum := "fd08982d0b8fb229828f6391817585be2788f0bed3b2e584ba5b4e4a2a498a66", func := "loop.example/g00501/laws.FnExactFoldReply", spec := "fnExactFoldReply", apart := false, narrowed := true }
def FnExactFoldReplyUptoSaid : Prop := fnExactFoldReplyUptoRow.holds Try.pinned (OpenSpec.upto fnExactFoldReplySpec)

/-- 'laws.FnExactReplyOk', WHERE WHAT IT READS IS OF BULK AT MOST 1048576: true; the input reads as it did. -/
def fnExactReplyOkUptoRow : OpenClaim := { program := "yteciccchpenbmaa", sum := "fd08982d0b8fb229828f6391817585be2788f0bed3b2e584ba5b4e4a2a498a66", func := "loop.example/g00501/laws.FnExactReplyOk", spec := "fnExactReplyOk", inPlace := ["internal/bytealg.IndexByteString", "internal/bytealg.IndexString"], named := ["internal/bytealg.MaxLen"], apart := false, narrowed := true }
def FnExactReplyOkUptoSaid : Prop := fnExactReplyOkUptoRow.holds Try.pinned (OpenSpec.upto fnExactReplyOkSpec)

/-- 'laws.FnExactQueueOk', WHERE WHAT IT READS IS OF BULK AT MOST 1048576: true; the input reads as it did. -/
def fnExactQueueOkUptoRow : OpenClaim := { program := "yteciccchpenbmaa", sum := "fd08982d0b8fb229828f6391817585be2788f0bed3b2e584ba5b4e4a2a498a66", func := "loop.example/g00501/laws.FnExactQueueOk", spec := "fnExactQueueOk", inPlace := ["internal/bytealg.IndexByteString", "internal/bytealg.IndexString"], named := ["internal/bytealg.MaxLen"], apart := false, narrowed := true }
def FnExactQueueOkUptoSaid : Prop := fnExactQueueOkUptoRow.holds Try.pinned (OpenSpec.upto fnExactQueueOkSpec)

/-- 'laws.FnDropNote', WHERE WHAT IT READS IS OF BULK AT MOST 1048576: true; the input reads as it did. -/
def fnDropNoteUptoRow : OpenClaim := { program := "yteciccchpenbmaa", sum := "fd08982d0b8fb229828f6391817585be2788f0bed3b2e584ba5b4e4a2a498a66", func := "loop.example/g00501/laws.FnDropNote", spec := "fnDropNote", inPlace := ["internal/bytealg.IndexByteString", "internal/bytealg.IndexString"], unfollowed := true, recurses := true, named := ["internal/bytealg.MaxLen"], apart := false, narrowed := true }
def FnDropNoteUptoSaid : Prop := fnDropNoteUptoRow.holds Try.pinned (OpenSpec.upto fnDropNoteSpec)

/-- 'laws.FnExactPushNote', WHERE WHAT IT READS IS OF BULK AT MOST 1048576: true; the input reads as it did. -/
def fnExactPushNoteUptoRow : OpenClaim := { program := "yteciccchpenbmaa", sum := "fd08982d0b8fb229828f6391817585be2788f0bed3b2e584ba5b4e4a2a498a66", func := "loop.example/g00501/laws.FnExactPushNote", spec := "fnExactPushNote", inPlace := ["internal/bytealg.IndexByteString", "internal/bytealg.IndexString"], unfollowed := true, recurses := true, named := ["internal/bytealg.MaxLen"], apart := false, narrowed := true }
def FnExactPushNoteUptoSaid : Prop := fnExactPushNoteUptoRow.holds Try.pinned (OpenSpec.upto fnExactPushNoteSpec)

end Rows
end Go.Proofs.Yteciccchpenbmaa
