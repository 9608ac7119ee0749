/-
  No cell of these rows narrows 'for every input' (looked for: loops, veiled, ifaces, maps, wideKeys, modest, calm, conditions, laid).
  DERIVED. THE GIVEN ROWS OF THIS SEAT. 10 by the template 'for every input the law returns true; each argument reads behind the call as it read before'; 0 by the template 'total and deterministic' (their statements: YtpkeanlcmjbgnadTotals.lean).
  GIVEN WITH THE SEED: the statements are not yours to turn. If you find one false, say at which input.
  Laid BY PROGRAM, IN A SANDBOX (cutbox-rows.mjs): the forced cells as the released guide's own fill.sh prints them over the translation 5d94c7a7c7f9ea3d… (all of the seat's roots in one cut). By AI agents, Wed Nov 11 2026. No macro, syntax, notation, axiom, sorry.
-/
import Derived.Test.YtpkeanlcmjbgnadChecked
import GoSem.Claim
import GoSem.ClaimJoined
import GoSem.ClaimMapViews
import Derived.JoinedTies
import Derived.KernelRfl
namespace Go.Proofs.Ytpkeanlcmjbgnad
/- THE CELL 'sum', in the pinned program and in every row, IS THE sha256 OF THE DUMP (.gsa) THAT YtpkeanlcmjbgnadProg.lean LOADS. Nothing in Lean hashes anything: it is a label: what it is worth is what the hold of that sum in a sandbox is worth. -/
noncomputable def Try.pinned : Pinned := { name := "ytpkeanlcmjbgnad", sum := "5d94c7a7c7f9ea3d65f6557e1ec2d6c16356b23fc69837911aaf94f2010bb7b1", checked := Try.checked }
namespace Rows
def none {H : Type} : Left H := { results := [], args := [] }

/-- 'laws.FnExactRecvFault': WHATEVER THE INPUT: true; the input reads as it did. -/
def fnExactRecvFaultSpec : ChangeSpec := { name := "fnExactRecvFault", fn := fun _ => fun
  | [d] => { results := [.lit (.bool true)], args := [d] }
  | _ => none }
def fnExactRecvFaultRow : OpenClaim := { program := "ytpkeanlcmjbgnad", sum := "5d94c7a7c7f9ea3d65f6557e1ec2d6c16356b23fc69837911aaf94f2010bb7b1", func := "loop.example/g00670/laws.FnExactRecvFault", spec := "fnExactRecvFault", unfollowed := true, recurses := true, apart := false }
def FnExactRecvFaultSaid : Prop := fnExactRecvFaultRow.holds Try.pinned (OpenSpec.ofChange fnExactRecvFaultSpec)

/-- ITS FALSE NEIGHBOUR: 'it returns false'. Refute it at one input. -/
def fnExactRecvFaultWrong : ChangeSpec := { name := "fnExactRecvFault", fn := fun _ => fun
  | [d] => { results := [.lit (.bool false)], args := [d] }
  | _ => none }
def FnExactRecvFaultWrongFalsely : Prop := fnExactRecvFaultRow.holds Try.pinned (OpenSpec.ofChange fnExactRecvFaultWrong)

/-- 'laws.FnExactLeftIn': WHATEVER THE INPUT: true; the input reads as it did. -/
def fnExactLeftInSpec : ChangeSpec := { name := "fnExactLeftIn", fn := fun _ => fun
  | [d] => { results := [.lit (.bool true)], args := [d] }
  | _ => none }
def fnExactLeftInRow : OpenClaim := { program := "ytpkeanlcmjbgnad", sum := "5d94c7a7c7f9ea3d65f6557e1ec2d6c16356b23fc69837911aaf94f2010bb7b1", func := "loop.example/g00670/laws.FnExactLeftIn", spec := "fnExactLeftIn", unfollowed := true, recurses := true, apart := false }
def FnExactLeftInSaid : Prop := fnExactLeftInRow.holds Try.pinned (OpenSpec.ofChange fnExactLeftInSpec)

/-- ITS FALSE NEIGHBOUR: 'it returns false'. Refute it at one input. -/
def fnExactLeftInWrong : ChangeSpec := { name := "fnExactLeftIn", fn := fun _ => fun
  | [d] => { results := [.lit (.bool false)], args := [d] }
  | _ => none }
def FnExactLeftInWrongFalsely : Prop := fnExactLeftInRow.holds Try.pinned (OpenSpec.ofChange fnExactLeftInWrong)

/-- 'laws.FnExactFoldOps': WHATEVER THE INPUT: true; the input reads as it did. -/
def fnExactFoldOpsSpec : ChangeSpec := { name := "fnExactFoldOps", fn := fun _ => fun
  | [d1, d2] => { results := [.lit (.bool true)], args := [d1, d2] }
  | _ => none }
def fnExactFoldOpsRow : OpenClaim := { program := "ytpkeanlcmjbgnad", sum := "5d94c7a7c7f9ea3d65f6557e1ec2d6c16356b23fc69837911aaf94f2010bb7b1", func := "loop.example/g00670/laws.FnExactFoldOps", spec := "fnExactFoldOps", unfollowed := true, recurses := true, apart := false }
def FnExactFoldOpsSaid : Prop := fnExactFoldOpsRow.holds Try.pinned (OpenSpec.ofChange fnExactFoldOpsSpec)

/-- ITS FALSE NEIGHBOUR: 'it returns false'. Refute it at one input. -/
def fnExactFoldOpsWrong : ChangeSpec := { name := "fnExactFoldOps", fn := fun _ => fun
  | [d1, d2] => { results := [.lit (.bool false)], args := [d1, d2] }
  | _ => none }
def FnExactFoldOpsWrongFalsely : Prop := fnExactFoldOpsRow.holds Try.pinned (OpenSpec.ofChange fnExactFoldOpsWrong)

/-- 'laws.FnExactTakeAnswer': WHATEVER THE INPUT: true; the input reads as it did. -/
def fnExactTakeAnswerSpec : ChangeSpec := { name := "fnExactTakeAnswer", fn := fun _ => fun
  | [d1, d2] => { results := [.lit (.bool true)], args := [d1, d2] }
  | _ => none }
def fnExactTakeAnswerRow : OpenClaim := { program := "ytpkeanlcmjbgnad", sum := "5d94c7a7c7f9ea3d65f6557e1ec2d6c16356b23fc69837911aaf94f2010bb7b1", func := "loop.example/g00670/laws.FnExactTakeAnswer", spec := "fnExactTakeAnswer", apart := false }
def FnExactTakeAnswerSaid : Prop := fnExactTakeAnswerRow.holds Try.pinned (OpenSpec.ofChange fnExactTakeAnswerSpec)

/-- ITS FALSE NEIGHBOUR: 'it returns false'. Refute it at one input. -/
def fnExactTakeAnswerWrong : ChangeSpec := { name := "fnExactTakeAnswer", fn := fun _ => fun
  | [d1, d2] => { results := [.lit (.bool false)], args := [d1, d2] }
  | _ => none }
def FnExactTakeAnswerWrongFalsely : Prop := fnExactTakeAnswerRow.holds Try.pinned (OpenSpec.ofChange fnExactTakeAnswerWrong)

/-- 'laws.FnSacks': WHATEVER THE INPUT: true; the input reads as it did. -/
def fnSacksSpec : ChangeSpec := { name := "fnSacks", fn := fun _ => fun
  | [d] => { results := [.lit (.bool true)], args := [d] }
  | _ => none }
def fnSacksRow : OpenClaim := { program := "ytpkeanlcmjbgnad", sum := "5d94c7a7c7f9ea3d65f6557e1ec2d6c16356b23fc69837911aaf94f2010bb7b1", func := "loop.example/g00670/laws.FnSacks", spec := "fnSacks", unfollowed := true, recurses := true, apart := false }
def FnSacksSaid : Prop := fnSacksRow.holds Try.pinned (OpenSpec.ofChange fnSacksSpec)

/-- ITS FALSE NEIGHBOUR: 'it returns false'. Refute it at one input. -/
def fnSacksWrong : ChangeSpec := { name := "fnSacks", fn := fun _ => fun
  | [d] => { results := [.lit (.bool false)], args := [d] }
  | _ => none }
def FnSacksWrongFalsely : Prop := fnSacksRow.holds Try.pinned (OpenSpec.ofChange fnSacksWrong)

/-- 'laws.FnExactSackOf': WHATEVER THE INPUT: true; the input reads as it did. -/
def fnExactSackOfSpec : ChangeSpec := { name := "fnExactSackOf", fn := fun _ => fun
  | [d] => { results := [.lit (.bool true)], args := [d] }
  | _ => none }
def fnExactSackOfRow : OpenClaim := { program := "ytpkeanlcmjbgnad", sum := "5d94c7a7c7f9ea3d65f6557e1ec2d6c16356b23fc69837911aaf94f2010bb7b1", func := "loop.example/g00670/laws.FnExactSackOf", spec := "fnExactSackOf", unfollowed := true, recurses := true, apart := false }
def FnExactSackOfSaid : Prop := fnExactSackOfRow.holds Try.pinned (OpenSpec.ofChange fnExactSackOfSpec)

/-- ITS FALSE NEIGHBOUR: 'it returns false'. Refute it at one input. -/
def fnExactSackOfWrong : ChangeSpec := { name := "fnExactSackOf", fn := fun _ => fun
  | [d] => { results := [.lit (.bool false)], args := [d] }
  | _ => none }
def FnExactSackOfWrongFalsely : Prop := fnExactSackOfRow.holds Try.pinned (OpenSpec.ofChange fnExactSackOfWrong)

/-- 'laws.FnAcks': WHATEVER THE INPUT: true; the input reads as it did. -/
def fnAcksSpec : ChangeSpec := { name := "fnAcks", fn := fun _ => fun
  | [d] => { results := [.lit (.bool true)], args := [d] }
  | _ => none }
def fnAcksRow : OpenClaim := { program := "ytpkeanlcmjbgnad", sum := "5d94c7a7c7f9ea3d65f6557e1ec2d6c16356b23fc69837911aaf94f2010bb7b1", func := "loop.example/g00670/laws.FnAcks", spec := "fnAcks", unfollowed := true, recurses := true, apart := false }
def FnAcksSaid : Prop := fnAcksRow.holds Try.pinned (OpenSpec.ofChange fnAcksSpec)

/-- ITS FALSE NEIGHBOUR: 'it returns false'. Refute it at one input. -/
def fnAcksWrong : ChangeSpec := { name := "fnAcks", fn := fun _ => fun
  | [d] => { results := [.lit (.bool false)], args := [d] }
  | _ => none }
def FnAcksWrongFalsely : Prop := fnAcksRow.holds Try.pinned (OpenSpec.ofChange fnAcksWrong)

/-- 'laws.FnSends': WHATEVER THE INPUT: true; the input reads as it did. -/
def fnSendsSpec : ChangeSpec := { name := "fnSends", fn := fun _ => fun
  | [d] => { results := [.lit (.bool true)], args := [d] }
  | _ => none }
def fnSendsRow : OpenClaim := { program := "ytpkeanlcmjbgnad", sum := "5d94c7a7c7f9ea3d65f6557e1ec2d6c16356b23fc69837911aaf94f2010bb7b1", func := "loop.example/g00670/laws.FnSends", spec := "fnSends", unfollowed := true, recurses := true, apart := false }
def FnSendsSaid : Prop := fnSendsRow.holds Try.pinned (OpenSpec.ofChange fnSendsSpec)

/-- ITS FALSE NEIGHBOUR: 'it returns false'. Refute it at one input. -/
def fnSendsWrong : ChangeSpec := { name := "fnSends", fn := fun _ => fun
  | [d] => { results := [.lit (.bool false)], args := [d] }
  | _ => none }
def FnSendsWrongFalsely : Prop := fnSendsRow.holds Try.pinned (OpenSpec.ofChange fnSendsWrong)

/-- 'laws.FnExactHandleAsk': WHATEVER THE INPUT: true; the input reads as it did. -/
def fnExactHandleAskSpec : ChangeSpec := { name := "fnExactHandleAsk", fn := fun _ => fun
  | [d1, d2, d3] => { results := [.lit (.bool true)], args := [d1, d2, d3] }
  | _ => none }
def fnExactHandleAskRow : OpenClaim := { program := "ytpkeanlcmjbgnad", sum := "5d94c7a7c7f9ea3d65f6557e1ec2d6c16356b23fc69837911aaf94f2010bb7b1", func := "loop.example/g00670/laws.FnExactHandleAsk", spec := "fnExactHandleAsk", unfollowed := true, recurses := true, apart := false }
def FnExactHandleAskSaid : Prop := fnExactHandleAskRow.holds Try.pinned (OpenSpec.ofChange fnExactHandleAskSpec)

/-- ITS FALSE NEIGHBOUR: 'it returns false'. Refute it at one input. -/
def fnExactHandleAskWrong : ChangeSpec := { name := "fnExactHandleAsk", fn := fun _ => fun
  | [d1, d2, d3] => { results := [.lit (.bool false)], args := [d1, d2, d3] }
  | _ => none }
def FnExactHandleAskWrongFalsely : Prop := fnExactHandleAskRow.holds Try.pinned (OpenSpec.ofChange fnExactHandleAskWrong)

/-- 'laws.FnExactEmitDatas': WHATEVER THE INPUT: true; the input reads as it did. -/
def fnExactEmitDatasSpec : ChangeSpec := { name := "fnExactEmitDatas", fn := fun _ => fun
  | [d1, d2, d3, d4] => { results := [.lit (.bool true)], args := [d1, d2, d3, d4] }
  | _ => none }
def fnExactEmitDatasRow : OpenClaim := { program := "ytpkeanlcmjbgnad", sum := "5d94c7a7c7f9ea3d65f6557e1ec2d6c16356b23fc69837911aaf94f2010bb7b1", func := "loop.example/g00670/laws.FnExactEmitDatas", spec := "fnExactEmitDatas", unfollowed := true, recurses := true, apart := false }
def FnExactEmitDatasSaid : Prop := fnExactEmitDatasRow.holds Try.pinned (OpenSpec.ofChange fnExactEmitDatasSpec)

/-- ITS FALSE NEIGHBOUR: 'it returns false'. Refute it at one input. -/
def fnExactEmitDatasWrong : ChangeSpec := { name := "fnExactEmitDatas", fn := fun _ => fun
  | [d1, d2, d3, d4] => { results := [.lit (.bool false)], args := [d1, d2, d3, d4] }
  | _ => none }
def FnExactEmitDatasWrongFalsely : Prop := fnExactEmitDatasRow.holds Try.pinned (OpenSpec.ofChange fnExactEmitDatasWrong)

/- THE SECOND FORM. 'bulk': how many values and letters a reading holds, each counted each time it is reached (what is shared counts as often as it is met; a slice's spare places count too). A statement '..UptoSaid' is the law's where the arguments, and the package variables that the reading takes, are together of bulk at most 1048576: NARROWER than '..Said'. Prove '..Said' where nothing that the law and all that it calls make is longer than what came in: it says more and counts as full. Else prove '..UptoSaid'. A law counts once. -/
mutual
def uptoBulk {H : Type} : DataW H → Nat
  | .lit (.string bytes) => bytes.length + 1
  | .lit _ => 1
  | .nil => 1
  | .ptr d => uptoBulk d + 1
  | .slice elems spare => uptoBulkAll elems + uptoBulkAll spare + 1
  | .agg parts => uptoBulkAll parts + 1
  | .iface _ d => uptoBulk d + 1
  | .map entries => uptoBulkEntries entries + 1
  | .held _ => 1
def uptoBulkAll {H : Type} : List (DataW H) → Nat
  | [] => 0
  | d :: r => uptoBulk d + uptoBulkAll r
def uptoBulkEntries {H : Type} : List (Lit × DataW H) → Nat
  | [] => 0
  | x :: r => uptoBulkEntry x + uptoBulkEntries r
def uptoBulkEntry {H : Type} : Lit × DataW H → Nat
  | (.string bytes, d) => bytes.length + uptoBulk d + 1
  | (_, d) => uptoBulk d + 1
 end
def uptoSmall : (H : Type) → List (DataW H) → Bool := fun _ ds => decide (uptoBulkAll ds ≤ 1048576)
def OpenSpec.upto (s : _root_.Go.ChangeSpec) : _root_.Go.OpenSpec := { _root_.Go.OpenSpec.ofChange s with cond := some uptoSmall }

/-- 'laws.FnExactRecvFault', WHERE WHAT IT READS IS OF BULK AT MOST 1048576: true; the input reads as it did. -/
def fnExactRecvFaultUptoRow : OpenClaim := { program := "ytpkeanlcmjbgnad", sum := "5d94c7a7c7f9ea3d65f6557e1ec2d6c16356b23fc69837911aaf94f2010bb7b1", func := "loop.example/g00670/laws.FnExactRecvFault", spec := "fnExactRecvFault", unfollowed := true, recurses := true, apart := false, narrowed := true }
def FnExactRecvFaultUptoSaid : Prop := fnExactRecvFaultUptoRow.holds Try.pinned (OpenSpec.upto fnExactRecvFaultSpec)

/-- 'laws.FnExactLeftIn', WHERE WHAT IT READS IS OF BULK AT MOST 1048576: true; the input reads as it did. -/
def fnExactLeftInUptoRow : OpenClaim := { program := "ytpkeanlcmjbgnad", sum := "5d94c7a7c7f9ea3d65f6557e1ec2d6c16356b23fc69837911aaf94f2010bb7b1", func := "loop.example/g00670/laws.FnExactLeftIn", spec := "fnExactLeftIn", unfollowed := true, recurses := true, apart := false, narrowed := true }
def FnExactLeftInUptoSaid : Prop := fnExactLeftInUptoRow.holds Try.pinned (OpenSpec.upto fnExactLeftInSpec)

/-- 'laws.FnExactFoldOps', WHERE WHAT IT READS IS OF BULK AT MOST 1048576: true; the input reads as it did. -/
def fnExactFoldOpsUptoRow : OpenClaim := { program := "ytpkeanlcmjbgnad", sum := "5d94c7a7c7f9ea3d65f6557e1ec2d6c16356b23fc69837911aaf94f2010bb7b1", func := "loop.example/g00670/laws.FnExactFoldOps", spec := "fnExactFoldOps", unfollowed := true, recurses := true, apart := false, narrowed := true }
def FnExactFoldOpsUptoSaid : Prop := fnExactFoldOpsUptoRow.holds Try.pinned (OpenSpec.upto fnExactFoldOpsSpec)

/-- 'laws.FnExactTakeAnswer', WHERE WHAT IT READS IS OF BULK AT MOST 1048576: true; the input reads as it did. -/
def fnExactTakeAnswerUptoRow : OpenClaim := { program := "ytpkeanlcmjbgnad", sum := "5d94c7a7c7f9ea3d65f6557e1ec2d6c16356b23fc69837911aaf94f2010bb7b1", func := "loop.example/g00670/laws.FnExactTakeAnswer", spec := "fnExactTakeAnswer", apart := false, narrowed := true }
def FnExactTakeAnswerUptoSaid : Prop := fnExactTakeAnswerUptoRow.holds Try.pinned (OpenSpec.upto fnExactTakeAnswerSpec)

/-- 'laws.FnSacks', WHERE WHAT IT READS IS OF BULK AT MOST 1048576: true; the input reads as it did. -/
def fnSacksUptoRow : OpenClaim := { program := "ytpkeanlcmjbgnad", sum := "5d94c7a7c7f9ea3d65f6557e1ec2d6c16356b23fc69837911aaf94f2010bb7b1", func := "loop.example/g00670/laws.FnSacks", spec := "fnSacks", unfollowed := true, recurses := true, apart := false, narrowed := true }
def FnSacksUptoSaid : Prop := fnSacksUptoRow.holds Try.pinned (OpenSpec.upto fnSacksSpec)

/-- 'laws.FnExactSackOf', WHERE WHAT IT READS IS OF BULK AT MOST 1048576: true; the input reads as it did. -/
def fnExactSackOfUptoRow : OpenClaim := { program := "ytpkeanlcmjbgnad", sum := "5d94c7a7c7f9ea3d65f6557e1ec2d6c16356b23fc69837911aaf94f2010bb7b1", func := "loop.example/g00670/laws.FnExactSackOf", spec := "fnExactSackOf", unfollowed := true, recurses := true, apart := false, narrowed := true }
def FnExactSackOfUptoSaid : Prop := fnExactSackOfUptoRow.holds Try.pinned (OpenSpec.upto fnExactSackOfSpec)

/-- 'laws.FnAcks', WHERE WHAT IT READS IS OF BULK AT MOST 1048576: true; the input reads as it did. -/
def fnAcksUptoRow : OpenClaim := { program := "ytpkeanlcmjbgnad", sum := "5d94c7a7c7f9ea3d65f6557e1ec2d6c16356b23fc69837911aaf94f2010bb7b1", func := "loop.example/g00670/laws.FnAcks", spec := "fnAcks", unfollowed := true, recurses := true, apart := false, narrowed := true }
def FnAcksUptoSaid : Prop := fnAcksUptoRow.holds Try.pinned (OpenSpec.upto fnAcksSpec)

/-- 'laws.FnSends', WHERE WHAT IT READS IS OF BULK AT MOST 1048576: true; the input reads as it did. -/
def fnSendsUptoRow : OpenClaim := { program := "ytpkeanlcmjbgnad", sum := "5d94c7a7c7f9ea3d65f6557e1ec2d6c16356b23fc69837911aaf94f2010bb7b1", func := "loop.example/g00670/laws.FnSends", spec := "fnSends", unfollowed := true, recurses := true, apart := false, narrowed := true }
def FnSendsUptoSaid : Prop := fnSendsUptoRow.holds Try.pinned (OpenSpec.upto fnSendsSpec)

/-- 'laws.FnExactHandleAsk', WHERE WHAT IT READS IS OF BULK AT MOST 1048576: true; the input reads as it did. -/
def fnExactHandleAskUptoRow : OpenClaim := { program := "ytpkeanlcmjbgnad", sum := "5d94c7a7c7f9ea3d65f6557e1ec2d6c16356b23fc69837911aaf94f2010bb7b1", func := "loop.example/g00670/laws.FnExactHandleAsk", spec := "fnExactHandleAsk", unfollowed := true, recurses := true, apart := false, narrowed := true }
def FnExactHandleAskUptoSaid : Prop := fnExactHandleAskUptoRow.holds Try.pinned (OpenSpec.upto fnExactHandleAskSpec)

/-- 'laws.FnExactEmitDatas', WHERE WHAT IT READS IS OF BULK AT MOST 1048576: true; the input reads as it did. -/
def fnExactEmitDatasUptoRow : OpenClaim := { program := "ytpkeanlcmjbgnad", sum := "5d94c7a7c7f9ea3d65f6557e1ec2d6c16356b23fc69837911aaf94f2010bb7b1", func := "loop.example/g00670/laws.FnExactEmitDatas", spec := "fnExactEmitDatas", unfollowed := true, recurses := true, apart := false, narrowed := true }
def FnExactEmitDatasUptoSaid : Prop := fnExactEmitDatasUptoRow.holds Try.pinned (OpenSpec.upto fnExactEmitDatasSpec)

end Rows
end Go.Proofs.Ytpkeanlcmjbgnad
