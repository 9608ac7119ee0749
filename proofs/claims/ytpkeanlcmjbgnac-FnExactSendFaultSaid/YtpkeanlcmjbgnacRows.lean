/-
  No cell of these rows narrows 'for every input' (looked for: loops, veiled, ifaces, maps, wideKeys, modest, calm, conditions, laid).
  DERIVED. THE GIVEN ROWS OF THIS SEAT. 10 by the template 'for every input the law returns true; each argument reads behind the call as it read before'; 0 by the template 'total and deterministic' (their statements: YtpkeanlcmjbgnacTotals.lean).
  GIVEN WITH THE SEED: the statements are not yours to turn. If you find one false, say at which input.
  Laid BY PROGRAM, IN A SANDBOX (cutbox-rows.mjs): the forced cells as the released guide's own fill.sh prints them over the translation c91258dea404fb75… (all of the seat's roots in one cut). By AI agents, Wed Nov 11 2026. No macro, syntax, notation, axiom, sorry.
-/
import Derived.Test.YtpkeanlcmjbgnacChecked
import GoSem.Claim
import GoSem.ClaimJoined
import GoSem.ClaimMapViews
import Derived.JoinedTies
import Derived.KernelRfl
namespace Go.Proofs.Ytpkeanlcmjbgnac
/- THE CELL 'sum', in the pinned program and in every row, IS THE sha256 OF THE DUMP (.gsa) THAT YtpkeanlcmjbgnacProg.lean LOADS. Nothing in Lean hashes anything: it is a label: what it is worth is what the hold of that sum in a sandbox is worth. -/
noncomputable def Try.pinned : Pinned := { name := "ytpkeanlcmjbgnac", sum := "c91258dea404fb758370a45ce19036da62cb98d35d11734f23bbaae98676a49e", checked := Try.checked }
namespace Rows
def none {H : Type} : Left H := { results := [], args := [] }

/-- 'laws.FnExactNewRecv': WHATEVER THE INPUT: true; the input reads as it did. -/
def fnExactNewRecvSpec : ChangeSpec := { name := "fnExactNewRecv", fn := fun _ => fun
  | [d] => { results := [.lit (.bool true)], args := [d] }
  | _ => none }
def fnExactNewRecvRow : OpenClaim := { program := "ytpkeanlcmjbgnac", sum := "c91258dea404fb758370a45ce19036da62cb98d35d11734f23bbaae98676a49e", func := "loop.example/g00670/laws.FnExactNewRecv", spec := "fnExactNewRecv", apart := false }
def FnExactNewRecvSaid : Prop := fnExactNewRecvRow.holds Try.pinned (OpenSpec.ofChange fnExactNewRecvSpec)

/-- ITS FALSE NEIGHBOUR: 'it returns false'. Refute it at one input. -/
def fnExactNewRecvWrong : ChangeSpec := { name := "fnExactNewRecv", fn := fun _ => fun
  | [d] => { results := [.lit (.bool false)], args := [d] }
  | _ => none }
def FnExactNewRecvWrongFalsely : Prop := fnExactNewRecvRow.holds Try.pinned (OpenSpec.ofChange fnExactNewRecvWrong)

/-- 'laws.FnExactPushOp': WHATEVER THE INPUT: true; the input reads as it did. -/
def fnExactPushOpSpec : ChangeSpec := { name := "fnExactPushOp", fn := fun _ => fun
  | [d1, d2] => { results := [.lit (.bool true)], args := [d1, d2] }
  | _ => none }
def fnExactPushOpRow : OpenClaim := { program := "ytpkeanlcmjbgnac", sum := "c91258dea404fb758370a45ce19036da62cb98d35d11734f23bbaae98676a49e", func := "loop.example/g00670/laws.FnExactPushOp", spec := "fnExactPushOp", apart := false }
def FnExactPushOpSaid : Prop := fnExactPushOpRow.holds Try.pinned (OpenSpec.ofChange fnExactPushOpSpec)

/-- ITS FALSE NEIGHBOUR: 'it returns false'. Refute it at one input. -/
def fnExactPushOpWrong : ChangeSpec := { name := "fnExactPushOp", fn := fun _ => fun
  | [d1, d2] => { results := [.lit (.bool false)], args := [d1, d2] }
  | _ => none }
def FnExactPushOpWrongFalsely : Prop := fnExactPushOpRow.holds Try.pinned (OpenSpec.ofChange fnExactPushOpWrong)

/-- 'laws.FnExactStartAsk': WHATEVER THE INPUT: true; the input reads as it did. -/
def fnExactStartAskSpec : ChangeSpec := { name := "fnExactStartAsk", fn := fun _ => fun
  | [d] => { results := [.lit (.bool true)], args := [d] }
  | _ => none }
def fnExactStartAskRow : OpenClaim := { program := "ytpkeanlcmjbgnac", sum := "c91258dea404fb758370a45ce19036da62cb98d35d11734f23bbaae98676a49e", func := "loop.example/g00670/laws.FnExactStartAsk", spec := "fnExactStartAsk", apart := false }
def FnExactStartAskSaid : Prop := fnExactStartAskRow.holds Try.pinned (OpenSpec.ofChange fnExactStartAskSpec)

/-- ITS FALSE NEIGHBOUR: 'it returns false'. Refute it at one input. -/
def fnExactStartAskWrong : ChangeSpec := { name := "fnExactStartAsk", fn := fun _ => fun
  | [d] => { results := [.lit (.bool false)], args := [d] }
  | _ => none }
def FnExactStartAskWrongFalsely : Prop := fnExactStartAskRow.holds Try.pinned (OpenSpec.ofChange fnExactStartAskWrong)

/-- 'laws.FnExactNotePath': WHATEVER THE INPUT: true; the input reads as it did. -/
def fnExactNotePathSpec : ChangeSpec := { name := "fnExactNotePath", fn := fun _ => fun
  | [d1, d2, d3] => { results := [.lit (.bool true)], args := [d1, d2, d3] }
  | _ => none }
def fnExactNotePathRow : OpenClaim := { program := "ytpkeanlcmjbgnac", sum := "c91258dea404fb758370a45ce19036da62cb98d35d11734f23bbaae98676a49e", func := "loop.example/g00670/laws.FnExactNotePath", spec := "fnExactNotePath", unfollowed := true, recurses := true, apart := false }
def FnExactNotePathSaid : Prop := fnExactNotePathRow.holds Try.pinned (OpenSpec.ofChange fnExactNotePathSpec)

/-- ITS FALSE NEIGHBOUR: 'it returns false'. Refute it at one input. -/
def fnExactNotePathWrong : ChangeSpec := { name := "fnExactNotePath", fn := fun _ => fun
  | [d1, d2, d3] => { results := [.lit (.bool false)], args := [d1, d2, d3] }
  | _ => none }
def FnExactNotePathWrongFalsely : Prop := fnExactNotePathRow.holds Try.pinned (OpenSpec.ofChange fnExactNotePathWrong)

/-- 'laws.FnExactNewSend': WHATEVER THE INPUT: true; the input reads as it did. -/
def fnExactNewSendSpec : ChangeSpec := { name := "fnExactNewSend", fn := fun _ => fun
  | [d] => { results := [.lit (.bool true)], args := [d] }
  | _ => none }
def fnExactNewSendRow : OpenClaim := { program := "ytpkeanlcmjbgnac", sum := "c91258dea404fb758370a45ce19036da62cb98d35d11734f23bbaae98676a49e", func := "loop.example/g00670/laws.FnExactNewSend", spec := "fnExactNewSend", apart := false }
def FnExactNewSendSaid : Prop := fnExactNewSendRow.holds Try.pinned (OpenSpec.ofChange fnExactNewSendSpec)

/-- ITS FALSE NEIGHBOUR: 'it returns false'. Refute it at one input. -/
def fnExactNewSendWrong : ChangeSpec := { name := "fnExactNewSend", fn := fun _ => fun
  | [d] => { results := [.lit (.bool false)], args := [d] }
  | _ => none }
def FnExactNewSendWrongFalsely : Prop := fnExactNewSendRow.holds Try.pinned (OpenSpec.ofChange fnExactNewSendWrong)

/-- 'laws.FnExactApplyOp': WHATEVER THE INPUT: true; the input reads as it did. -/
def fnExactApplyOpSpec : ChangeSpec := { name := "fnExactApplyOp", fn := fun _ => fun
  | [d1, d2] => { results := [.lit (.bool true)], args := [d1, d2] }
  | _ => none }
def fnExactApplyOpRow : OpenClaim := { program := "ytpkeanlcmjbgnac", sum := "c91258dea404fb758370a45ce19036da62cb98d35d11734f23bbaae98676a49e", func := "loop.example/g00670/laws.FnExactApplyOp", spec := "fnExactApplyOp", unfollowed := true, recurses := true, apart := false }
def FnExactApplyOpSaid : Prop := fnExactApplyOpRow.holds Try.pinned (OpenSpec.ofChange fnExactApplyOpSpec)

/-- ITS FALSE NEIGHBOUR: 'it returns false'. Refute it at one input. -/
def fnExactApplyOpWrong : ChangeSpec := { name := "fnExactApplyOp", fn := fun _ => fun
  | [d1, d2] => { results := [.lit (.bool false)], args := [d1, d2] }
  | _ => none }
def FnExactApplyOpWrongFalsely : Prop := fnExactApplyOpRow.holds Try.pinned (OpenSpec.ofChange fnExactApplyOpWrong)

/-- 'laws.FnExactJoinPieces': WHATEVER THE INPUT: true; the input reads as it did. -/
def fnExactJoinPiecesSpec : ChangeSpec := { name := "fnExactJoinPieces", fn := fun _ => fun
  | [d] => { results := [.lit (.bool true)], args := [d] }
  | _ => none }
def fnExactJoinPiecesRow : OpenClaim := { program := "ytpkeanlcmjbgnac", sum := "c91258dea404fb758370a45ce19036da62cb98d35d11734f23bbaae98676a49e", func := "loop.example/g00670/laws.FnExactJoinPieces", spec := "fnExactJoinPieces", apart := false }
def FnExactJoinPiecesSaid : Prop := fnExactJoinPiecesRow.holds Try.pinned (OpenSpec.ofChange fnExactJoinPiecesSpec)

/-- ITS FALSE NEIGHBOUR: 'it returns false'. Refute it at one input. -/
def fnExactJoinPiecesWrong : ChangeSpec := { name := "fnExactJoinPieces", fn := fun _ => fun
  | [d] => { results := [.lit (.bool false)], args := [d] }
  | _ => none }
def FnExactJoinPiecesWrongFalsely : Prop := fnExactJoinPiecesRow.holds Try.pinned (OpenSpec.ofChange fnExactJoinPiecesWrong)

/-- 'laws.FnCuts': WHATEVER THE INPUT: true; the input reads as it did. -/
def fnCutsSpec : ChangeSpec := { name := "fnCuts", fn := fun _ => fun
  | [d] => { results := [.lit (.bool true)], args := [d] }
  | _ => none }
def fnCutsRow : OpenClaim := { program := "ytpkeanlcmjbgnac", sum := "c91258dea404fb758370a45ce19036da62cb98d35d11734f23bbaae98676a49e", func := "loop.example/g00670/laws.FnCuts", spec := "fnCuts", unfollowed := true, recurses := true, apart := false }
def FnCutsSaid : Prop := fnCutsRow.holds Try.pinned (OpenSpec.ofChange fnCutsSpec)

/-- ITS FALSE NEIGHBOUR: 'it returns false'. Refute it at one input. -/
def fnCutsWrong : ChangeSpec := { name := "fnCuts", fn := fun _ => fun
  | [d] => { results := [.lit (.bool false)], args := [d] }
  | _ => none }
def FnCutsWrongFalsely : Prop := fnCutsRow.holds Try.pinned (OpenSpec.ofChange fnCutsWrong)

/-- 'laws.FnOps': WHATEVER THE INPUT: true; the input reads as it did. -/
def fnOpsSpec : ChangeSpec := { name := "fnOps", fn := fun _ => fun
  | [d] => { results := [.lit (.bool true)], args := [d] }
  | _ => none }
def fnOpsRow : OpenClaim := { program := "ytpkeanlcmjbgnac", sum := "c91258dea404fb758370a45ce19036da62cb98d35d11734f23bbaae98676a49e", func := "loop.example/g00670/laws.FnOps", spec := "fnOps", unfollowed := true, recurses := true, apart := false }
def FnOpsSaid : Prop := fnOpsRow.holds Try.pinned (OpenSpec.ofChange fnOpsSpec)

/-- ITS FALSE NEIGHBOUR: 'it returns false'. Refute it at one input. -/
def fnOpsWrong : ChangeSpec := { name := "fnOps", fn := fun _ => fun
  | [d] => { results := [.lit (.bool false)], args := [d] }
  | _ => none }
def FnOpsWrongFalsely : Prop := fnOpsRow.holds Try.pinned (OpenSpec.ofChange fnOpsWrong)

/-- 'laws.FnExactSendFault': WHATEVER THE INPUT: true; the input reads as it did. -/
def fnExactSendFaultSpec : ChangeSpec := { name := "fnExactSendFault", fn := fun _ => fun
  | [d] => { results := [.lit (.bool true)], args := [d] }
  | _ => none }
def fnExactSendFaultRow : OpenClaim := { program := "ytpkeanlcmjbgnac", sum := "c91258dea404fb758370a45ce19036da62cb98d35d11734f23bbaae98676a49e", func := "loop.example/g00670/laws.FnExactSendFault", spec := "fnExactSendFault", unfollowed := true, recurses := true, apart := false }
def FnExactSendFaultSaid : Prop := fnExactSendFaultRow.holds Try.pinned (OpenSpec.ofChange fnExactSendFaultSpec)

/-- ITS FALSE NEIGHBOUR: 'it returns false'. Refute it at one input. -/
def fnExactSendFaultWrong : ChangeSpec := { name := "fnExactSendFault", fn := fun _ => fun
  | [d] => { results := [.lit (.bool false)], args := [d] }
  | _ => none }
def FnExactSendFaultWrongFalsely : Prop := fnExactSendFaultRow.holds Try.pinned (OpenSpec.ofChange fnExactSendFaultWrong)

/- THE SECOND FORM. 'bulk': how many values and letters a reading holds, each counted each time it is reached (what is shared counts as often as it is met; a slice's spare places count too). A statement '..UptoSaid' is the law's where the arguments, and the package variables that the reading takes, are together of bulk at most 1048576: NARROWER than '..Said'. Prove '..Said' where nothing that the law and all that it calls make is longer than what came in: it says more and counts as full. Else prove '..UptoSaid'. A law counts once. -/
mutual
def uptoBulk {H : Type} : DataW H → Nat
  | .lit (.string bytes) => bytes.length + 1
  | .lit _ => 1
  | .nil => 1
  | .ptr d => uptoBulk d + 1
  | .slice elems spare => uptoBulkAll elems + uptoBulkAll spare + 1
  | .agg parts => uptoBulkAll parts + 1
  | .iface _ d => uptoBulk d + 1
  | .map entries => uptoBulkEntries entries + 1
  | .held _ => 1
def uptoBulkAll {H : Type} : List (DataW H) → Nat
  | [] => 0
  | d :: r => uptoBulk d + uptoBulkAll r
def uptoBulkEntries {H : Type} : List (Lit × DataW H) → Nat
  | [] => 0
  | x :: r => uptoBulkEntry x + uptoBulkEntries r
def uptoBulkEntry {H : Type} : Lit × DataW H → Nat
  | (.string bytes, d) => bytes.length + uptoBulk d + 1
  | (_, d) => uptoBulk d + 1
 end
def uptoSmall : (H : Type) → List (DataW H) → Bool := fun _ ds => decide (uptoBulkAll ds ≤ 1048576)
def OpenSpec.upto (s : _root_.Go.ChangeSpec) : _root_.Go.OpenSpec := { _root_.Go.OpenSpec.ofChange s with cond := some uptoSmall }

/-- 'laws.FnExactNewRecv', WHERE WHAT IT READS IS OF BULK AT MOST 1048576: true; the input reads as it did. -/
def fnExactNewRecvUptoRow : OpenClaim := { program := "ytpkeanlcmjbgnac", sum := "c91258dea404fb758370a45ce19036da62cb98d35d11734f23bbaae98676a49e", func := "loop.example/g00670/laws.FnExactNewRecv", spec := "fnExactNewRecv", apart := false, narrowed := true }
def FnExactNewRecvUptoSaid : Prop := fnExactNewRecvUptoRow.holds Try.pinned (OpenSpec.upto fnExactNewRecvSpec)

/-- 'laws.FnExactPushOp', WHERE WHAT IT READS IS OF BULK AT MOST 1048576: true; the input reads as it did. -/
def fnExactPushOpUptoRow : OpenClaim := { program := "ytpkeanlcmjbgnac", sum := "c91258dea404fb758370a45ce19036da62cb98d35d11734f23bbaae98676a49e", func := "loop.example/g00670/laws.FnExactPushOp", spec := "fnExactPushOp", apart := false, narrowed := true }
def FnExactPushOpUptoSaid : Prop := fnExactPushOpUptoRow.holds Try.pinned (OpenSpec.upto fnExactPushOpSpec)

/-- 'laws.FnExactStartAsk', WHERE WHAT IT READS IS OF BULK AT MOST 1048576: true; the input reads as it did. -/
def fnExactStartAskUptoRow : OpenClaim := { program := "ytpkeanlcmjbgnac", sum := "c91258dea404fb758370a45ce19036da62cb98d35d11734f23bbaae98676a49e", func := "loop.example/g00670/laws.FnExactStartAsk", spec := "fnExactStartAsk", apart := false, narrowed := true }
def FnExactStartAskUptoSaid : Prop := fnExactStartAskUptoRow.holds Try.pinned (OpenSpec.upto fnExactStartAskSpec)

/-- 'laws.FnExactNotePath', WHERE WHAT IT READS IS OF BULK AT MOST 1048576: true; the input reads as it did. -/
def fnExactNotePathUptoRow : OpenClaim := { program := "ytpkeanlcmjbgnac", sum := "c91258dea404fb758370a45ce19036da62cb98d35d11734f23bbaae98676a49e", func := "loop.example/g00670/laws.FnExactNotePath", spec := "fnExactNotePath", unfollowed := true, recurses := true, apart := false, narrowed := true }
def FnExactNotePathUptoSaid : Prop := fnExactNotePathUptoRow.holds Try.pinned (OpenSpec.upto fnExactNotePathSpec)

/-- 'laws.FnExactNewSend', WHERE WHAT IT READS IS OF BULK AT MOST 1048576: true; the input reads as it did. -/
def fnExactNewSendUptoRow : OpenClaim := { program := "ytpkeanlcmjbgnac", sum := "c91258dea404fb758370a45ce19036da62cb98d35d11734f23bbaae98676a49e", func := "loop.example/g00670/laws.FnExactNewSend", spec := "fnExactNewSend", apart := false, narrowed := true }
def FnExactNewSendUptoSaid : Prop := fnExactNewSendUptoRow.holds Try.pinned (OpenSpec.upto fnExactNewSendSpec)

/-- 'laws.FnExactApplyOp', WHERE WHAT IT READS IS OF BULK AT MOST 1048576: true; the input reads as it did. -/
def fnExactApplyOpUptoRow : OpenClaim := { program := "ytpkeanlcmjbgnac", sum := "c91258dea404fb758370a45ce19036da62cb98d35d11734f23bbaae98676a49e", func := "loop.example/g00670/laws.FnExactApplyOp", spec := "fnExactApplyOp", unfollowed := true, recurses := true, apart := false, narrowed := true }
def FnExactApplyOpUptoSaid : Prop := fnExactApplyOpUptoRow.holds Try.pinned (OpenSpec.upto fnExactApplyOpSpec)

/-- 'laws.FnExactJoinPieces', WHERE WHAT IT READS IS OF BULK AT MOST 1048576: true; the input reads as it did. -/
def fnExactJoinPiecesUptoRow : OpenClaim := { program := "ytpkeanlcmjbgnac", sum := "c91258dea404fb758370a45ce19036da62cb98d35d11734f23bbaae98676a49e", func := "loop.example/g00670/laws.FnExactJoinPieces", spec := "fnExactJoinPieces", apart := false, narrowed := true }
def FnExactJoinPiecesUptoSaid : Prop := fnExactJoinPiecesUptoRow.holds Try.pinned (OpenSpec.upto fnExactJoinPiecesSpec)

/-- 'laws.FnCuts', WHERE WHAT IT READS IS OF BULK AT MOST 1048576: true; the input reads as it did. -/
def fnCutsUptoRow : OpenClaim := { program := "ytpkeanlcmjbgnac", sum := "c91258dea404fb758370a45ce19036da62cb98d35d11734f23bbaae98676a49e", func := "loop.example/g00670/laws.FnCuts", spec := "fnCuts", unfollowed := true, recurses := true, apart := false, narrowed := true }
def FnCutsUptoSaid : Prop := fnCutsUptoRow.holds Try.pinned (OpenSpec.upto fnCutsSpec)

/-- 'laws.FnOps', WHERE WHAT IT READS IS OF BULK AT MOST 1048576: true; the input reads as it did. -/
def fnOpsUptoRow : OpenClaim := { program := "ytpkeanlcmjbgnac", sum := "c91258dea404fb758370a45ce19036da62cb98d35d11734f23bbaae98676a49e", func := "loop.example/g00670/laws.FnOps", spec := "fnOps", unfollowed := true, recurses := true, apart := false, narrowed := true }
def FnOpsUptoSaid : Prop := fnOpsUptoRow.holds Try.pinned (OpenSpec.upto fnOpsSpec)

/-- 'laws.FnExactSendFault', WHERE WHAT IT READS IS OF BULK AT MOST 1048576: true; the input reads as it did. -/
def fnExactSendFaultUptoRow : OpenClaim := { program := "ytpkeanlcmjbgnac", sum := "c91258dea404fb758370a45ce19036da62cb98d35d11734f23bbaae98676a49e", func := "loop.example/g00670/laws.FnExactSendFault", spec := "fnExactSendFault", unfollowed := true, recurses := true, apart := false, narrowed := true }
def FnExactSendFaultUptoSaid : Prop := fnExactSendFaultUptoRow.holds Try.pinned (OpenSpec.upto fnExactSendFaultSpec)

end Rows
end Go.Proofs.Ytpkeanlcmjbgnac
