/-
  No cell of these rows narrows 'for every input' (looked for: loops, veiled, ifaces, maps, wideKeys, modest, calm, conditions, laid).
  DERIVED. THE GIVEN ROWS OF THIS SEAT. 8 by the template 'for every input the law returns true; each argument reads behind the call as it read before'; 0 by the template 'total and deterministic' (their statements: YtpkeanlcmjbgnabTotals.lean).
  GIVEN WITH THE SEED: the statements are not yours to turn. If you find one false, say at which input.
  Laid BY PROGRAM, IN A SANDBOX (cutbox-rows.mjs): the forced cells as the released guide's own fill.sh prints them over the translation 1d91764df25fabee… (all of the seat's roots in one cut). By AI agents, Wed Nov 11 2026. No macro, syntax, notation, axiom, sorry.
-/
import Derived.Test.YtpkeanlcmjbgnabChecked
import GoSem.Claim
import GoSem.ClaimJoined
import GoSem.ClaimMapViews
import Derived.JoinedTies
import Derived.KernelRfl
namespace Go.Proofs.Ytpkeanlcmjbgnab
/- THE CELL 'sum', in the pinned program and in every row, IS THE sha256 OF THE DUMP (.gsa) THAT YtpkeanlcmjbgnabProg.lean LOADS. Nothing in Lean hashes anything: it is a label: what it is worth is what the hold of that sum in a sandbox is worth. -/
noncomputable def Try.pinned : Pinned := { name := "ytpkeanlcmjbgnab", sum := "1d91764df25fabee6669abb99357f8971beecfa2ffd0b042d04e06efa24c398a", checked := Try.checked }
namespace Rows
def none {H : Type} : Left H := { results := [], args := [] }

/-- 'laws.FnExactSameRecvs': WHATEVER THE INPUT: true; the input reads as it did. -/
def fnExactSameRecvsSpec : ChangeSpec := { name := "fnExactSameRecvs", fn := fun _ => fun
  | [d1, d2] => { results := [.lit (.bool true)], args := [d1, d2] }
  | _ => none }
def fnExactSameRecvsRow : OpenClaim := { program := "ytpkeanlcmjbgnab", sum := "1d91764df25fabee6669abb99357f8971beecfa2ffd0b042d04e06efa24c398a", func := "loop.example/g00670/laws.FnExactSameRecvs", spec := "fnExactSameRecvs", unfollowed := true, recurses := true, apart := false }
def FnExactSameRecvsSaid : Prop := fnExactSameRecvsRow.holds Try.pinned (OpenSpec.ofChange fnExactSameRecvsSpec)

/-- ITS FALSE NEIGHBOUR: 'it returns false'. Refute it at one input. -/
def fnExactSameRecvsWrong : ChangeSpec := { name := "fnExactSameRecvs", fn := fun _ => fun
  | [d1, d2] => { results := [.lit (.bool false)], args := [d1, d2] }
  | _ => none }
def FnExactSameRecvsWrongFalsely : Prop := fnExactSameRecvsRow.holds Try.pinned (OpenSpec.ofChange fnExactSameRecvsWrong)

/-- 'laws.FnExactNewPaths': WHATEVER THE INPUT: true; the input reads as it did. -/
def fnExactNewPathsSpec : ChangeSpec := { name := "fnExactNewPaths", fn := fun _ => fun
  | [d] => { results := [.lit (.bool true)], args := [d] }
  | _ => none }
def fnExactNewPathsRow : OpenClaim := { program := "ytpkeanlcmjbgnab", sum := "1d91764df25fabee6669abb99357f8971beecfa2ffd0b042d04e06efa24c398a", func := "loop.example/g00670/laws.FnExactNewPaths", spec := "fnExactNewPaths", apart := false }
def FnExactNewPathsSaid : Prop := fnExactNewPathsRow.holds Try.pinned (OpenSpec.ofChange fnExactNewPathsSpec)

/-- ITS FALSE NEIGHBOUR: 'it returns false'. Refute it at one input. -/
def fnExactNewPathsWrong : ChangeSpec := { name := "fnExactNewPaths", fn := fun _ => fun
  | [d] => { results := [.lit (.bool false)], args := [d] }
  | _ => none }
def FnExactNewPathsWrongFalsely : Prop := fnExactNewPathsRow.holds Try.pinned (OpenSpec.ofChange fnExactNewPathsWrong)

/-- 'laws.FnExactAddrsOf': WHATEVER THE INPUT: true; the input reads as it did. -/
def fnExactAddrsOfSpec : ChangeSpec := { name := "fnExactAddrsOf", fn := fun _ => fun
  | [d] => { results := [.lit (.bool true)], args := [d] }
  | _ => none }
def fnExactAddrsOfRow : OpenClaim := { program := "ytpkeanlcmjbgnab", sum := "1d91764df25fabee6669abb99357f8971beecfa2ffd0b042d04e06efa24c398a", func := "loop.example/g00670/laws.FnExactAddrsOf", spec := "fnExactAddrsOf", unfollowed := true, recurses := true, apart := false }
def FnExactAddrsOfSaid : Prop := fnExactAddrsOfRow.holds Try.pinned (OpenSpec.ofChange fnExactAddrsOfSpec)

/-- ITS FALSE NEIGHBOUR: 'it returns false'. Refute it at one input. -/
def fnExactAddrsOfWrong : ChangeSpec := { name := "fnExactAddrsOf", fn := fun _ => fun
  | [d] => { results := [.lit (.bool false)], args := [d] }
  | _ => none }
def FnExactAddrsOfWrongFalsely : Prop := fnExactAddrsOfRow.holds Try.pinned (OpenSpec.ofChange fnExactAddrsOfWrong)

/-- 'laws.FnExactSameSends': WHATEVER THE INPUT: true; the input reads as it did. -/
def fnExactSameSendsSpec : ChangeSpec := { name := "fnExactSameSends", fn := fun _ => fun
  | [d1, d2] => { results := [.lit (.bool true)], args := [d1, d2] }
  | _ => none }
def fnExactSameSendsRow : OpenClaim := { program := "ytpkeanlcmjbgnab", sum := "1d91764df25fabee6669abb99357f8971beecfa2ffd0b042d04e06efa24c398a", func := "loop.example/g00670/laws.FnExactSameSends", spec := "fnExactSameSends", unfollowed := true, recurses := true, apart := false }
def FnExactSameSendsSaid : Prop := fnExactSameSendsRow.holds Try.pinned (OpenSpec.ofChange fnExactSameSendsSpec)

/-- ITS FALSE NEIGHBOUR: 'it returns false'. Refute it at one input. -/
def fnExactSameSendsWrong : ChangeSpec := { name := "fnExactSameSends", fn := fun _ => fun
  | [d1, d2] => { results := [.lit (.bool false)], args := [d1, d2] }
  | _ => none }
def FnExactSameSendsWrongFalsely : Prop := fnExactSameSendsRow.holds Try.pinned (OpenSpec.ofChange fnExactSameSendsWrong)

/-- 'laws.FnAskers': WHATEVER THE INPUT: true; the input reads as it did. -/
def fnAskersSpec : ChangeSpec := { name := "fnAskers", fn := fun _ => fun
  | [d] => { results := [.lit (.bool true)], args := [d] }
  | _ => none }
def fnAskersRow : OpenClaim := { program := "ytpkeanlcmjbgnab", sum := "1d91764df25fabee6669abb99357f8971beecfa2ffd0b042d04e06efa24c398a", func := "loop.example/g00670/laws.FnAskers", spec := "fnAskers", apart := false }
def FnAskersSaid : Prop := fnAskersRow.holds Try.pinned (OpenSpec.ofChange fnAskersSpec)

/-- ITS FALSE NEIGHBOUR: 'it returns false'. Refute it at one input. -/
def fnAskersWrong : ChangeSpec := { name := "fnAskers", fn := fun _ => fun
  | [d] => { results := [.lit (.bool false)], args := [d] }
  | _ => none }
def FnAskersWrongFalsely : Prop := fnAskersRow.holds Try.pinned (OpenSpec.ofChange fnAskersWrong)

/-- 'laws.FnExactStepFault': WHATEVER THE INPUT: true; the input reads as it did. -/
def fnExactStepFaultSpec : ChangeSpec := { name := "fnExactStepFault", fn := fun _ => fun
  | [d] => { results := [.lit (.bool true)], args := [d] }
  | _ => none }
def fnExactStepFaultRow : OpenClaim := { program := "ytpkeanlcmjbgnab", sum := "1d91764df25fabee6669abb99357f8971beecfa2ffd0b042d04e06efa24c398a", func := "loop.example/g00670/laws.FnExactStepFault", spec := "fnExactStepFault", apart := false }
def FnExactStepFaultSaid : Prop := fnExactStepFaultRow.holds Try.pinned (OpenSpec.ofChange fnExactStepFaultSpec)

/-- ITS FALSE NEIGHBOUR: 'it returns false'. Refute it at one input. -/
def fnExactStepFaultWrong : ChangeSpec := { name := "fnExactStepFault", fn := fun _ => fun
  | [d] => { results := [.lit (.bool false)], args := [d] }
  | _ => none }
def FnExactStepFaultWrongFalsely : Prop := fnExactStepFaultRow.holds Try.pinned (OpenSpec.ofChange fnExactStepFaultWrong)

/-- 'laws.FnExactCutMessage': WHATEVER THE INPUT: true; the input reads as it did. -/
def fnExactCutMessageSpec : ChangeSpec := { name := "fnExactCutMessage", fn := fun _ => fun
  | [d1, d2, d3, d4] => { results := [.lit (.bool true)], args := [d1, d2, d3, d4] }
  | _ => none }
def fnExactCutMessageRow : OpenClaim := { program := "ytpkeanlcmjbgnab", sum := "1d91764df25fabee6669abb99357f8971beecfa2ffd0b042d04e06efa24c398a", func := "loop.example/g00670/laws.FnExactCutMessage", spec := "fnExactCutMessage", apart := false }
def FnExactCutMessageSaid : Prop := fnExactCutMessageRow.holds Try.pinned (OpenSpec.ofChange fnExactCutMessageSpec)

/-- ITS FALSE NEIGHBOUR: 'it returns false'. Refute it at one input. -/
def fnExactCutMessageWrong : ChangeSpec := { name := "fnExactCutMessage", fn := fun _ => fun
  | [d1, d2, d3, d4] => { results := [.lit (.bool false)], args := [d1, d2, d3, d4] }
  | _ => none }
def FnExactCutMessageWrongFalsely : Prop := fnExactCutMessageRow.holds Try.pinned (OpenSpec.ofChange fnExactCutMessageWrong)

/-- 'laws.FnPaths': WHATEVER THE INPUT: true; the input reads as it did. -/
def fnPathsSpec : ChangeSpec := { name := "fnPaths", fn := fun _ => fun
  | [d] => { results := [.lit (.bool true)], args := [d] }
  | _ => none }
def fnPathsRow : OpenClaim := { program := "ytpkeanlcmjbgnab", sum := "1d91764df25fabee6669abb99357f8971beecfa2ffd0b042d04e06efa24c398a", func := "loop.example/g00670/laws.FnPaths", spec := "fnPaths", unfollowed := true, recurses := true, apart := false }
def FnPathsSaid : Prop := fnPathsRow.holds Try.pinned (OpenSpec.ofChange fnPathsSpec)

/-- ITS FALSE NEIGHBOUR: 'it returns false'. Refute it at one input. -/
def fnPathsWrong : ChangeSpec := { name := "fnPaths", fn := fun _ => fun
  | [d] => { results := [.lit (.bool false)], args := [d] }
  | _ => none }
def FnPathsWrongFalsely : Prop := fnPathsRow.holds Try.pinned (OpenSpec.ofChange fnPathsWrong)

/- THE SECOND FORM. 'bulk': how many values and letters a reading holds, each counted each time it is reached (what is shared counts as often as it is met; a slice's spare places count too). A statement '..UptoSaid' is the law's where the arguments, and the package variables that the reading takes, are together of bulk at most 1048576: NARROWER than '..Said'. Prove '..Said' where nothing that the law and all that it calls make is longer than what came in: it says more and counts as full. Else prove '..UptoSaid'. A law counts once. -/
mutual
def uptoBulk {H : Type} : DataW H → Nat
  | .lit (.string bytes) => bytes.length + 1
  | .lit _ => 1
  | .nil => 1
  | .ptr d => uptoBulk d + 1
  | .slice elems spare => uptoBulkAll elems + uptoBulkAll spare + 1
  | .agg parts => uptoBulkAll parts + 1
  | .iface _ d => uptoBulk d + 1
  | .map entries => uptoBulkEntries entries + 1
  | .held _ => 1
def uptoBulkAll {H : Type} : List (DataW H) → Nat
  | [] => 0
  | d :: r => uptoBulk d + uptoBulkAll r
def uptoBulkEntries {H : Type} : List (Lit × DataW H) → Nat
  | [] => 0
  | x :: r => uptoBulkEntry x + uptoBulkEntries r
def uptoBulkEntry {H : Type} : Lit × DataW H → Nat
  | (.string bytes, d) => bytes.length + uptoBulk d + 1
  | (_, d) => uptoBulk d + 1
 end
def uptoSmall : (H : Type) → List (DataW H) → Bool := fun _ ds => decide (uptoBulkAll ds ≤ 1048576)
def OpenSpec.upto (s : _root_.Go.ChangeSpec) : _root_.Go.OpenSpec := { _root_.Go.OpenSpec.ofChange s with cond := some uptoSmall }

/-- 'laws.FnExactSameRecvs', WHERE WHAT IT READS IS OF BULK AT MOST 1048576: true; the input reads as it did. -/
def fnExactSameRecvsUptoRow : OpenClaim := { program := "ytpkeanlcmjbgnab", sum := "1d91764df25fabee6669abb99357f8971beecfa2ffd0b042d04e06efa24c398a", func := "loop.example/g00670/laws.FnExactSameRecvs", spec := "fnExactSameRecvs", unfollowed := true, recurses := true, apart := false, narrowed := true }
def FnExactSameRecvsUptoSaid : Prop := fnExactSameRecvsUptoRow.holds Try.pinned (OpenSpec.upto fnExactSameRecvsSpec)

/-- 'laws.FnExactNewPaths', WHERE WHAT IT READS IS OF BULK AT MOST 1048576: true; the input reads as it did. -/
def fnExactNewPathsUptoRow : OpenClaim := { program := "ytpkeanlcmjbgnab", sum := "1d91764df25fabee6669abb99357f8971beecfa2ffd0b042d04e06efa24c398a", func := "loop.example/g00670/laws.FnExactNewPaths", spec := "fnExactNewPaths", apart := false, narrowed := true }
def FnExactNewPathsUptoSaid : Prop := fnExactNewPathsUptoRow.holds Try.pinned (OpenSpec.upto fnExactNewPathsSpec)

/-- 'laws.FnExactAddrsOf', WHERE WHAT IT READS IS OF BULK AT MOST 1048576: true; the input reads as it did. -/
def fnExactAddrsOfUptoRow : OpenClaim := { program := "ytpkeanlcmjbgnab", sum := "1d91764df25fabee6669abb99357f8971beecfa2ffd0b042d04e06efa24c398a", func := "loop.example/g00670/laws.FnExactAddrsOf", spec := "fnExactAddrsOf", unfollowed := true, recurses := true, apart := false, narrowed := true }
def FnExactAddrsOfUptoSaid : Prop := fnExactAddrsOfUptoRow.holds Try.pinned (OpenSpec.upto fnExactAddrsOfSpec)

/-- 'laws.FnExactSameSends', WHERE WHAT IT READS IS OF BULK AT MOST 1048576: true; the input reads as it did. -/
def fnExactSameSendsUptoRow : OpenClaim := { program := "ytpkeanlcmjbgnab", sum := "1d91764df25fabee6669abb99357f8971beecfa2ffd0b042d04e06efa24c398a", func := "loop.example/g00670/laws.FnExactSameSends", spec := "fnExactSameSends", unfollowed := true, recurses := true, apart := false, narrowed := true }
def FnExactSameSendsUptoSaid : Prop := fnExactSameSendsUptoRow.holds Try.pinned (OpenSpec.upto fnExactSameSendsSpec)

/-- 'laws.FnAskers', WHERE WHAT IT READS IS OF BULK AT MOST 1048576: true; the input reads as it did. -/
def fnAskersUptoRow : OpenClaim := { program := "ytpkeanlcmjbgnab", sum := "1d91764df25fabee6669abb99357f8971beecfa2ffd0b042d04e06efa24c398a", func := "loop.example/g00670/laws.FnAskers", spec := "fnAskers", apart := false, narrowed := true }
def FnAskersUptoSaid : Prop := fnAskersUptoRow.holds Try.pinned (OpenSpec.upto fnAskersSpec)

/-- 'laws.FnExactStepFault', WHERE WHAT IT READS IS OF BULK AT MOST 1048576: true; the input reads as it did. -/
def fnExactStepFaultUptoRow : OpenClaim := { program := "ytpkeanlcmjbgnab", sum := "1d91764df25fabee6669abb99357f8971beecfa2ffd0b042d04e06efa24c398a", func := "loop.example/g00670/laws.FnExactStepFault", spec := "fnExactStepFault", apart := false, narrowed := true }
def FnExactStepFaultUptoSaid : Prop := fnExactStepFaultUptoRow.holds Try.pinned (OpenSpec.upto fnExactStepFaultSpec)

/-- 'laws.FnExactCutMessage', WHERE WHAT IT READS IS OF BULK AT MOST 1048576: true; the input reads as it did. -/
def fnExactCutMessageUptoRow : OpenClaim := { program := "ytpkeanlcmjbgnab", sum := "1d91764df25fabee6669abb99357f8971beecfa2ffd0b042d04e06efa24c398a", func := "loop.example/g00670/laws.FnExactCutMessage", spec := "fnExactCutMessage", apart := false, narrowed := true }
def FnExactCutMessageUptoSaid : Prop := fnExactCutMessageUptoRow.holds Try.pinned (OpenSpec.upto fnExactCutMessageSpec)

/-- 'laws.FnPaths', WHERE WHAT IT READS IS OF BULK AT MOST 1048576: true; the input reads as it did. -/
def fnPathsUptoRow : OpenClaim := { program := "ytpkeanlcmjbgnab", sum := "1d91764df25fabee6669abb99357f8971beecfa2ffd0b042d04e06efa24c398a", func := "loop.example/g00670/laws.FnPaths", spec := "fnPaths", unfollowed := true, recurses := true, apart := false, narrowed := true }
def FnPathsUptoSaid : Prop := fnPathsUptoRow.holds Try.pinned (OpenSpec.upto fnPathsSpec)

end Rows
end Go.Proofs.Ytpkeanlcmjbgnab
