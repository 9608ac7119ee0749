/-
  No cell of these rows narrows 'for every input' (looked for: loops, veiled, ifaces, maps, wideKeys, modest, calm, conditions, laid).
  DERIVED. THE GIVEN ROWS OF THIS SEAT. 9 by the template 'for every input the law returns true; each argument reads behind the call as it read before'; 0 by the template 'total and deterministic' (their statements: YtpkeanlcmjbgnaaTotals.lean).
  GIVEN WITH THE SEED: the statements are not yours to turn. If you find one false, say at which input.
  Laid BY PROGRAM, IN A SANDBOX (cutbox-rows.mjs): the forced cells as the released guide's own fill.sh prints them over the translation 5e036f2dfc1a236b… (all of the seat's roots in one cut). By AI agents, Wed Nov 11 2026. No macro, syntax, notation, axiom, sorry.
-/
import Derived.Test.YtpkeanlcmjbgnaaChecked
import GoSem.Claim
import GoSem.ClaimJoined
import GoSem.ClaimMapViews
import Derived.JoinedTies
import Derived.KernelRfl
namespace Go.Proofs.Ytpkeanlcmjbgnaa
/- THE CELL 'sum', in the pinned program and in every row, IS THE sha256 OF THE DUMP (.gsa) THAT YtpkeanlcmjbgnaaProg.lean LOADS. Nothing in Lean hashes anything: it is a label: what it is worth is what the hold of that sum in a sandbox is worth. -/
noncomputable def Try.pinned : Pinned := { name := "ytpkeanlcmjbgnaa", sum := "5e036f2dfc1a236bf309827e7c948ed9ac3f0d1d19d1fe0b780a757f71dc814d", checked := Try.checked }
namespace Rows
def none {H : Type} : Left H := { results := [], args := [] }

/-- 'laws.FnExactMessageFault': WHATEVER THE INPUT: true; the input reads as it did. -/
def fnExactMessageFaultSpec : ChangeSpec := { name := "fnExactMessageFault", fn := fun _ => fun
  | [d] => { results := [.lit (.bool true)], args := [d] }
  | _ => none }
def fnExactMessageFaultRow : OpenClaim := { program := "ytpkeanlcmjbgnaa", sum := "5e036f2dfc1a236bf309827e7c948ed9ac3f0d1d19d1fe0b780a757f71dc814d", func := "loop.example/g00670/laws.FnExactMessageFault", spec := "fnExactMessageFault", apart := false }
def FnExactMessageFaultSaid : Prop := fnExactMessageFaultRow.holds Try.pinned (OpenSpec.ofChange fnExactMessageFaultSpec)

/-- ITS FALSE NEIGHBOUR: 'it returns false'. Refute it at one input. -/
def fnExactMessageFaultWrong : ChangeSpec := { name := "fnExactMessageFault", fn := fun _ => fun
  | [d] => { results := [.lit (.bool false)], args := [d] }
  | _ => none }
def FnExactMessageFaultWrongFalsely : Prop := fnExactMessageFaultRow.holds Try.pinned (OpenSpec.ofChange fnExactMessageFaultWrong)

/-- 'laws.FnExactAnswererFault': WHATEVER THE INPUT: true; the input reads as it did. -/
def fnExactAnswererFaultSpec : ChangeSpec := { name := "fnExactAnswererFault", fn := fun _ => fun
  | [d] => { results := [.lit (.bool true)], args := [d] }
  | _ => none }
def fnExactAnswererFaultRow : OpenClaim := { program := "ytpkeanlcmjbgnaa", sum := "5e036f2dfc1a236bf309827e7c948ed9ac3f0d1d19d1fe0b780a757f71dc814d", func := "loop.example/g00670/laws.FnExactAnswererFault", spec := "fnExactAnswererFault", apart := false }
def FnExactAnswererFaultSaid : Prop := fnExactAnswererFaultRow.holds Try.pinned (OpenSpec.ofChange fnExactAnswererFaultSpec)

/-- ITS FALSE NEIGHBOUR: 'it returns false'. Refute it at one input. -/
def fnExactAnswererFaultWrong : ChangeSpec := { name := "fnExactAnswererFault", fn := fun _ => fun
  | [d] => { results := [.lit (.bool false)], args := [d] }
  | _ => none }
def FnExactAnswererFaultWrongFalsely : Prop := fnExactAnswererFaultRow.holds Try.pinned (OpenSpec.ofChange fnExactAnswererFaultWrong)

/-- 'laws.FnExactSamePaths': WHATEVER THE INPUT: true; the input reads as it did. -/
def fnExactSamePathsSpec : ChangeSpec := { name := "fnExactSamePaths", fn := fun _ => fun
  | [d1, d2] => { results := [.lit (.bool true)], args := [d1, d2] }
  | _ => none }
def fnExactSamePathsRow : OpenClaim := { program := "ytpkeanlcmjbgnaa", sum := "5e036f2dfc1a236bf309827e7c948ed9ac3f0d1d19d1fe0b780a757f71dc814d", func := "loop.example/g00670/laws.FnExactSamePaths", spec := "fnExactSamePaths", apart := false }
def FnExactSamePathsSaid : Prop := fnExactSamePathsRow.holds Try.pinned (OpenSpec.ofChange fnExactSamePathsSpec)

/-- ITS FALSE NEIGHBOUR: 'it returns false'. Refute it at one input. -/
def fnExactSamePathsWrong : ChangeSpec := { name := "fnExactSamePaths", fn := fun _ => fun
  | [d1, d2] => { results := [.lit (.bool false)], args := [d1, d2] }
  | _ => none }
def FnExactSamePathsWrongFalsely : Prop := fnExactSamePathsRow.holds Try.pinned (OpenSpec.ofChange fnExactSamePathsWrong)

/-- 'laws.FnExactSameAskers': WHATEVER THE INPUT: true; the input reads as it did. -/
def fnExactSameAskersSpec : ChangeSpec := { name := "fnExactSameAskers", fn := fun _ => fun
  | [d1, d2] => { results := [.lit (.bool true)], args := [d1, d2] }
  | _ => none }
def fnExactSameAskersRow : OpenClaim := { program := "ytpkeanlcmjbgnaa", sum := "5e036f2dfc1a236bf309827e7c948ed9ac3f0d1d19d1fe0b780a757f71dc814d", func := "loop.example/g00670/laws.FnExactSameAskers", spec := "fnExactSameAskers", apart := false }
def FnExactSameAskersSaid : Prop := fnExactSameAskersRow.holds Try.pinned (OpenSpec.ofChange fnExactSameAskersSpec)

/-- ITS FALSE NEIGHBOUR: 'it returns false'. Refute it at one input. -/
def fnExactSameAskersWrong : ChangeSpec := { name := "fnExactSameAskers", fn := fun _ => fun
  | [d1, d2] => { results := [.lit (.bool false)], args := [d1, d2] }
  | _ => none }
def FnExactSameAskersWrongFalsely : Prop := fnExactSameAskersRow.holds Try.pinned (OpenSpec.ofChange fnExactSameAskersWrong)

/-- 'laws.FnExactSameMessages': WHATEVER THE INPUT: true; the input reads as it did. -/
def fnExactSameMessagesSpec : ChangeSpec := { name := "fnExactSameMessages", fn := fun _ => fun
  | [d1, d2] => { results := [.lit (.bool true)], args := [d1, d2] }
  | _ => none }
def fnExactSameMessagesRow : OpenClaim := { program := "ytpkeanlcmjbgnaa", sum := "5e036f2dfc1a236bf309827e7c948ed9ac3f0d1d19d1fe0b780a757f71dc814d", func := "loop.example/g00670/laws.FnExactSameMessages", spec := "fnExactSameMessages", unfollowed := true, recurses := true, apart := false }
def FnExactSameMessagesSaid : Prop := fnExactSameMessagesRow.holds Try.pinned (OpenSpec.ofChange fnExactSameMessagesSpec)

/-- ITS FALSE NEIGHBOUR: 'it returns false'. Refute it at one input. -/
def fnExactSameMessagesWrong : ChangeSpec := { name := "fnExactSameMessages", fn := fun _ => fun
  | [d1, d2] => { results := [.lit (.bool false)], args := [d1, d2] }
  | _ => none }
def FnExactSameMessagesWrongFalsely : Prop := fnExactSameMessagesRow.holds Try.pinned (OpenSpec.ofChange fnExactSameMessagesWrong)

/-- 'laws.FnExactPathsFault': WHATEVER THE INPUT: true; the input reads as it did. -/
def fnExactPathsFaultSpec : ChangeSpec := { name := "fnExactPathsFault", fn := fun _ => fun
  | [d] => { results := [.lit (.bool true)], args := [d] }
  | _ => none }
def fnExactPathsFaultRow : OpenClaim := { program := "ytpkeanlcmjbgnaa", sum := "5e036f2dfc1a236bf309827e7c948ed9ac3f0d1d19d1fe0b780a757f71dc814d", func := "loop.example/g00670/laws.FnExactPathsFault", spec := "fnExactPathsFault", unfollowed := true, recurses := true, apart := false }
def FnExactPathsFaultSaid : Prop := fnExactPathsFaultRow.holds Try.pinned (OpenSpec.ofChange fnExactPathsFaultSpec)

/-- ITS FALSE NEIGHBOUR: 'it returns false'. Refute it at one input. -/
def fnExactPathsFaultWrong : ChangeSpec := { name := "fnExactPathsFault", fn := fun _ => fun
  | [d] => { results := [.lit (.bool false)], args := [d] }
  | _ => none }
def FnExactPathsFaultWrongFalsely : Prop := fnExactPathsFaultRow.holds Try.pinned (OpenSpec.ofChange fnExactPathsFaultWrong)

/-- 'laws.FnExactSameDatas': WHATEVER THE INPUT: true; the input reads as it did. -/
def fnExactSameDatasSpec : ChangeSpec := { name := "fnExactSameDatas", fn := fun _ => fun
  | [d1, d2] => { results := [.lit (.bool true)], args := [d1, d2] }
  | _ => none }
def fnExactSameDatasRow : OpenClaim := { program := "ytpkeanlcmjbgnaa", sum := "5e036f2dfc1a236bf309827e7c948ed9ac3f0d1d19d1fe0b780a757f71dc814d", func := "loop.example/g00670/laws.FnExactSameDatas", spec := "fnExactSameDatas", unfollowed := true, recurses := true, apart := false }
def FnExactSameDatasSaid : Prop := fnExactSameDatasRow.holds Try.pinned (OpenSpec.ofChange fnExactSameDatasSpec)

/-- ITS FALSE NEIGHBOUR: 'it returns false'. Refute it at one input. -/
def fnExactSameDatasWrong : ChangeSpec := { name := "fnExactSameDatas", fn := fun _ => fun
  | [d1, d2] => { results := [.lit (.bool false)], args := [d1, d2] }
  | _ => none }
def FnExactSameDatasWrongFalsely : Prop := fnExactSameDatasRow.holds Try.pinned (OpenSpec.ofChange fnExactSameDatasWrong)

/-- 'laws.FnExactAskerFault': WHATEVER THE INPUT: true; the input reads as it did. -/
def fnExactAskerFaultSpec : ChangeSpec := { name := "fnExactAskerFault", fn := fun _ => fun
  | [d] => { results := [.lit (.bool true)], args := [d] }
  | _ => none }
def fnExactAskerFaultRow : OpenClaim := { program := "ytpkeanlcmjbgnaa", sum := "5e036f2dfc1a236bf309827e7c948ed9ac3f0d1d19d1fe0b780a757f71dc814d", func := "loop.example/g00670/laws.FnExactAskerFault", spec := "fnExactAskerFault", apart := false }
def FnExactAskerFaultSaid : Prop := fnExactAskerFaultRow.holds Try.pinned (OpenSpec.ofChange fnExactAskerFaultSpec)

/-- ITS FALSE NEIGHBOUR: 'it returns false'. Refute it at one input. -/
def fnExactAskerFaultWrong : ChangeSpec := { name := "fnExactAskerFault", fn := fun _ => fun
  | [d] => { results := [.lit (.bool false)], args := [d] }
  | _ => none }
def FnExactAskerFaultWrongFalsely : Prop := fnExactAskerFaultRow.holds Try.pinned (OpenSpec.ofChange fnExactAskerFaultWrong)

/-- 'laws.FnExactPickPath': WHATEVER THE INPUT: true; the input reads as it did. -/
def fnExactPickPathSpec : ChangeSpec := { name := "fnExactPickPath", fn := fun _ => fun
  | [d] => { results := [.lit (.bool true)], args := [d] }
  | _ => none }
def fnExactPickPathRow : OpenClaim := { program := "ytpkeanlcmjbgnaa", sum := "5e036f2dfc1a236bf309827e7c948ed9ac3f0d1d19d1fe0b780a757f71dc814d", func := "loop.example/g00670/laws.FnExactPickPath", spec := "fnExactPickPath", unfollowed := true, recurses := true, apart := false }
def FnExactPickPathSaid : Prop := fnExactPickPathRow.holds Try.pinned (OpenSpec.ofChange fnExactPickPathSpec)

/-- ITS FALSE NEIGHBOUR: 'it returns false'. Refute it at one input. -/
def fnExactPickPathWrong : ChangeSpec := { name := "fnExactPickPath", fn := fun _ => fun
  | [d] => { results := [.lit (.bool false)], args := [d] }
  | _ => none }
def FnExactPickPathWrongFalsely : Prop := fnExactPickPathRow.holds Try.pinned (OpenSpec.ofChange fnExactPickPathWrong)

/- THE SECOND FORM. 'bulk': how many values and letters a reading holds, each counted each time it is reached (what is shared counts as often as it is met; a slice's spare places count too). A statement '..UptoSaid' is the law's where the arguments, and the package variables that the reading takes, are together of bulk at most 1048576: NARROWER than '..Said'. Prove '..Said' where nothing that the law and all that it calls make is longer than what came in: it says more and counts as full. Else prove '..UptoSaid'. A law counts once. -/
mutual
def uptoBulk {H : Type} : DataW H → Nat
  | .lit (.string bytes) => bytes.length + 1
  | .lit _ => 1
  | .nil => 1
  | .ptr d => uptoBulk d + 1
  | .slice elems spare => uptoBulkAll elems + uptoBulkAll spare + 1
  | .agg parts => uptoBulkAll parts + 1
  | .iface _ d => uptoBulk d + 1
  | .map entries => uptoBulkEntries entries + 1
  | .held _ => 1
def uptoBulkAll {H : Type} : List (DataW H) → Nat
  | [] => 0
  | d :: r => uptoBulk d + uptoBulkAll r
def uptoBulkEntries {H : Type} : List (Lit × DataW H) → Nat
  | [] => 0
  | x :: r => uptoBulkEntry x + uptoBulkEntries r
def uptoBulkEntry {H : Type} : Lit × DataW H → Nat
  | (.string bytes, d) => bytes.length + uptoBulk d + 1
  | (_, d) => uptoBulk d + 1
 end
def uptoSmall : (H : Type) → List (DataW H) → Bool := fun _ ds => decide (uptoBulkAll ds ≤ 1048576)
def OpenSpec.upto (s : _root_.Go.ChangeSpec) : _root_.Go.OpenSpec := { _root_.Go.OpenSpec.ofChange s with cond := some uptoSmall }

/-- 'laws.FnExactMessageFault', WHERE WHAT IT READS IS OF BULK AT MOST 1048576: true; the input reads as it did. -/
def fnExactMessageFaultUptoRow : OpenClaim := { program := "ytpkeanlcmjbgnaa", sum := "5e036f2dfc1a236bf309827e7c948ed9ac3f0d1d19d1fe0b780a757f71dc814d", func := "loop.example/g00670/laws.FnExactMessageFault", spec := "fnExactMessageFault", apart := false, narrowed := true }
def FnExactMessageFaultUptoSaid : Prop := fnExactMessageFaultUptoRow.holds Try.pinned (OpenSpec.upto fnExactMessageFaultSpec)

/-- 'laws.FnExactAnswererFault', WHERE WHAT IT READS IS OF BULK AT MOST 1048576: true; the input reads as it did. -/
def fnExactAnswererFaultUptoRow : OpenClaim := { program := "ytpkeanlcmjbgnaa", sum := "5e036f2dfc1a236bf309827e7c948ed9ac3f0d1d19d1fe0b780a757f71dc814d", func := "loop.example/g00670/laws.FnExactAnswererFault", spec := "fnExactAnswererFault", apart := false, narrowed := true }
def FnExactAnswererFaultUptoSaid : Prop := fnExactAnswererFaultUptoRow.holds Try.pinned (OpenSpec.upto fnExactAnswererFaultSpec)

/-- 'laws.FnExactSamePaths', WHERE WHAT IT READS IS OF BULK AT MOST 1048576: true; the input reads as it did. -/
def fnExactSamePathsUptoRow : OpenClaim := { program := "ytpkeanlcmjbgnaa", sum := "5e036f2dfc1a236bf309827e7c948ed9ac3f0d1d19d1fe0b780a757f71dc814d", func := "loop.example/g00670/laws.FnExactSamePaths", spec := "fnExactSamePaths", apart := false, narrowed := true }
def FnExactSamePathsUptoSaid : Prop := fnExactSamePathsUptoRow.holds Try.pinned (OpenSpec.upto fnExactSamePathsSpec)

/-- 'laws.FnExactSameAskers', WHERE WHAT IT READS IS OF BULK AT MOST 1048576: true; the input reads as it did. -/
def fnExactSameAskersUptoRow : OpenClaim := { program := "ytpkeanlcmjbgnaa", sum := "5e036f2dfc1a236bf309827e7c948ed9ac3f0d1d19d1fe0b780a757f71dc814d", func := "loop.example/g00670/laws.FnExactSameAskers", spec := "fnExactSameAskers", apart := false, narrowed := true }
def FnExactSameAskersUptoSaid : Prop := fnExactSameAskersUptoRow.holds Try.pinned (OpenSpec.upto fnExactSameAskersSpec)

/-- 'laws.FnExactSameMessages', WHERE WHAT IT READS IS OF BULK AT MOST 1048576: true; the input reads as it did. -/
def fnExactSameMessagesUptoRow : OpenClaim := { program := "ytpkeanlcmjbgnaa", sum := "5e036f2dfc1a236bf309827e7c948ed9ac3f0d1d19d1fe0b780a757f71dc814d", func := "loop.example/g00670/laws.FnExactSameMessages", spec := "fnExactSameMessages", unfollowed := true, recurses := true, apart := false, narrowed := true }
def FnExactSameMessagesUptoSaid : Prop := fnExactSameMessagesUptoRow.holds Try.pinned (OpenSpec.upto fnExactSameMessagesSpec)

/-- 'laws.FnExactPathsFault', WHERE WHAT IT READS IS OF BULK AT MOST 1048576: true; the input reads as it did. -/
def fnExactPathsFaultUptoRow : OpenClaim := { program := "ytpkeanlcmjbgnaa", sum := "5e036f2dfc1a236bf309827e7c948ed9ac3f0d1d19d1fe0b780a757f71dc814d", func := "loop.example/g00670/laws.FnExactPathsFault", spec := "fnExactPathsFault", unfollowed := true, recurses := true, apart := false, narrowed := true }
def FnExactPathsFaultUptoSaid : Prop := fnExactPathsFaultUptoRow.holds Try.pinned (OpenSpec.upto fnExactPathsFaultSpec)

/-- 'laws.FnExactSameDatas', WHERE WHAT IT READS IS OF BULK AT MOST 1048576: true; the input reads as it did. -/
def fnExactSameDatasUptoRow : OpenClaim := { program := "ytpkeanlcmjbgnaa", sum := "5e036f2dfc1a236bf309827e7c948ed9ac3f0d1d19d1fe0b780a757f71dc814d", func := "loop.example/g00670/laws.FnExactSameDatas", spec := "fnExactSameDatas", unfollowed := true, recurses := true, apart := false, narrowed := true }
def FnExactSameDatasUptoSaid : Prop := fnExactSameDatasUptoRow.holds Try.pinned (OpenSpec.upto fnExactSameDatasSpec)

/-- 'laws.FnExactAskerFault', WHERE WHAT IT READS IS OF BULK AT MOST 1048576: true; the input reads as it did. -/
def fnExactAskerFaultUptoRow : OpenClaim := { program := "ytpkeanlcmjbgnaa", sum := "5e036f2dfc1a236bf309827e7c948ed9ac3f0d1d19d1fe0b780a757f71dc814d", func := "loop.example/g00670/laws.FnExactAskerFault", spec := "fnExactAskerFault", apart := false, narrowed := true }
def FnExactAskerFaultUptoSaid : Prop := fnExactAskerFaultUptoRow.holds Try.pinned (OpenSpec.upto fnExactAskerFaultSpec)

/-- 'laws.FnExactPickPath', WHERE WHAT IT READS IS OF BULK AT MOST 1048576: true; the input reads as it did. -/
def fnExactPickPathUptoRow : OpenClaim := { program := "ytpkeanlcmjbgnaa", sum := "5e036f2dfc1a236bf309827e7c948ed9ac3f0d1d19d1fe0b780a757f71dc814d", func := "loop.example/g00670/laws.FnExactPickPath", spec := "fnExactPickPath", unfollowed := true, recurses := true, apart := false, narrowed := true }
def FnExactPickPathUptoSaid : Prop := fnExactPickPathUptoRow.holds Try.pinned (OpenSpec.upto fnExactPickPathSpec)

end Rows
end Go.Proofs.Ytpkeanlcmjbgnaa
