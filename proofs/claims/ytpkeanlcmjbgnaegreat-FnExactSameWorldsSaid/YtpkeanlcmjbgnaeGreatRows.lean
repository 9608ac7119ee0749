/-
  No cell of these rows narrows 'for every input' (looked for: loops, veiled, ifaces, maps, wideKeys, modest, calm, conditions, laid).
  DERIVED. THE GIVEN ROWS OF THIS SEAT. 5 by the template 'for every input the law returns true; each argument reads behind the call as it read before'; 0 by the template 'total and deterministic' (their statements: YtpkeanlcmjbgnaeGreatTotals.lean).
  GIVEN WITH THE SEED: the statements are not yours to turn. If you find one false, say at which input.
  Laid BY PROGRAM, IN A SANDBOX (cutbox-rows.mjs): the forced cells as the released guide's own fill.sh prints them over the translation 2256717d58e0e1f5… (all of the seat's roots in one cut). By AI agents, Wed Nov 11 2026. No macro, syntax, notation, axiom, sorry.
-/
import Derived.Test.YtpkeanlcmjbgnaeGreatChecked
import GoSem.Claim
import GoSem.ClaimJoined
import GoSem.ClaimMapViews
import Derived.JoinedTies
import Derived.KernelRfl
namespace Go.Proofs.YtpkeanlcmjbgnaeGreat
/- THE CELL 'sum', in the pinned program and in every row, IS THE sha256 OF THE DUMP (.gsa) THAT YtpkeanlcmjbgnaeGreatProg.lean LOADS. Nothing in Lean hashes anything: it is a label: what it is worth is what the hold of that sum in a sandbox is worth. -/
noncomputable def Tryz.pinned : Pinned := { name := "ytpkeanlcmjbgnaegreat", sum := "2256717d58e0e1f5b808a3275534bca43612e56c6c40c831b0b1d6ac6ca37634", checked := Tryz.checked }
namespace Rows
def none {H : Type} : Left H := { results := [], args := [] }

/-- 'laws.FnExactSameEnds': WHATEVER THE INPUT: true; the input reads as it did. -/
def fnExactSameEndsSpec : ChangeSpec := { name := "fnExactSameEnds", fn := fun _ => fun
  | [d1, d2] => { results := [.lit (.bool true)], args := [d1, d2] }
  | _ => none }
def fnExactSameEndsRow : OpenClaim := { program := "ytpkeanlcmjbgnaegreat", sum := "2256717d58e0e1f5b808a3275534bca43612e56c6c40c831b0b1d6ac6ca37634", func := "loop.example/g00670/laws.FnExactSameEnds", spec := "fnExactSameEnds", unfollowed := true, recurses := true, apart := false }
def FnExactSameEndsSaid : Prop := fnExactSameEndsRow.holds Tryz.pinned (OpenSpec.ofChange fnExactSameEndsSpec)

/-- ITS FALSE NEIGHBOUR: 'it returns false'. Refute it at one input. -/
def fnExactSameEndsWrong : ChangeSpec := { name := "fnExactSameEnds", fn := fun _ => fun
  | [d1, d2] => { results := [.lit (.bool false)], args := [d1, d2] }
  | _ => none }
def FnExactSameEndsWrongFalsely : Prop := fnExactSameEndsRow.holds Tryz.pinned (OpenSpec.ofChange fnExactSameEndsWrong)

/-- 'laws.FnExactTakeData': WHATEVER THE INPUT: true; the input reads as it did. -/
def fnExactTakeDataSpec : ChangeSpec := { name := "fnExactTakeData", fn := fun _ => fun
  | [d1, d2] => { results := [.lit (.bool true)], args := [d1, d2] }
  | _ => none }
def fnExactTakeDataRow : OpenClaim := { program := "ytpkeanlcmjbgnaegreat", sum := "2256717d58e0e1f5b808a3275534bca43612e56c6c40c831b0b1d6ac6ca37634", func := "loop.example/g00670/laws.FnExactTakeData", spec := "fnExactTakeData", inPlace := ["slices.overlaps[int64]", "slices.overlaps[loop.example/g00670/impl.Data]"], unfollowed := true, recurses := true, apart := false }
def FnExactTakeDataSaid : Prop := fnExactTakeDataRow.holds Tryz.pinned (OpenSpec.ofChange fnExactTakeDataSpec)

/-- ITS FALSE NEIGHBOUR: 'it returns false'. Refute it at one input. -/
def fnExactTakeDataWrong : ChangeSpec := { name := "fnExactTakeData", fn := fun _ => fun
  | [d1, d2] => { results := [.lit (.bool false)], args := [d1, d2] }
  | _ => none }
def FnExactTakeDataWrongFalsely : Prop := fnExactTakeDataRow.holds Tryz.pinned (OpenSpec.ofChange fnExactTakeDataWrong)

/-- 'laws.FnExactSameWorlds': WHATEVER THE INPUT: true; the input reads as it did. -/
def fnExactSameWorldsSpec : ChangeSpec := { name := "fnExactSameWorlds", fn := fun _ => fun
  | [d1, d2] => { results := [.lit (.bool true)], args := [d1, d2] }
  | _ => none }
def fnExactSameWorldsRow : OpenClaim := { program := "ytpkeanlcmjbgnaegreat", sum := "2256717d58e0e1f5b808a3275534bca43612e56c6c40c831b0b1d6ac6ca37634", func := "loop.example/g00670/laws.FnExactSameWorlds", spec := "fnExactSameWorlds", unfollowed := true, recurses := true, apart := false }
def FnExactSameWorldsSaid : Prop := fnExactSameWorldsRow.holds Tryz.pinned (OpenSpec.ofChange fnExactSameWorldsSpec)

/-- ITS FALSE NEIGHBOUR: 'it returns false'. Refute it at one input. -/
def fnExactSameWorldsWrong : ChangeSpec := { name := "fnExactSameWorlds", fn := fun _ => fun
  | [d1, d2] => { results := [.lit (.bool false)], args := [d1, d2] }
  | _ => none }
def FnExactSameWorldsWrongFalsely : Prop := fnExactSameWorldsRow.holds Tryz.pinned (OpenSpec.ofChange fnExactSameWorldsWrong)

/-- 'laws.FnExactEndFault': WHATEVER THE INPUT: true; the input reads as it did. -/
def fnExactEndFaultSpec : ChangeSpec := { name := "fnExactEndFault", fn := fun _ => fun
  | [d] => { results := [.lit (.bool true)], args := [d] }
  | _ => none }
def fnExactEndFaultRow : OpenClaim := { program := "ytpkeanlcmjbgnaegreat", sum := "2256717d58e0e1f5b808a3275534bca43612e56c6c40c831b0b1d6ac6ca37634", func := "loop.example/g00670/laws.FnExactEndFault", spec := "fnExactEndFault", unfollowed := true, recurses := true, apart := false }
def FnExactEndFaultSaid : Prop := fnExactEndFaultRow.holds Tryz.pinned (OpenSpec.ofChange fnExactEndFaultSpec)

/-- ITS FALSE NEIGHBOUR: 'it returns false'. Refute it at one input. -/
def fnExactEndFaultWrong : ChangeSpec := { name := "fnExactEndFault", fn := fun _ => fun
  | [d] => { results := [.lit (.bool false)], args := [d] }
  | _ => none }
def FnExactEndFaultWrongFalsely : Prop := fnExactEndFaultRow.holds Tryz.pinned (OpenSpec.ofChange fnExactEndFaultWrong)

/-- 'laws.FnExactWorldFault': WHATEVER THE INPUT: true; the input reads as it did. -/
def fnExactWorldFaultSpec : ChangeSpec := { name := "fnExactWorldFault", fn := fun _ => fun
  | [d] => { results := [.lit (.bool true)], args := [d] }
  | _ => none }
def fnExactWorldFaultRow : OpenClaim := { program := "ytpkeanlcmjbgnaegreat", sum := "2256717d58e0e1f5b808a3275534bca43612e56c6c40c831b0b1d6ac6ca37634", func := "loop.example/g00670/laws.FnExactWorldFault", spec := "fnExactWorldFault", unfollowed := true, recurses := true, apart := false }
def FnExactWorldFaultSaid : Prop := fnExactWorldFaultRow.holds Tryz.pinned (OpenSpec.ofChange fnExactWorldFaultSpec)

/-- ITS FALSE NEIGHBOUR: 'it returns false'. Refute it at one input. -/
def fnExactWorldFaultWrong : ChangeSpec := { name := "fnExactWorldFault", fn := fun _ => fun
  | [d] => { results := [.lit (.bool false)], args := [d] }
  | _ => none }
def FnExactWorldFaultWrongFalsely : Prop := fnExactWorldFaultRow.holds Tryz.pinned (OpenSpec.ofChange fnExactWorldFaultWrong)

/- THE SECOND FORM. 'bulk': how many values and letters a reading holds, each counted each time it is reached (what is shared counts as often as it is met; a slice's spare places count too). A statement '..UptoSaid' is the law's where the arguments, and the package variables that the reading takes, are together of bulk at most 1048576: NARROWER than '..Said'. Prove '..Said' where nothing that the law and all that it calls make is longer than what came in: it says more and counts as full. Else prove '..UptoSaid'. A law counts once. -/
mutual
def uptoBulk {H : Type} : DataW H → Nat
  | .lit (.string bytes) => bytes.length + 1
  | .lit _ => 1
  | .nil => 1
  | .ptr d => uptoBulk d + 1
  | .slice elems spare => uptoBulkAll elems + uptoBulkAll spare + 1
  | .agg parts => uptoBulkAll parts + 1
  | .iface _ d => uptoBulk d + 1
  | .map entries => uptoBulkEntries entries + 1
  | .held _ => 1
def uptoBulkAll {H : Type} : List (DataW H) → Nat
  | [] => 0
  | d :: r => uptoBulk d + uptoBulkAll r
def uptoBulkEntries {H : Type} : List (Lit × DataW H) → Nat
  | [] => 0
  | x :: r => uptoBulkEntry x + uptoBulkEntries r
def uptoBulkEntry {H : Type} : Lit × DataW H → Nat
  | (.string bytes, d) => bytes.length + uptoBulk d + 1
  | (_, d) => uptoBulk d + 1
 end
def uptoSmall : (H : Type) → List (DataW H) → Bool := fun _ ds => decide (uptoBulkAll ds ≤ 1048576)
def OpenSpec.upto (s : _root_.Go.ChangeSpec) : _root_.Go.OpenSpec := { _root_.Go.OpenSpec.ofChange s with cond := some uptoSmall }

/-- 'laws.FnExactSameEnds', WHERE WHAT IT READS IS OF BULK AT MOST 1048576: true; the input reads as it did. -/
def fnExactSameEndsUptoRow : OpenClaim := { program := "ytpkeanlcmjbgnaegreat", sum := "2256717d58e0e1f5b808a3275534bca43612e56c6c40c831b0b1d6ac6ca37634", func := "loop.example/g00670/laws.FnExactSameEnds", spec := "fnExactSameEnds", unfollowed := true, recurses := true, apart := false, narrowed := true }
def FnExactSameEndsUptoSaid : Prop := fnExactSameEndsUptoRow.holds Tryz.pinned (OpenSpec.upto fnExactSameEndsSpec)

/-- 'laws.FnExactTakeData', WHERE WHAT IT READS IS OF BULK AT MOST 1048576: true; the input reads as it did. -/
def fnExactTakeDataUptoRow : OpenClaim := { program := "ytpkeanlcmjbgnaegreat", sum := "2256717d58e0e1f5b808a3275534bca43612e56c6c40c831b0b1d6ac6ca37634", func := "loop.example/g00670/laws.FnExactTakeData", spec := "fnExactTakeData", inPlace := ["slices.overlaps[int64]", "slices.overlaps[loop.example/g00670/impl.Data]"], unfollowed := true, recurses := true, apart := false, narrowed := true }
def FnExactTakeDataUptoSaid : Prop := fnExactTakeDataUptoRow.holds Tryz.pinned (OpenSpec.upto fnExactTakeDataSpec)

/-- 'laws.FnExactSameWorlds', WHERE WHAT IT READS IS OF BULK AT MOST 1048576: true; the input reads as it did. -/
def fnExactSameWorldsUptoRow : OpenClaim := { program := "ytpkeanlcmjbgnaegreat", sum := "2256717d58e0e1f5b808a3275534bca43612e56c6c40c831b0b1d6ac6ca37634", func := "loop.example/g00670/laws.FnExactSameWorlds", spec := "fnExactSameWorlds", unfollowed := true, recurses := true, apart := false, narrowed := true }
def FnExactSameWorldsUptoSaid : Prop := fnExactSameWorldsUptoRow.holds Tryz.pinned (OpenSpec.upto fnExactSameWorldsSpec)

/-- 'laws.FnExactEndFault', WHERE WHAT IT READS IS OF BULK AT MOST 1048576: true; the input reads as it did. -/
def fnExactEndFaultUptoRow : OpenClaim := { program := "ytpkeanlcmjbgnaegreat", sum := "2256717d58e0e1f5b808a3275534bca43612e56c6c40c831b0b1d6ac6ca37634", func := "loop.example/g00670/laws.FnExactEndFault", spec := "fnExactEndFault", unfollowed := true, recurses := true, apart := false, narrowed := true }
def FnExactEndFaultUptoSaid : Prop := fnExactEndFaultUptoRow.holds Tryz.pinned (OpenSpec.upto fnExactEndFaultSpec)

/-- 'laws.FnExactWorldFault', WHERE WHAT IT READS IS OF BULK AT MOST 1048576: true; the input reads as it did. -/
def fnExactWorldFaultUptoRow : OpenClaim := { program := "ytpkeanlcmjbgnaegreat", sum := "2256717d58e0e1f5b808a3275534bca43612e56c6c40c831b0b1d6ac6ca37634", func := "loop.example/g00670/laws.FnExactWorldFault", spec := "fnExactWorldFault", unfollowed := true, recurses := true, apart := false, narrowed := true }
def FnExactWorldFaultUptoSaid : Prop := fnExactWorldFaultUptoRow.holds Tryz.pinned (OpenSpec.upto fnExactWorldFaultSpec)

end Rows
end Go.Proofs.YtpkeanlcmjbgnaeGreat
