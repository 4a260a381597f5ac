/-
  No cell of these rows narrows 'for every input' (looked for: loops, veiled, ifaces, maps, wideKeys, modest, calm, conditions, laid).
  DERIVED. THE GIVEN ROWS OF THIS SEAT. 11 by the template 'for every input the law returns true; each argument reads behind the call as it read before'; 0 by the template 'total and deterministic' (their statements: YtpidphppldimkaaTotals.lean).
  GIVEN WITH THE SEED: the statements are not yours to turn. If you find one false, say at which input.
  Laid BY PROGRAM, IN A SANDBOX (cutbox-rows.mjs): the forced cells as the released guide's own fill.sh prints them over the translation 64a1da471459ba25… (all of the seat's roots in one cut). By AI agents, Wed Nov 11 2026. No macro, syntax, notation, axiom, sorry.
-/
import Derived.Test.YtpidphppldimkaaChecked
import GoSem.Claim
import GoSem.ClaimJoined
import GoSem.ClaimMapViews
import Derived.JoinedTies
import Derived.KernelRfl
namespace Go.Proofs.Ytpidphppldimkaa
/- THE CELL 'sum', in the pinned program and in every row, IS THE sha256 OF THE DUMP (.gsa) THAT YtpidphppldimkaaProg.lean LOADS. Nothing in Lean hashes anything: it is a label: what it is worth is what the hold of that sum in a sandbox is worth. -/
noncomputable def Try.pinned : Pinned := { name := "ytpidphppldimkaa", sum := "64a1da471459ba2575c8c32695f3634bb63a1091403b6e7d8a8b1942e601bfa8", checked := Try.checked }
namespace Rows
def none {H : Type} : Left H := { results := [], args := [] }

/-- 'laws.FnNoneHeld': WHATEVER THE INPUT: true; the input reads as it did. -/
def fnNoneHeldSpec : ChangeSpec := { name := "fnNoneHeld", fn := fun _ => fun
  | [d] => { results := [.lit (.bool true)], args := [d] }
  | _ => none }
def fnNoneHeldRow : OpenClaim := { program := "ytpidphppldimkaa", sum := "64a1da471459ba2575c8c32695f3634bb63a1091403b6e7d8a8b1942e601bfa8", func := "loop.example/g00468/laws.FnNoneHeld", spec := "fnNoneHeld", unfollowed := true, recurses := true, apart := false }
def FnNoneHeldSaid : Prop := fnNoneHeldRow.holds Try.pinned (OpenSpec.ofChange fnNoneHeldSpec)

/-- ITS FALSE NEIGHBOUR: 'it returns false'. Refute it at one input. -/
def fnNoneHeldWrong : ChangeSpec := { name := "fnNoneHeld", fn := fun _ => fun
  | [d] => { results := [.lit (.bool false)], args := [d] }
  | _ => none }
def FnNoneHeldWrongFalsely : Prop := fnNoneHeldRow.holds Try.pinned (OpenSpec.ofChange fnNoneHeldWrong)

/-- 'laws.FnExactEpochsNew': WHATEVER THE INPUT: true; the input reads as it did. -/
def fnExactEpochsNewSpec : ChangeSpec := { name := "fnExactEpochsNew", fn := fun _ => fun
  | [d] => { results := [.lit (.bool true)], args := [d] }
  | _ => none }
def fnExactEpochsNewRow : OpenClaim := { program := "ytpidphppldimkaa", sum := "64a1da471459ba2575c8c32695f3634bb63a1091403b6e7d8a8b1942e601bfa8", func := "loop.example/g00468/laws.FnExactEpochsNew", spec := "fnExactEpochsNew", apart := false }
def FnExactEpochsNewSaid : Prop := fnExactEpochsNewRow.holds Try.pinned (OpenSpec.ofChange fnExactEpochsNewSpec)

/-- ITS FALSE NEIGHBOUR: 'it returns false'. Refute it at one input. -/
def fnExactEpochsNewWrong : ChangeSpec := { name := "fnExactEpochsNew", fn := fun _ => fun
  | [d] => { results := [.lit (.bool false)], args := [d] }
  | _ => none }
def FnExactEpochsNewWrongFalsely : Prop := fnExactEpochsNewRow.holds Try.pinned (OpenSpec.ofChange fnExactEpochsNewWrong)

/-- 'laws.FnExactEpochsOk': WHATEVER THE INPUT: true; the input reads as it did. -/
def fnExactEpochsOkSpec : ChangeSpec := { name := "fnExactEpochsOk", fn := fun _ => fun
  | [d] => { results := [.lit (.bool true)], args := [d] }
  | _ => none }
def fnExactEpochsOkRow : OpenClaim := { program := "ytpidphppldimkaa", sum := "64a1da471459ba2575c8c32695f3634bb63a1091403b6e7d8a8b1942e601bfa8", func := "loop.example/g00468/laws.FnExactEpochsOk", spec := "fnExactEpochsOk", unfollowed := true, recurses := true, apart := false }
def FnExactEpochsOkSaid : Prop := fnExactEpochsOkRow.holds Try.pinned (OpenSpec.ofChange fnExactEpochsOkSpec)

/-- ITS FALSE NEIGHBOUR: 'it returns false'. Refute it at one input. -/
def fnExactEpochsOkWrong : ChangeSpec := { name := "fnExactEpochsOk", fn := fun _ => fun
  | [d] => { results := [.lit (.bool false)], args := [d] }
  | _ => none }
def FnExactEpochsOkWrongFalsely : Prop := fnExactEpochsOkRow.holds Try.pinned (OpenSpec.ofChange fnExactEpochsOkWrong)

/-- 'laws.FnAllCollected': WHATEVER THE INPUT: true; the input reads as it did. -/
def fnAllCollectedSpec : ChangeSpec := { name := "fnAllCollected", fn := fun _ => fun
  | [d] => { results := [.lit (.bool true)], args := [d] }
  | _ => none }
def fnAllCollectedRow : OpenClaim := { program := "ytpidphppldimkaa", sum := "64a1da471459ba2575c8c32695f3634bb63a1091403b6e7d8a8b1942e601bfa8", func := "loop.example/g00468/laws.FnAllCollected", spec := "fnAllCollected", unfollowed := true, recurses := true, apart := false }
def FnAllCollectedSaid : Prop := fnAllCollectedRow.holds Try.pinned (OpenSpec.ofChange fnAllCollectedSpec)

/-- ITS FALSE NEIGHBOUR: 'it returns false'. Refute it at one input. -/
def fnAllCollectedWrong : ChangeSpec := { name := "fnAllCollected", fn := fun _ => fun
  | [d] => { results := [.lit (.bool false)], args := [d] }
  | _ => none }
def FnAllCollectedWrongFalsely : Prop := fnAllCollectedRow.holds Try.pinned (OpenSpec.ofChange fnAllCollectedWrong)

/-- 'laws.FnExactRetire': WHATEVER THE INPUT: true; the input reads as it did. -/
def fnExactRetireSpec : ChangeSpec := { name := "fnExactRetire", fn := fun _ => fun
  | [d1, d2] => { results := [.lit (.bool true)], args := [d1, d2] }
  | _ => none }
def fnExactRetireRow : OpenClaim := { program := "ytpidphppldimkaa", sum := "64a1da471459ba2575c8c32695f3634bb63a1091403b6e7d8a8b1942e601bfa8", func := "loop.example/g00468/laws.FnExactRetire", spec := "fnExactRetire", unfollowed := true, recurses := true, apart := false }
def FnExactRetireSaid : Prop := fnExactRetireRow.holds Try.pinned (OpenSpec.ofChange fnExactRetireSpec)

/-- ITS FALSE NEIGHBOUR: 'it returns false'. Refute it at one input. -/
def fnExactRetireWrong : ChangeSpec := { name := "fnExactRetire", fn := fun _ => fun
  | [d1, d2] => { results := [.lit (.bool false)], args := [d1, d2] }
  | _ => none }
def FnExactRetireWrongFalsely : Prop := fnExactRetireRow.holds Try.pinned (OpenSpec.ofChange fnExactRetireWrong)

/-- 'laws.FnExactPin': WHATEVER THE INPUT: true; the input reads as it did. -/
def fnExactPinSpec : ChangeSpec := { name := "fnExactPin", fn := fun _ => fun
  | [d1, d2] => { results := [.lit (.bool true)], args := [d1, d2] }
  | _ => none }
def fnExactPinRow : OpenClaim := { program := "ytpidphppldimkaa", sum := "64a1da471459ba2575c8c32695f3634bb63a1091403b6e7d8a8b1942e601bfa8", func := "loop.example/g00468/laws.FnExactPin", spec := "fnExactPin", unfollowed := true, recurses := true, apart := false }
def FnExactPinSaid : Prop := fnExactPinRow.holds Try.pinned (OpenSpec.ofChange fnExactPinSpec)

/-- ITS FALSE NEIGHBOUR: 'it returns false'. Refute it at one input. -/
def fnExactPinWrong : ChangeSpec := { name := "fnExactPin", fn := fun _ => fun
  | [d1, d2] => { results := [.lit (.bool false)], args := [d1, d2] }
  | _ => none }
def FnExactPinWrongFalsely : Prop := fnExactPinRow.holds Try.pinned (OpenSpec.ofChange fnExactPinWrong)

/-- 'laws.FnExactUnpin': WHATEVER THE INPUT: true; the input reads as it did. -/
def fnExactUnpinSpec : ChangeSpec := { name := "fnExactUnpin", fn := fun _ => fun
  | [d1, d2] => { results := [.lit (.bool true)], args := [d1, d2] }
  | _ => none }
def fnExactUnpinRow : OpenClaim := { program := "ytpidphppldimkaa", sum := "64a1da471459ba2575c8c32695f3634bb63a1091403b6e7d8a8b1942e601bfa8", func := "loop.example/g00468/laws.FnExactUnpin", spec := "fnExactUnpin", unfollowed := true, recurses := true, apart := false }
def FnExactUnpinSaid : Prop := fnExactUnpinRow.holds Try.pinned (OpenSpec.ofChange fnExactUnpinSpec)

/-- ITS FALSE NEIGHBOUR: 'it returns false'. Refute it at one input. -/
def fnExactUnpinWrong : ChangeSpec := { name := "fnExactUnpin", fn := fun _ => fun
  | [d1, d2] => { results := [.lit (.bool false)], args := [d1, d2] }
  | _ => none }
def FnExactUnpinWrongFalsely : Prop := fnExactUnpinRow.holds Try.pinned (OpenSpec.ofChange fnExactUnpinWrong)

/-- 'laws.FnExactTurned': WHATEVER THE INPUT: true; the input reads as it did. -/
def fnExactTurnedSpec : ChangeSpec := { name := "fnExactTurned", fn := fun _ => fun
  | [d] => { results := [.lit (.bool true)], args := [d] }
  | _ => none }
def fnExactTurnedRow : OpenClaim := { program := "ytpidphppldimkaa", sum := "64a1da471459ba2575c8c32695f3634bb63a1091403b6e7d8a8b1942e601bfa8", func := "loop.example/g00468/laws.FnExactTurned", spec := "fnExactTurned", unfollowed := true, recurses := true, apart := false }
def FnExactTurnedSaid : Prop := fnExactTurnedRow.holds Try.pinned (OpenSpec.ofChange fnExactTurnedSpec)

/-- ITS FALSE NEIGHBOUR: 'it returns false'. Refute it at one input. -/
def fnExactTurnedWrong : ChangeSpec := { name := "fnExactTurned", fn := fun _ => fun
  | [d] => { results := [.lit (.bool false)], args := [d] }
  | _ => none }
def FnExactTurnedWrongFalsely : Prop := fnExactTurnedRow.holds Try.pinned (OpenSpec.ofChange fnExactTurnedWrong)

/-- 'laws.FnTurnWaits': WHATEVER THE INPUT: true; the input reads as it did. -/
def fnTurnWaitsSpec : ChangeSpec := { name := "fnTurnWaits", fn := fun _ => fun
  | [d] => { results := [.lit (.bool true)], args := [d] }
  | _ => none }
def fnTurnWaitsRow : OpenClaim := { program := "ytpidphppldimkaa", sum := "64a1da471459ba2575c8c32695f3634bb63a1091403b6e7d8a8b1942e601bfa8", func := "loop.example/g00468/laws.FnTurnWaits", spec := "fnTurnWaits", unfollowed := true, recurses := true, apart := false }
def FnTurnWaitsSaid : Prop := fnTurnWaitsRow.holds Try.pinned (OpenSpec.ofChange fnTurnWaitsSpec)

/-- ITS FALSE NEIGHBOUR: 'it returns false'. Refute it at one input. -/
def fnTurnWaitsWrong : ChangeSpec := { name := "fnTurnWaits", fn := fun _ => fun
  | [d] => { results := [.lit (.bool false)], args := [d] }
  | _ => none }
def FnTurnWaitsWrongFalsely : Prop := fnTurnWaitsRow.holds Try.pinned (OpenSpec.ofChange fnTurnWaitsWrong)

/-- 'laws.FnExactCollect': WHATEVER THE INPUT: true; the input reads as it did. -/
def fnExactCollectSpec : ChangeSpec := { name := "fnExactCollect", fn := fun _ => fun
  | [d] => { results := [.lit (.bool true)], args := [d] }
  | _ => none }
def fnExactCollectRow : OpenClaim := { program := "ytpidphppldimkaa", sum := "64a1da471459ba2575c8c32695f3634bb63a1091403b6e7d8a8b1942e601bfa8", func := "loop.example/g00468/laws.FnExactCollect", spec := "fnExactCollect", unfollowed := true, recurses := true, apart := false }
def FnExactCollectSaid : Prop := fnExactCollectRow.holds Try.pinned (OpenSpec.ofChange fnExactCollectSpec)

/-- ITS FALSE NEIGHBOUR: 'it returns false'. Refute it at one input. -/
def fnExactCollectWrong : ChangeSpec := { name := "fnExactCollect", fn := fun _ => fun
  | [d] => { results := [.lit (.bool false)], args := [d] }
  | _ => none }
def FnExactCollectWrongFalsely : Prop := fnExactCollectRow.holds Try.pinned (OpenSpec.ofChange fnExactCollectWrong)

/-- 'laws.FnEpochs': WHATEVER THE INPUT: true; the input reads as it did. -/
def fnEpochsSpec : ChangeSpec := { name := "fnEpochs", fn := fun _ => fun
  | [d] => { results := [.lit (.bool true)], args := [d] }
  | _ => none }
def fnEpochsRow : OpenClaim := { program := "ytpidphppldimkaa", sum := "64a1da471459ba2575c8c32695f3634bb63a1091403b6e7d8a8b1942e601bfa8", func := "loop.example/g00468/laws.FnEpochs", spec := "fnEpochs", unfollowed := true, recurses := true, apart := false }
def FnEpochsSaid : Prop := fnEpochsRow.holds Try.pinned (OpenSpec.ofChange fnEpochsSpec)

/-- ITS FALSE NEIGHBOUR: 'it returns false'. Refute it at one input. -/
def fnEpochsWrong : ChangeSpec := { name := "fnEpochs", fn := fun _ => fun
  | [d] => { results := [.lit (.bool false)], args := [d] }
  | _ => none }
def FnEpochsWrongFalsely : Prop := fnEpochsRow.holds Try.pinned (OpenSpec.ofChange fnEpochsWrong)

/- THE SECOND FORM. 'bulk': how many values and letters a reading holds, each counted each time it is reached (what is shared counts as often as it is met; a slice's spare places count too). A statement '..UptoSaid' is the law's where the arguments, and the package variables that the reading takes, are together of bulk at most 1048576: NARROWER than '..Said'. Prove '..Said' where nothing that the law and all that it calls make is longer than what came in: it says more and counts as full. Else prove '..UptoSaid'. A law counts once. -/
mutual
def uptoBulk {H : Type} : DataW H → Nat
  | .lit (.string bytes) => bytes.length + 1
  | .lit _ => 1
  | .nil => 1
  | .ptr d => uptoBulk d + 1
  | .slice elems spare => uptoBulkAll elems + uptoBulkAll spare + 1
  | .agg parts => uptoBulkAll parts + 1
  | .iface _ d => uptoBulk d + 1
  | .map entries => uptoBulkEntries entries + 1
  | .held _ => 1
def uptoBulkAll {H : Type} : List (DataW H) → Nat
  | [] => 0
  | d :: r => uptoBulk d + uptoBulkAll r
def uptoBulkEntries {H : Type} : List (Lit × DataW H) → Nat
  | [] => 0
  | x :: r => uptoBulkEntry x + uptoBulkEntries r
def uptoBulkEntry {H : Type} : Lit × DataW H → Nat
  | (.string bytes, d) => bytes.length + uptoBulk d + 1
  | (_, d) => uptoBulk d + 1
 end
def uptoSmall : (H : Type) → List (DataW H) → Bool := fun _ ds => decide (uptoBulkAll ds ≤ 1048576)
def OpenSpec.upto (s : _root_.Go.ChangeSpec) : _root_.Go.OpenSpec := { _root_.Go.OpenSpec.ofChange s with cond := some uptoSmall }

/-- 'laws.FnNoneHeld', WHERE WHAT IT READS IS OF BULK AT MOST 1048576: true; the input reads as it did. -/
def fnNoneHeldUptoRow : OpenClaim := { program := "ytpidphppldimkaa", sum := "64a1da471459ba2575c8c32695f3634bb63a1091403b6e7d8a8b1942e601bfa8", func := "loop.example/g00468/laws.FnNoneHeld", spec := "fnNoneHeld", unfollowed := true, recurses := true, apart := false, narrowed := true }
def FnNoneHeldUptoSaid : Prop := fnNoneHeldUptoRow.holds Try.pinned (OpenSpec.upto fnNoneHeldSpec)

/-- 'laws.FnExactEpochsNew', WHERE WHAT IT READS IS OF BULK AT MOST 1048576: true; the input reads as it did. -/
def fnExactEpochsNewUptoRow : OpenClaim := { program := "ytpidphppldimkaa", sum := "64a1da471459ba2575c8c32695f3634bb63a1091403b6e7d8a8b1942e601bfa8", func := "loop.example/g00468/laws.FnExactEpochsNew", spec := "fnExactEpochsNew", apart := false, narrowed := true }
def FnExactEpochsNewUptoSaid : Prop := fnExactEpochsNewUptoRow.holds Try.pinned (OpenSpec.upto fnExactEpochsNewSpec)

/-- 'laws.FnExactEpochsOk', WHERE WHAT IT READS IS OF BULK AT MOST 1048576: true; the input reads as it did. -/
def fnExactEpochsOkUptoRow : OpenClaim := { program := "ytpidphppldimkaa", sum := "64a1da471459ba2575c8c32695f3634bb63a1091403b6e7d8a8b1942e601bfa8", func := "loop.example/g00468/laws.FnExactEpochsOk", spec := "fnExactEpochsOk", unfollowed := true, recurses := true, apart := false, narrowed := true }
def FnExactEpochsOkUptoSaid : Prop := fnExactEpochsOkUptoRow.holds Try.pinned (OpenSpec.upto fnExactEpochsOkSpec)

/-- 'laws.FnAllCollected', WHERE WHAT IT READS IS OF BULK AT MOST 1048576: true; the input reads as it did. -/
def fnAllCollectedUptoRow : OpenClaim := { program := "ytpidphppldimkaa", sum := "64a1da471459ba2575c8c32695f3634bb63a1091403b6e7d8a8b1942e601bfa8", func := "loop.example/g00468/laws.FnAllCollected", spec := "fnAllCollected", unfollowed := true, recurses := true, apart := false, narrowed := true }
def FnAllCollectedUptoSaid : Prop := fnAllCollectedUptoRow.holds Try.pinned (OpenSpec.upto fnAllCollectedSpec)

/-- 'laws.FnExactRetire', WHERE WHAT IT READS IS OF BULK AT MOST 1048576: true; the input reads as it did. -/
def fnExactRetireUptoRow : OpenClaim := { program := "ytpidphppldimkaa", sum := "64a1da471459ba2575c8c32695f3634bb63a1091403b6e7d8a8b1942e601bfa8", func := "loop.example/g00468/laws.FnExactRetire", spec := "fnExactRetire", unfollowed := true, recurses := true, apart := false, narrowed := true }
def FnExactRetireUptoSaid : Prop := fnExactRetireUptoRow.holds Try.pinned (OpenSpec.upto fnExactRetireSpec)

/-- 'laws.FnExactPin', WHERE WHAT IT READS IS OF BULK AT MOST 1048576: true; the input reads as it did. -/
def fnExactPinUptoRow : OpenClaim := { program := "ytpidphppldimkaa", sum := "64a1da471459ba2575c8c32695f3634bb63a1091403b6e7d8a8b1942e601bfa8", func := "loop.example/g00468/laws.FnExactPin", spec := "fnExactPin", unfollowed := true, recurses := true, apart := false, narrowed := true }
def FnExactPinUptoSaid : Prop := fnExactPinUptoRow.holds Try.pinned (OpenSpec.upto fnExactPinSpec)

/-- 'laws.FnExactUnpin', WHERE WHAT IT READS IS OF BULK AT MOST 1048576: true; the input reads as it did. -/
def fnExactUnpinUptoRow : OpenClaim := { program := "ytpidphppldimkaa", sum := "64a1da471459ba2575c8c32695f3634bb63a1091403b6e7d8a8b1942e601bfa8", func := "loop.example/g00468/laws.FnExactUnpin", spec := "fnExactUnpin", unfollowed := true, recurses := true, apart := false, narrowed := true }
def FnExactUnpinUptoSaid : Prop := fnExactUnpinUptoRow.holds Try.pinned (OpenSpec.upto fnExactUnpinSpec)

/-- 'laws.FnExactTurned', WHERE WHAT IT READS IS OF BULK AT MOST 1048576: true; the input reads as it did. -/
def fnExactTurnedUptoRow : OpenClaim := { program := "ytpidphppldimkaa", sum := "64a1da471459ba2575c8c32695f3634bb63a1091403b6e7d8a8b1942e601bfa8", func := "loop.example/g00468/laws.FnExactTurned", spec := "fnExactTurned", unfollowed := true, recurses := true, apart := false, narrowed := true }
def FnExactTurnedUptoSaid : Prop := fnExactTurnedUptoRow.holds Try.pinned (OpenSpec.upto fnExactTurnedSpec)

/-- 'laws.FnTurnWaits', WHERE WHAT IT READS IS OF BULK AT MOST 1048576: true; the input reads as it did. -/
def fnTurnWaitsUptoRow : OpenClaim := { program := "ytpidphppldimkaa", sum := "64a1da471459ba2575c8c32695f3634bb63a1091403b6e7d8a8b1942e601bfa8", func := "loop.example/g00468/laws.FnTurnWaits", spec := "fnTurnWaits", unfollowed := true, recurses := true, apart := false, narrowed := true }
def FnTurnWaitsUptoSaid : Prop := fnTurnWaitsUptoRow.holds Try.pinned (OpenSpec.upto fnTurnWaitsSpec)

/-- 'laws.FnExactCollect', WHERE WHAT IT READS IS OF BULK AT MOST 1048576: true; the input reads as it did. -/
def fnExactCollectUptoRow : OpenClaim := { program := "ytpidphppldimkaa", sum := "64a1da471459ba2575c8c32695f3634bb63a1091403b6e7d8a8b1942e601bfa8", func := "loop.example/g00468/laws.FnExactCollect", spec := "fnExactCollect", unfollowed := true, recurses := true, apart := false, narrowed := true }
def FnExactCollectUptoSaid : Prop := fnExactCollectUptoRow.holds Try.pinned (OpenSpec.upto fnExactCollectSpec)

/-- 'laws.FnEpochs', WHERE WHAT IT READS IS OF BULK AT MOST 1048576: true; the input reads as it did. -/
def fnEpochsUptoRow : OpenClaim := { program := "ytpidphppldimkaa", sum := "64a1da471459ba2575c8c32695f3634bb63a1091403b6e7d8a8b1942e601bfa8", func := "loop.example/g00468/laws.FnEpochs", spec := "fnEpochs", unfollowed := true, recurses := true, apart := false, narrowed := true }
def FnEpochsUptoSaid : Prop := fnEpochsUptoRow.holds Try.pinned (OpenSpec.upto fnEpochsSpec)

end Rows
end Go.Proofs.Ytpidphppldimkaa
