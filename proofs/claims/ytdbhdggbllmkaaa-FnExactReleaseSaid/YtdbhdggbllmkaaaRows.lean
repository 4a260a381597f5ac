/-
  No cell of these rows narrows 'for every input' (looked for: loops, veiled, ifaces, maps, wideKeys, modest, calm, conditions, laid).
  DERIVED. THE GIVEN ROWS OF THIS SEAT. 9 by the template 'for every input the law returns true; each argument reads behind the call as it read before'; 0 by the template 'total and deterministic' (their statements: YtdbhdggbllmkaaaTotals.lean).
  GIVEN WITH THE SEED: the statements are not yours to turn. If you find one false, say at which input.
  Laid BY PROGRAM, IN A SANDBOX (cutbox-rows.mjs): the forced cells as the released guide's own fill.sh prints them over the translation 9c6c3b3a910eceac… (all of the seat's roots in one cut). By AI agents, Wed Nov 11 2026. No macro, syntax, notation, axiom, sorry.
-/
import Derived.Test.YtdbhdggbllmkaaaChecked
import GoSem.Claim
import GoSem.ClaimJoined
import GoSem.ClaimMapViews
import Derived.JoinedTies
import Derived.KernelRfl
namespace Go.Proofs.Ytdbhdggbllmkaaa
/- THE CELL 'sum', in the pinned program and in every row, IS THE sha256 OF THE DUMP (.gsa) THAT YtdbhdggbllmkaaaProg.lean LOADS. Nothing in Lean hashes anything: it is a label: what it is worth is what the hold of that sum in a sandbox is worth. -/
noncomputable def Try.pinned : Pinned := { name := "ytdbhdggbllmkaaa", sum := "9c6c3b3a910eceac6cbe94f573fa450979995c11f0b26cc50e0a8ce083ca8bc0", checked := Try.checked }
namespace Rows
def none {H : Type} : Left H := { results := [], args := [] }

/-- 'laws.FnExactArenaOk': WHATEVER THE INPUT: true; the input reads as it did. -/
def fnExactArenaOkSpec : ChangeSpec := { name := "fnExactArenaOk", fn := fun _ => fun
  | [d] => { results := [.lit (.bool true)], args := [d] }
  | _ => none }
def fnExactArenaOkRow : OpenClaim := { program := "ytdbhdggbllmkaaa", sum := "9c6c3b3a910eceac6cbe94f573fa450979995c11f0b26cc50e0a8ce083ca8bc0", func := "loop.example/g00468/laws.FnExactArenaOk", spec := "fnExactArenaOk", apart := false }
def FnExactArenaOkSaid : Prop := fnExactArenaOkRow.holds Try.pinned (OpenSpec.ofChange fnExactArenaOkSpec)

/-- ITS FALSE NEIGHBOUR: 'it returns false'. Refute it at one input. -/
def fnExactArenaOkWrong : ChangeSpec := { name := "fnExactArenaOk", fn := fun _ => fun
  | [d] => { results := [.lit (.bool false)], args := [d] }
  | _ => none }
def FnExactArenaOkWrongFalsely : Prop := fnExactArenaOkRow.holds Try.pinned (OpenSpec.ofChange fnExactArenaOkWrong)

/-- 'laws.FnExactArenaNew': WHATEVER THE INPUT: true; the input reads as it did. -/
def fnExactArenaNewSpec : ChangeSpec := { name := "fnExactArenaNew", fn := fun _ => fun
  | [d] => { results := [.lit (.bool true)], args := [d] }
  | _ => none }
def fnExactArenaNewRow : OpenClaim := { program := "ytdbhdggbllmkaaa", sum := "9c6c3b3a910eceac6cbe94f573fa450979995c11f0b26cc50e0a8ce083ca8bc0", func := "loop.example/g00468/laws.FnExactArenaNew", spec := "fnExactArenaNew", apart := false }
def FnExactArenaNewSaid : Prop := fnExactArenaNewRow.holds Try.pinned (OpenSpec.ofChange fnExactArenaNewSpec)

/-- ITS FALSE NEIGHBOUR: 'it returns false'. Refute it at one input. -/
def fnExactArenaNewWrong : ChangeSpec := { name := "fnExactArenaNew", fn := fun _ => fun
  | [d] => { results := [.lit (.bool false)], args := [d] }
  | _ => none }
def FnExactArenaNewWrongFalsely : Prop := fnExactArenaNewRow.holds Try.pinned (OpenSpec.ofChange fnExactArenaNewWrong)

/-- 'laws.FnExactRoom': WHATEVER THE INPUT: true; the input reads as it did. -/
def fnExactRoomSpec : ChangeSpec := { name := "fnExactRoom", fn := fun _ => fun
  | [d] => { results := [.lit (.bool true)], args := [d] }
  | _ => none }
def fnExactRoomRow : OpenClaim := { program := "ytdbhdggbllmkaaa", sum := "9c6c3b3a910eceac6cbe94f573fa450979995c11f0b26cc50e0a8ce083ca8bc0", func := "loop.example/g00468/laws.FnExactRoom", spec := "fnExactRoom", apart := false }
def FnExactRoomSaid : Prop := fnExactRoomRow.holds Try.pinned (OpenSpec.ofChange fnExactRoomSpec)

/-- ITS FALSE NEIGHBOUR: 'it returns false'. Refute it at one input. -/
def fnExactRoomWrong : ChangeSpec := { name := "fnExactRoom", fn := fun _ => fun
  | [d] => { results := [.lit (.bool false)], args := [d] }
  | _ => none }
def FnExactRoomWrongFalsely : Prop := fnExactRoomRow.holds Try.pinned (OpenSpec.ofChange fnExactRoomWrong)

/-- 'laws.FnExactGap': WHATEVER THE INPUT: true; the input reads as it did. -/
def fnExactGapSpec : ChangeSpec := { name := "fnExactGap", fn := fun _ => fun
  | [d] => { results := [.lit (.bool true)], args := [d] }
  | _ => none }
def fnExactGapRow : OpenClaim := { program := "ytdbhdggbllmkaaa", sum := "9c6c3b3a910eceac6cbe94f573fa450979995c11f0b26cc50e0a8ce083ca8bc0", func := "loop.example/g00468/laws.FnExactGap", spec := "fnExactGap", apart := false }
def FnExactGapSaid : Prop := fnExactGapRow.holds Try.pinned (OpenSpec.ofChange fnExactGapSpec)

/-- ITS FALSE NEIGHBOUR: 'it returns false'. Refute it at one input. -/
def fnExactGapWrong : ChangeSpec := { name := "fnExactGap", fn := fun _ => fun
  | [d] => { results := [.lit (.bool false)], args := [d] }
  | _ => none }
def FnExactGapWrongFalsely : Prop := fnExactGapRow.holds Try.pinned (OpenSpec.ofChange fnExactGapWrong)

/-- 'laws.FnExactRelease': WHATEVER THE INPUT: true; the input reads as it did. -/
def fnExactReleaseSpec : ChangeSpec := { name := "fnExactRelease", fn := fun _ => fun
  | [d1, d2] => { results := [.lit (.bool true)], args := [d1, d2] }
  | _ => none }
def fnExactReleaseRow : OpenClaim := { program := "ytdbhdggbllmkaaa", sum := "9c6c3b3a910eceac6cbe94f573fa450979995c11f0b26cc50e0a8ce083ca8bc0", func := "loop.example/g00468/laws.FnExactRelease", spec := "fnExactRelease", unfollowed := true, recurses := true, apart := false }
def FnExactReleaseSaid : Prop := fnExactReleaseRow.holds Try.pinned (OpenSpec.ofChange fnExactReleaseSpec)

/-- ITS FALSE NEIGHBOUR: 'it returns false'. Refute it at one input. -/
def fnExactReleaseWrong : ChangeSpec := { name := "fnExactRelease", fn := fun _ => fun
  | [d1, d2] => { results := [.lit (.bool false)], args := [d1, d2] }
  | _ => none }
def FnExactReleaseWrongFalsely : Prop := fnExactReleaseRow.holds Try.pinned (OpenSpec.ofChange fnExactReleaseWrong)

/-- 'laws.FnAllGivenBack': WHATEVER THE INPUT: true; the input reads as it did. -/
def fnAllGivenBackSpec : ChangeSpec := { name := "fnAllGivenBack", fn := fun _ => fun
  | [d] => { results := [.lit (.bool true)], args := [d] }
  | _ => none }
def fnAllGivenBackRow : OpenClaim := { program := "ytdbhdggbllmkaaa", sum := "9c6c3b3a910eceac6cbe94f573fa450979995c11f0b26cc50e0a8ce083ca8bc0", func := "loop.example/g00468/laws.FnAllGivenBack", spec := "fnAllGivenBack", unfollowed := true, recurses := true, apart := false }
def FnAllGivenBackSaid : Prop := fnAllGivenBackRow.holds Try.pinned (OpenSpec.ofChange fnAllGivenBackSpec)

/-- ITS FALSE NEIGHBOUR: 'it returns false'. Refute it at one input. -/
def fnAllGivenBackWrong : ChangeSpec := { name := "fnAllGivenBack", fn := fun _ => fun
  | [d] => { results := [.lit (.bool false)], args := [d] }
  | _ => none }
def FnAllGivenBackWrongFalsely : Prop := fnAllGivenBackRow.holds Try.pinned (OpenSpec.ofChange fnAllGivenBackWrong)

/-- 'laws.FnExactAlloc': WHATEVER THE INPUT: true; the input reads as it did. -/
def fnExactAllocSpec : ChangeSpec := { name := "fnExactAlloc", fn := fun _ => fun
  | [d1, d2] => { results := [.lit (.bool true)], args := [d1, d2] }
  | _ => none }
def fnExactAllocRow : OpenClaim := { program := "ytdbhdggbllmkaaa", sum := "9c6c3b3a910eceac6cbe94f573fa450979995c11f0b26cc50e0a8ce083ca8bc0", func := "loop.example/g00468/laws.FnExactAlloc", spec := "fnExactAlloc", inPlace := ["slices.overlaps[loop.example/g00468/impl.Span]"], apart := false }
def FnExactAllocSaid : Prop := fnExactAllocRow.holds Try.pinned (OpenSpec.ofChange fnExactAllocSpec)

/-- ITS FALSE NEIGHBOUR: 'it returns false'. Refute it at one input. -/
def fnExactAllocWrong : ChangeSpec := { name := "fnExactAlloc", fn := fun _ => fun
  | [d1, d2] => { results := [.lit (.bool false)], args := [d1, d2] }
  | _ => none }
def FnExactAllocWrongFalsely : Prop := fnExactAllocRow.holds Try.pinned (OpenSpec.ofChange fnExactAllocWrong)

/-- 'laws.FnArenas': WHATEVER THE INPUT: true; the input reads as it did. -/
def fnArenasSpec : ChangeSpec := { name := "fnArenas", fn := fun _ => fun
  | [d] => { results := [.lit (.bool true)], args := [d] }
  | _ => none }
def fnArenasRow : OpenClaim := { program := "ytdbhdggbllmkaaa", sum := "9c6c3b3a910eceac6cbe94f573fa450979995c11f0b26cc50e0a8ce083ca8bc0", func := "loop.example/g00468/laws.FnArenas", spec := "fnArenas", inPlace := ["slices.overlaps[loop.example/g00468/impl.Span]"], unfollowed := true, recurses := true, apart := false }
def FnArenasSaid : Prop := fnArenasRow.holds Try.pinned (OpenSpec.ofChange fnArenasSpec)

/-- ITS FALSE NEIGHBOUR: 'it returns false'. Refute it at one input. -/
def fnArenasWrong : ChangeSpec := { name := "fnArenas", fn := fun _ => fun
  | [d] => { results := [.lit (.bool false)], args := [d] }
  | _ => none }
def FnArenasWrongFalsely : Prop := fnArenasRow.holds Try.pinned (OpenSpec.ofChange fnArenasWrong)

/-- 'laws.FnRoom': WHATEVER THE INPUT: true; the input reads as it did. -/
def fnRoomSpec : ChangeSpec := { name := "fnRoom", fn := fun _ => fun
  | [d] => { results := [.lit (.bool true)], args := [d] }
  | _ => none }
def fnRoomRow : OpenClaim := { program := "ytdbhdggbllmkaaa", sum := "9c6c3b3a910eceac6cbe94f573fa450979995c11f0b26cc50e0a8ce083ca8bc0", func := "loop.example/g00468/laws.FnRoom", spec := "fnRoom", inPlace := ["slices.overlaps[loop.example/g00468/impl.Span]"], unfollowed := true, recurses := true, apart := false }
def FnRoomSaid : Prop := fnRoomRow.holds Try.pinned (OpenSpec.ofChange fnRoomSpec)

/-- ITS FALSE NEIGHBOUR: 'it returns false'. Refute it at one input. -/
def fnRoomWrong : ChangeSpec := { name := "fnRoom", fn := fun _ => fun
  | [d] => { results := [.lit (.bool false)], args := [d] }
  | _ => none }
def FnRoomWrongFalsely : Prop := fnRoomRow.holds Try.pinned (OpenSpec.ofChange fnRoomWrong)

/- THE SECOND FORM. 'bulk': how many values and letters a reading holds, each counted each time it is reached (what is shared counts as often as it is met; a slice's spare places count too). A statement '..UptoSaid' is the law's where the arguments, and the package variables that the reading takes, are together of bulk at most 1048576: NARROWER than '..Said'. Prove '..Said' where nothing that the law and all that it calls make is longer than what came in: it says more and counts as full. Else prove '..UptoSaid'. A law counts once. -/
mutual
def uptoBulk {H : Type} : DataW H → Nat
  | .lit (.string bytes) => bytes.length + 1
  | .lit _ => 1
  | .nil => 1
  | .ptr d => uptoBulk d + 1
  | .slice elems spare => uptoBulkAll elems + uptoBulkAll spare + 1
  | .agg parts => uptoBulkAll parts + 1
  | .iface _ d => uptoBulk d + 1
  | .map entries => uptoBulkEntries entries + 1
  | .held _ => 1
def uptoBulkAll {H : Type} : List (DataW H) → Nat
  | [] => 0
  | d :: r => uptoBulk d + uptoBulkAll r
def uptoBulkEntries {H : Type} : List (Lit × DataW H) → Nat
  | [] => 0
  | x :: r => uptoBulkEntry x + uptoBulkEntries r
def uptoBulkEntry {H : Type} : Lit × DataW H → Nat
  | (.string bytes, d) => bytes.length + uptoBulk d + 1
  | (_, d) => uptoBulk d + 1
 end
def uptoSmall : (H : Type) → List (DataW H) → Bool := fun _ ds => decide (uptoBulkAll ds ≤ 1048576)
def OpenSpec.upto (s : _root_.Go.ChangeSpec) : _root_.Go.OpenSpec := { _root_.Go.OpenSpec.ofChange s with cond := some uptoSmall }

/-- 'laws.FnExactArenaOk', WHERE WHAT IT READS IS OF BULK AT MOST 1048576: true; the input reads as it did. -/
def fnExactArenaOkUptoRow : OpenClaim := { program := "ytdbhdggbllmkaaa", sum := "9c6c3b3a910eceac6cbe94f573fa450979995c11f0b26cc50e0a8ce083ca8bc0", func := "loop.example/g00468/laws.FnExactArenaOk", spec := "fnExactArenaOk", apart := false, narrowed := true }
def FnExactArenaOkUptoSaid : Prop := fnExactArenaOkUptoRow.holds Try.pinned (OpenSpec.upto fnExactArenaOkSpec)

/-- 'laws.FnExactArenaNew', WHERE WHAT IT READS IS OF BULK AT MOST 1048576: true; the input reads as it did. -/
def fnExactArenaNewUptoRow : OpenClaim := { program := "ytdbhdggbllmkaaa", sum := "9c6c3b3a910eceac6cbe94f573fa450979995c11f0b26cc50e0a8ce083ca8bc0", func := "loop.example/g00468/laws.FnExactArenaNew", spec := "fnExactArenaNew", apart := false, narrowed := true }
def FnExactArenaNewUptoSaid : Prop := fnExactArenaNewUptoRow.holds Try.pinned (OpenSpec.upto fnExactArenaNewSpec)

/-- 'laws.FnExactRoom', WHERE WHAT IT READS IS OF BULK AT MOST 1048576: true; the input reads as it did. -/
def fnExactRoomUptoRow : OpenClaim := { program := "ytdbhdggbllmkaaa", sum := "9c6c3b3a910eceac6cbe94f573fa450979995c11f0b26cc50e0a8ce083ca8bc0", func := "loop.example/g00468/laws.FnExactRoom", spec := "fnExactRoom", apart := false, narrowed := true }
def FnExactRoomUptoSaid : Prop := fnExactRoomUptoRow.holds Try.pinned (OpenSpec.upto fnExactRoomSpec)

/-- 'laws.FnExactGap', WHERE WHAT IT READS IS OF BULK AT MOST 1048576: true; the input reads as it did. -/
def fnExactGapUptoRow : OpenClaim := { program := "ytdbhdggbllmkaaa", sum := "9c6c3b3a910eceac6cbe94f573fa450979995c11f0b26cc50e0a8ce083ca8bc0", func := "loop.example/g00468/laws.FnExactGap", spec := "fnExactGap", apart := false, narrowed := true }
def FnExactGapUptoSaid : Prop := fnExactGapUptoRow.holds Try.pinned (OpenSpec.upto fnExactGapSpec)

/-- 'laws.FnExactRelease', WHERE WHAT IT READS IS OF BULK AT MOST 1048576: true; the input reads as it did. -/
def fnExactReleaseUptoRow : OpenClaim := { program := "ytdbhdggbllmkaaa", sum := "9c6c3b3a910eceac6cbe94f573fa450979995c11f0b26cc50e0a8ce083ca8bc0", func := "loop.example/g00468/laws.FnExactRelease", spec := "fnExactRelease", unfollowed := true, recurses := true, apart := false, narrowed := true }
def FnExactReleaseUptoSaid : Prop := fnExactReleaseUptoRow.holds Try.pinned (OpenSpec.upto fnExactReleaseSpec)

/-- 'laws.FnAllGivenBack', WHERE WHAT IT READS IS OF BULK AT MOST 1048576: true; the input reads as it did. -/
def fnAllGivenBackUptoRow : OpenClaim := { program := "ytdbhdggbllmkaaa", sum := "9c6c3b3a910eceac6cbe94f573fa450979995c11f0b26cc50e0a8ce083ca8bc0", func := "loop.example/g00468/laws.FnAllGivenBack", spec := "fnAllGivenBack", unfollowed := true, recurses := true, apart := false, narrowed := true }
def FnAllGivenBackUptoSaid : Prop := fnAllGivenBackUptoRow.holds Try.pinned (OpenSpec.upto fnAllGivenBackSpec)

/-- 'laws.FnExactAlloc', WHERE WHAT IT READS IS OF BULK AT MOST 1048576: true; the input reads as it did. -/
def fnExactAllocUptoRow : OpenClaim := { program := "ytdbhdggbllmkaaa", sum := "9c6c3b3a910eceac6cbe94f573fa450979995c11f0b26cc50e0a8ce083ca8bc0", func := "loop.example/g00468/laws.FnExactAlloc", spec := "fnExactAlloc", inPlace := ["slices.overlaps[loop.example/g00468/impl.Span]"], apart := false, narrowed := true }
def FnExactAllocUptoSaid : Prop := fnExactAllocUptoRow.holds Try.pinned (OpenSpec.upto fnExactAllocSpec)

/-- 'laws.FnArenas', WHERE WHAT IT READS IS OF BULK AT MOST 1048576: true; the input reads as it did. -/
def fnArenasUptoRow : OpenClaim := { program := "ytdbhdggbllmkaaa", sum := "9c6c3b3a910eceac6cbe94f573fa450979995c11f0b26cc50e0a8ce083ca8bc0", func := "loop.example/g00468/laws.FnArenas", spec := "fnArenas", inPlace := ["slices.overlaps[loop.example/g00468/impl.Span]"], unfollowed := true, recurses := true, apart := false, narrowed := true }
def FnArenasUptoSaid : Prop := fnArenasUptoRow.holds Try.pinned (OpenSpec.upto fnArenasSpec)

/-- 'laws.FnRoom', WHERE WHAT IT READS IS OF BULK AT MOST 1048576: true; the input reads as it did. -/
def fnRoomUptoRow : OpenClaim := { program := "ytdbhdggbllmkaaa", sum := "9c6c3b3a910eceac6cbe94f573fa450979995c11f0b26cc50e0a8ce083ca8bc0", func := "loop.example/g00468/laws.FnRoom", spec := "fnRoom", inPlace := ["slices.overlaps[loop.example/g00468/impl.Span]"], unfollowed := true, recurses := true, apart := false, narrowed := true }
def FnRoomUptoSaid : Prop := fnRoomUptoRow.holds Try.pinned (OpenSpec.upto fnRoomSpec)

end Rows
end Go.Proofs.Ytdbhdggbllmkaaa
