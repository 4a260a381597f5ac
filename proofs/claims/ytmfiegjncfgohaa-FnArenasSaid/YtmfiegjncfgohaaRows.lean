/-
  No cell of these rows narrows 'for every input' (looked for: loops, veiled, ifaces, maps, wideKeys, modest, calm, conditions, laid).
  DERIVED. THE GIVEN ROWS OF THIS SEAT. 8 by the template 'for every input the law returns true; each argument reads behind the call as it read before'; 0 by the template 'total and deterministic' (their statements: YtmfiegjncfgohaaTotals.lean).
  GIVEN WITH THE SEED: the statements are not yours to turn. If you find one false, say at which input.
  Laid BY PROGRAM, IN A SANDBOX (cutbox-rows.mjs): the forced cells as the released guide's own fill.sh prints them over the translation 4b125da2b4c28738… (all of the seat's roots in one cut). By AI agents, Wed Nov 11 2026. No macro, syntax, notation, axiom, sorry.
-/
import Derived.Test.YtmfiegjncfgohaaChecked
import GoSem.Claim
import GoSem.ClaimJoined
import GoSem.ClaimMapViews
import Derived.JoinedTies
import Derived.KernelRfl
namespace Go.Proofs.Ytmfiegjncfgohaa
/- THE CELL 'sum', in the pinned program and in every row, IS THE sha256 OF THE DUMP (.gsa) THAT YtmfiegjncfgohaaProg.lean LOADS. Nothing in Lean hashes anything: it is a label: what it is worth is what the hold of that sum in a sandbox is worth. -/
noncomputable def Try.pinned : Pinned := { name := "ytmfiegjncfgohaa", sum := "4b125da2b4c287387997e1baee320be99fccb3deaccd9fc838a8e9cb6fff3191", checked := Try.checked }
namespace Rows
def none {H : Type} : Left H := { results := [], args := [] }

/-- 'laws.FnBothAll': WHATEVER THE INPUT: true; the input reads as it did. -/
def fnBothAllSpec : ChangeSpec := { name := "fnBothAll", fn := fun _ => fun
  | [d] => { results := [.lit (.bool true)], args := [d] }
  | _ => none }
def fnBothAllRow : OpenClaim := { program := "ytmfiegjncfgohaa", sum := "4b125da2b4c287387997e1baee320be99fccb3deaccd9fc838a8e9cb6fff3191", func := "loop.example/g00468/laws.FnBothAll", spec := "fnBothAll", unfollowed := true, recurses := true, apart := false }
def FnBothAllSaid : Prop := fnBothAllRow.holds Try.pinned (OpenSpec.ofChange fnBothAllSpec)

/-- ITS FALSE NEIGHBOUR: 'it returns false'. Refute it at one input. -/
def fnBothAllWrong : ChangeSpec := { name := "fnBothAll", fn := fun _ => fun
  | [d] => { results := [.lit (.bool false)], args := [d] }
  | _ => none }
def FnBothAllWrongFalsely : Prop := fnBothAllRow.holds Try.pinned (OpenSpec.ofChange fnBothAllWrong)

/-- 'laws.FnBothAlone': WHATEVER THE INPUT: true; the input reads as it did. -/
def fnBothAloneSpec : ChangeSpec := { name := "fnBothAlone", fn := fun _ => fun
  | [d] => { results := [.lit (.bool true)], args := [d] }
  | _ => none }
def fnBothAloneRow : OpenClaim := { program := "ytmfiegjncfgohaa", sum := "4b125da2b4c287387997e1baee320be99fccb3deaccd9fc838a8e9cb6fff3191", func := "loop.example/g00468/laws.FnBothAlone", spec := "fnBothAlone", unfollowed := true, recurses := true, apart := false }
def FnBothAloneSaid : Prop := fnBothAloneRow.holds Try.pinned (OpenSpec.ofChange fnBothAloneSpec)

/-- ITS FALSE NEIGHBOUR: 'it returns false'. Refute it at one input. -/
def fnBothAloneWrong : ChangeSpec := { name := "fnBothAlone", fn := fun _ => fun
  | [d] => { results := [.lit (.bool false)], args := [d] }
  | _ => none }
def FnBothAloneWrongFalsely : Prop := fnBothAloneRow.holds Try.pinned (OpenSpec.ofChange fnBothAloneWrong)

/-- 'laws.FnBothOnce': WHATEVER THE INPUT: true; the input reads as it did. -/
def fnBothOnceSpec : ChangeSpec := { name := "fnBothOnce", fn := fun _ => fun
  | [d] => { results := [.lit (.bool true)], args := [d] }
  | _ => none }
def fnBothOnceRow : OpenClaim := { program := "ytmfiegjncfgohaa", sum := "4b125da2b4c287387997e1baee320be99fccb3deaccd9fc838a8e9cb6fff3191", func := "loop.example/g00468/laws.FnBothOnce", spec := "fnBothOnce", unfollowed := true, recurses := true, apart := false }
def FnBothOnceSaid : Prop := fnBothOnceRow.holds Try.pinned (OpenSpec.ofChange fnBothOnceSpec)

/-- ITS FALSE NEIGHBOUR: 'it returns false'. Refute it at one input. -/
def fnBothOnceWrong : ChangeSpec := { name := "fnBothOnce", fn := fun _ => fun
  | [d] => { results := [.lit (.bool false)], args := [d] }
  | _ => none }
def FnBothOnceWrongFalsely : Prop := fnBothOnceRow.holds Try.pinned (OpenSpec.ofChange fnBothOnceWrong)

/-- 'laws.FnBoths': WHATEVER THE INPUT: true; the input reads as it did. -/
def fnBothsSpec : ChangeSpec := { name := "fnBoths", fn := fun _ => fun
  | [d] => { results := [.lit (.bool true)], args := [d] }
  | _ => none }
def fnBothsRow : OpenClaim := { program := "ytmfiegjncfgohaa", sum := "4b125da2b4c287387997e1baee320be99fccb3deaccd9fc838a8e9cb6fff3191", func := "loop.example/g00468/laws.FnBoths", spec := "fnBoths", unfollowed := true, recurses := true, apart := false }
def FnBothsSaid : Prop := fnBothsRow.holds Try.pinned (OpenSpec.ofChange fnBothsSpec)

/-- ITS FALSE NEIGHBOUR: 'it returns false'. Refute it at one input. -/
def fnBothsWrong : ChangeSpec := { name := "fnBoths", fn := fun _ => fun
  | [d] => { results := [.lit (.bool false)], args := [d] }
  | _ => none }
def FnBothsWrongFalsely : Prop := fnBothsRow.holds Try.pinned (OpenSpec.ofChange fnBothsWrong)

/-- 'laws.FnEpochs': WHATEVER THE INPUT: true; the input reads as it did. -/
def fnEpochsSpec : ChangeSpec := { name := "fnEpochs", fn := fun _ => fun
  | [d] => { results := [.lit (.bool true)], args := [d] }
  | _ => none }
def fnEpochsRow : OpenClaim := { program := "ytmfiegjncfgohaa", sum := "4b125da2b4c287387997e1baee320be99fccb3deaccd9fc838a8e9cb6fff3191", func := "loop.example/g00468/laws.FnEpochs", spec := "fnEpochs", unfollowed := true, recurses := true, apart := false }
def FnEpochsSaid : Prop := fnEpochsRow.holds Try.pinned (OpenSpec.ofChange fnEpochsSpec)

/-- ITS FALSE NEIGHBOUR: 'it returns false'. Refute it at one input. -/
def fnEpochsWrong : ChangeSpec := { name := "fnEpochs", fn := fun _ => fun
  | [d] => { results := [.lit (.bool false)], args := [d] }
  | _ => none }
def FnEpochsWrongFalsely : Prop := fnEpochsRow.holds Try.pinned (OpenSpec.ofChange fnEpochsWrong)

/-- 'laws.FnExactAlloc': WHATEVER THE INPUT: true; the input reads as it did. -/
def fnExactAllocSpec : ChangeSpec := { name := "fnExactAlloc", fn := fun _ => fun
  | [d1, d2] => { results := [.lit (.bool true)], args := [d1, d2] }
  | _ => none }
def fnExactAllocRow : OpenClaim := { program := "ytmfiegjncfgohaa", sum := "4b125da2b4c287387997e1baee320be99fccb3deaccd9fc838a8e9cb6fff3191", func := "loop.example/g00468/laws.FnExactAlloc", spec := "fnExactAlloc", inPlace := ["slices.overlaps[loop.example/g00468/impl.Span]"], apart := false }
def FnExactAllocSaid : Prop := fnExactAllocRow.holds Try.pinned (OpenSpec.ofChange fnExactAllocSpec)

/-- ITS FALSE NEIGHBOUR: 'it returns false'. Refute it at one input. -/
def fnExactAllocWrong : ChangeSpec := { name := "fnExactAlloc", fn := fun _ => fun
  | [d1, d2] => { results := [.lit (.bool false)], args := [d1, d2] }
  | _ => none }
def FnExactAllocWrongFalsely : Prop := fnExactAllocRow.holds Try.pinned (OpenSpec.ofChange fnExactAllocWrong)

/-- 'laws.FnArenas': WHATEVER THE INPUT: true; the input reads as it did. -/
def fnArenasSpec : ChangeSpec := { name := "fnArenas", fn := fun _ => fun
  | [d] => { results := [.lit (.bool true)], args := [d] }
  | _ => none }
def fnArenasRow : OpenClaim := { program := "ytmfiegjncfgohaa", sum := "4b125da2b4c287387997e1baee320be99fccb3deaccd9fc838a8e9cb6fff3191", func := "loop.example/g00468/laws.FnArenas", spec := "fnArenas", inPlace := ["slices.overlaps[loop.example/g00468/impl.Span]"], unfollowed := true, recurses := true, apart := false }
def FnArenasSaid : Prop := fnArenasRow.holds Try.pinned (OpenSpec.ofChange fnArenasSpec)

/-- ITS FALSE NEIGHBOUR: 'it returns false'. Refute it at one input. -/
def fnArenasWrong : ChangeSpec := { name := "fnArenas", fn := fun _ => fun
  | [d] => { results := [.lit (.bool false)], args := [d] }
  | _ => none }
def FnArenasWrongFalsely : Prop := fnArenasRow.holds Try.pinned (OpenSpec.ofChange fnArenasWrong)

/-- 'laws.FnRoom': WHATEVER THE INPUT: true; the input reads as it did. -/
def fnRoomSpec : ChangeSpec := { name := "fnRoom", fn := fun _ => fun
  | [d] => { results := [.lit (.bool true)], args := [d] }
  | _ => none }
def fnRoomRow : OpenClaim := { program := "ytmfiegjncfgohaa", sum := "4b125da2b4c287387997e1baee320be99fccb3deaccd9fc838a8e9cb6fff3191", func := "loop.example/g00468/laws.FnRoom", spec := "fnRoom", inPlace := ["slices.overlaps[loop.example/g00468/impl.Span]"], unfollowed := true, recurses := true, apart := false }
def FnRoomSaid : Prop := fnRoomRow.holds Try.pinned (OpenSpec.ofChange fnRoomSpec)

/-- ITS FALSE NEIGHBOUR: 'it returns false'. Refute it at one input. -/
def fnRoomWrong : ChangeSpec := { name := "fnRoom", fn := fun _ => fun
  | [d] => { results := [.lit (.bool false)], args := [d] }
  | _ => none }
def FnRoomWrongFalsely : Prop := fnRoomRow.holds Try.pinned (OpenSpec.ofChange fnRoomWrong)

/- THE SECOND FORM. 'bulk': how many values and letters a reading holds, each counted each time it is reached (what is shared counts as often as it is met; a slice's spare places count too). A statement '..UptoSaid' is the law's where the arguments, and the package variables that the reading takes, are together of bulk at most 1048576: NARROWER than '..Said'. Prove '..Said' where nothing that the law and all that it calls make is longer than what came in: it says more and counts as full. Else prove '..UptoSaid'. A law counts once. -/
mutual
def uptoBulk {H : Type} : DataW H → Nat
  | .lit (.string bytes) => bytes.length + 1
  | .lit _ => 1
  | .nil => 1
  | .ptr d => uptoBulk d + 1
  | .slice elems spare => uptoBulkAll elems + uptoBulkAll spare + 1
  | .agg parts => uptoBulkAll parts + 1
  | .iface _ d => uptoBulk d + 1
  | .map entries => uptoBulkEntries entries + 1
  | .held _ => 1
def uptoBulkAll {H : Type} : List (DataW H) → Nat
  | [] => 0
  | d :: r => uptoBulk d + uptoBulkAll r
def uptoBulkEntries {H : Type} : List (Lit × DataW H) → Nat
  | [] => 0
  | x :: r => uptoBulkEntry x + uptoBulkEntries r
def uptoBulkEntry {H : Type} : Lit × DataW H → Nat
  | (.string bytes, d) => bytes.length + uptoBulk d + 1
  | (_, d) => uptoBulk d + 1
 end
def uptoSmall : (H : Type) → List (DataW H) → Bool := fun _ ds => decide (uptoBulkAll ds ≤ 1048576)
def OpenSpec.upto (s : _root_.Go.ChangeSpec) : _root_.Go.OpenSpec := { _root_.Go.OpenSpec.ofChange s with cond := some uptoSmall }

/-- 'laws.FnBothAll', WHERE WHAT IT READS IS OF BULK AT MOST 1048576: true; the input reads as it did. -/
def fnBothAllUptoRow : OpenClaim := { program := "ytmfiegjncfgohaa", sum := "4b125da2b4c287387997e1baee320be99fccb3deaccd9fc838a8e9cb6fff3191", func := "loop.example/g00468/laws.FnBothAll", spec := "fnBothAll", unfollowed := true, recurses := true, apart := false, narrowed := true }
def FnBothAllUptoSaid : Prop := fnBothAllUptoRow.holds Try.pinned (OpenSpec.upto fnBothAllSpec)

/-- 'laws.FnBothAlone', WHERE WHAT IT READS IS OF BULK AT MOST 1048576: true; the input reads as it did. -/
def fnBothAloneUptoRow : OpenClaim := { program := "ytmfiegjncfgohaa", sum := "4b125da2b4c287387997e1baee320be99fccb3deaccd9fc838a8e9cb6fff3191", func := "loop.example/g00468/laws.FnBothAlone", spec := "fnBothAlone", unfollowed := true, recurses := true, apart := false, narrowed := true }
def FnBothAloneUptoSaid : Prop := fnBothAloneUptoRow.holds Try.pinned (OpenSpec.upto fnBothAloneSpec)

/-- 'laws.FnBothOnce', WHERE WHAT IT READS IS OF BULK AT MOST 1048576: true; the input reads as it did. -/
def fnBothOnceUptoRow : OpenClaim := { program := "ytmfiegjncfgohaa", sum := "4b125da2b4c287387997e1baee320be99fccb3deaccd9fc838a8e9cb6fff3191", func := "loop.example/g00468/laws.FnBothOnce", spec := "fnBothOnce", unfollowed := true, recurses := true, apart := false, narrowed := true }
def FnBothOnceUptoSaid : Prop := fnBothOnceUptoRow.holds Try.pinned (OpenSpec.upto fnBothOnceSpec)

/-- 'laws.FnBoths', WHERE WHAT IT READS IS OF BULK AT MOST 1048576: true; the input reads as it did. -/
def fnBothsUptoRow : OpenClaim := { program := "ytmfiegjncfgohaa", sum := "4b125da2b4c287387997e1baee320be99fccb3deaccd9fc838a8e9cb6fff3191", func := "loop.example/g00468/laws.FnBoths", spec := "fnBoths", unfollowed := true, recurses := true, apart := false, narrowed := true }
def FnBothsUptoSaid : Prop := fnBothsUptoRow.holds Try.pinned (OpenSpec.upto fnBothsSpec)

/-- 'laws.FnEpochs', WHERE WHAT IT READS IS OF BULK AT MOST 1048576: true; the input reads as it did. -/
def fnEpochsUptoRow : OpenClaim := { program := "ytmfiegjncfgohaa", sum := "4b125da2b4c287387997e1baee320be99fccb3deaccd9fc838a8e9cb6fff3191", func := "loop.example/g00468/laws.FnEpochs", spec := "fnEpochs", unfollowed := true, recurses := true, apart := false, narrowed := true }
def FnEpochsUptoSaid : Prop := fnEpochsUptoRow.holds Try.pinned (OpenSpec.upto fnEpochsSpec)

/-- 'laws.FnExactAlloc', WHERE WHAT IT READS IS OF BULK AT MOST 1048576: true; the input reads as it did. -/
def fnExactAllocUptoRow : OpenClaim := { program := "ytmfiegjncfgohaa", sum := "4b125da2b4c287387997e1baee320be99fccb3deaccd9fc838a8e9cb6fff3191", func := "loop.example/g00468/laws.FnExactAlloc", spec := "fnExactAlloc", inPlace := ["slices.overlaps[loop.example/g00468/impl.Span]"], apart := false, narrowed := true }
def FnExactAllocUptoSaid : Prop := fnExactAllocUptoRow.holds Try.pinned (OpenSpec.upto fnExactAllocSpec)

/-- 'laws.FnArenas', WHERE WHAT IT READS IS OF BULK AT MOST 1048576: true; the input reads as it did. -/
def fnArenasUptoRow : OpenClaim := { program := "ytmfiegjncfgohaa", sum := "4b125da2b4c287387997e1baee320be99fccb3deaccd9fc838a8e9cb6fff3191", func := "loop.example/g00468/laws.FnArenas", spec := "fnArenas", inPlace := ["slices.overlaps[loop.example/g00468/impl.Span]"], unfollowed := true, recurses := true, apart := false, narrowed := true }
def FnArenasUptoSaid : Prop := fnArenasUptoRow.holds Try.pinned (OpenSpec.upto fnArenasSpec)

/-- 'laws.FnRoom', WHERE WHAT IT READS IS OF BULK AT MOST 1048576: true; the input reads as it did. -/
def fnRoomUptoRow : OpenClaim := { program := "ytmfiegjncfgohaa", sum := "4b125da2b4c287387997e1baee320be99fccb3deaccd9fc838a8e9cb6fff3191", func := "loop.example/g00468/laws.FnRoom", spec := "fnRoom", inPlace := ["slices.overlaps[loop.example/g00468/impl.Span]"], unfollowed := true, recurses := true, apart := false, narrowed := true }
def FnRoomUptoSaid : Prop := fnRoomUptoRow.holds Try.pinned (OpenSpec.upto fnRoomSpec)

end Rows
end Go.Proofs.Ytmfiegjncfgohaa
