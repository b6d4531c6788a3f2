/-
  No cell of these rows narrows 'for every input' (looked for: loops, veiled, ifaces, maps, wideKeys, modest, calm, conditions, laid).
  DERIVED. THE GIVEN ROWS OF THIS SEAT. 2 by the template 'for every input the law returns true; each argument reads behind the call as it read before'; 0 by the template 'total and deterministic' (their statements: YtohmkffoojdahaaGreatTotals.lean).
  GIVEN WITH THE SEED: the statements are not yours to turn. If you find one false, say at which input.
  Laid BY PROGRAM, IN A SANDBOX (cutbox-rows.mjs): the forced cells as the released guide's own fill.sh prints them over the translation 5921137b3eb1c43c… (all of the seat's roots in one cut). By AI agents, Wed Nov 11 2026. No macro, syntax, notation, axiom, sorry.
-/
import Derived.Test.YtohmkffoojdahaaGreatChecked
import GoSem.Claim
import GoSem.ClaimJoined
import GoSem.ClaimMapViews
import Derived.JoinedTies
import Derived.KernelRfl
namespace Go.Proofs.YtohmkffoojdahaaGreat
/- THE CELL 'sum', in the pinned program and in every row, IS THE sha256 OF THE DUMP (.gsa) THAT YtohmkffoojdahaaGreatProg.lean LOADS. Nothing in Lean hashes anything: it is a label: what it is worth is what the hold of that sum in a sandbox is worth. -/
noncomputable def Tryz.pinned : Pinned := { name := "ytohmkffoojdahaagreat", sum := "5921137b3eb1c43cb57e3ccbf1ea01c45236a5397debece5e4acab93c3eb1b30", checked := Tryz.checked }
namespace Rows
def none {H : Type} : Left H := { results := [], args := [] }

/-- 'loupelaw14.WalkHolds': WHATEVER THE INPUT: true; the input reads as it did. -/
def walkHoldsSpec : ChangeSpec := { name := "walkHolds", fn := fun _ => fun
  | [d] => { results := [.lit (.bool true)], args := [d] }
  | _ => none }
def walkHoldsRow : OpenClaim := { program := "ytohmkffoojdahaagreat", sum := "5921137b3eb1c43cb57e3ccbf1ea01c45236a5397debece5e4acab93c3eb1b30", func := "loupe/loupelaw14.WalkHolds", spec := "walkHolds", inPlace := ["sync/atomic.AddInt64", "sync/atomic.LoadUint32", "(*internal/sync.Mutex).Lock", "internal/race.Disable", "sync/atomic.CompareAndSwapInt32", "internal/race.Enable", "internal/race.Acquire", "(*internal/sync.Mutex).lockSlow", "internal/sync.runtime_canSpin", "internal/sync.runtime_doSpin", "internal/sync.throw", "internal/sync.runtime_nanotime", "internal/sync.runtime_SemacquireMutex", "sync/atomic.AddInt32", "(*internal/sync.Mutex).Unlock", "internal/race.ReleaseMerge", "(*internal/sync.Mutex).unlockSlow", "internal/sync.fatal", "internal/sync.runtime_Semrelease", "sync/atomic.StoreUint32", "maps.clone", "slices.overlaps[string]", "slices.overlaps[int]", "slices.overlaps[loupe/api.Cell]"], unfollowed := true, recurses := true, apart := false }
def WalkHoldsSaid : Prop := walkHoldsRow.holds Tryz.pinned (OpenSpec.ofChange walkHoldsSpec)

/-- ITS FALSE NEIGHBOUR: 'it returns false'. Refute it at one input. -/
def walkHoldsWrong : ChangeSpec := { name := "walkHolds", fn := fun _ => fun
  | [d] => { results := [.lit (.bool false)], args := [d] }
  | _ => none }
def WalkHoldsWrongFalsely : Prop := walkHoldsRow.holds Tryz.pinned (OpenSpec.ofChange walkHoldsWrong)

/-- 'loupelaw14.WalkRanges': WHATEVER THE INPUT: true; the input reads as it did. -/
def walkRangesSpec : ChangeSpec := { name := "walkRanges", fn := fun _ => fun
  | [d1, d2, d3] => { results := [.lit (.bool true)], args := [d1, d2, d3] }
  | _ => none }
def walkRangesRow : OpenClaim := { program := "ytohmkffoojdahaagreat", sum := "5921137b3eb1c43cb57e3ccbf1ea01c45236a5397debece5e4acab93c3eb1b30", func := "loupe/loupelaw14.WalkRanges", spec := "walkRanges", inPlace := ["sync/atomic.AddInt64", "sync/atomic.LoadUint32", "(*internal/sync.Mutex).Lock", "internal/race.Disable", "sync/atomic.CompareAndSwapInt32", "internal/race.Enable", "internal/race.Acquire", "(*internal/sync.Mutex).lockSlow", "internal/sync.runtime_canSpin", "internal/sync.runtime_doSpin", "internal/sync.throw", "internal/sync.runtime_nanotime", "internal/sync.runtime_SemacquireMutex", "sync/atomic.AddInt32", "(*internal/sync.Mutex).Unlock", "internal/race.ReleaseMerge", "(*internal/sync.Mutex).unlockSlow", "internal/sync.fatal", "internal/sync.runtime_Semrelease", "sync/atomic.StoreUint32", "maps.clone", "slices.overlaps[string]", "slices.overlaps[int]", "slices.overlaps[loupe/api.Cell]", "internal/abi.NoEscape"], unfollowed := true, recurses := true, apart := false }
def WalkRangesSaid : Prop := walkRangesRow.holds Tryz.pinned (OpenSpec.ofChange walkRangesSpec)

/-- ITS FALSE NEIGHBOUR: 'it returns false'. Refute it at one input. -/
def walkRangesWrong : ChangeSpec := { name := "walkRanges", fn := fun _ => fun
  | [d1, d2, d3] => { results := [.lit (.bool false)], args := [d1, d2, d3] }
  | _ => none }
def WalkRangesWrongFalsely : Prop := walkRangesRow.holds Tryz.pinned (OpenSpec.ofChange walkRangesWrong)

/- THE SECOND FORM. 'bulk': how many values and letters a reading holds, each counted each time it is reached (what is shared counts as often as it is met; a slice's spare places count too). A statement '..UptoSaid' is the law's where the arguments, and the package variables that the reading takes, are together of bulk at most 1048576: NARROWER than '..Said'. Prove '..Said' where nothing that the law and all that it calls make is longer than what came in: it says more and counts as full. Else prove '..UptoSaid'. A law counts once. -/
mutual
def uptoBulk {H : Type} : DataW H → Nat
  | .lit (.string bytes) => bytes.length + 1
  | .lit _ => 1
  | .nil => 1
  | .ptr d => uptoBulk d + 1
  | .slice elems spare => uptoBulkAll elems + uptoBulkAll spare + 1
  | .agg parts => uptoBulkAll parts + 1
  | .iface _ d => uptoBulk d + 1
  | .map entries => uptoBulkEntries entries + 1
  | .held _ => 1
def uptoBulkAll {H : Type} : List (DataW H) → Nat
  | [] => 0
  | d :: r => uptoBulk d + uptoBulkAll r
def uptoBulkEntries {H : Type} : List (Lit × DataW H) → Nat
  | [] => 0
  | x :: r => uptoBulkEntry x + uptoBulkEntries r
def uptoBulkEntry {H : Type} : Lit × DataW H → Nat
  | (.string bytes, d) => bytes.length + uptoBulk d + 1
  | (_, d) => uptoBulk d + 1
 end
def uptoSmall : (H : Type) → List (DataW H) → Bool := fun _ ds => decide (uptoBulkAll ds ≤ 1048576)
def OpenSpec.upto (s : _root_.Go.ChangeSpec) : _root_.Go.OpenSpec := { _root_.Go.OpenSpec.ofChange s with cond := some uptoSmall }

/-- 'loupelaw14.WalkHolds', WHERE WHAT IT READS IS OF BULK AT MOST 1048576: true; the input reads as it did. -/
def walkHoldsUptoRow : OpenClaim := { program := "ytohmkffoojdahaagreat", sum := "5921137b3eb1c43cb57e3ccbf1ea01c45236a5397debece5e4acab93c3eb1b30", func := "loupe/loupelaw14.WalkHolds", spec := "walkHolds", inPlace := ["sync/atomic.AddInt64", "sync/atomic.LoadUint32", "(*internal/sync.Mutex).Lock", "internal/race.Disable", "sync/atomic.CompareAndSwapInt32", "internal/race.Enable", "internal/race.Acquire", "(*internal/sync.Mutex).lockSlow", "internal/sync.runtime_canSpin", "internal/sync.runtime_doSpin", "internal/sync.throw", "internal/sync.runtime_nanotime", "internal/sync.runtime_SemacquireMutex", "sync/atomic.AddInt32", "(*internal/sync.Mutex).Unlock", "internal/race.ReleaseMerge", "(*internal/sync.Mutex).unlockSlow", "internal/sync.fatal", "internal/sync.runtime_Semrelease", "sync/atomic.StoreUint32", "maps.clone", "slices.overlaps[string]", "slices.overlaps[int]", "slices.overlaps[loupe/api.Cell]"], unfollowed := true, recurses := true, apart := false, narrowed := true }
def WalkHoldsUptoSaid : Prop := walkHoldsUptoRow.holds Tryz.pinned (OpenSpec.upto walkHoldsSpec)

/-- 'loupelaw14.WalkRanges', WHERE WHAT IT READS IS OF BULK AT MOST 1048576: true; the input reads as it did. -/
def walkRangesUptoRow : OpenClaim := { program := "ytohmkffoojdahaagreat", sum := "5921137b3eb1c43cb57e3ccbf1ea01c45236a5397debece5e4acab93c3eb1b30", func := "loupe/loupelaw14.WalkRanges", spec := "walkRanges", inPlace := ["sync/atomic.AddInt64", "sync/atomic.LoadUint32", "(*internal/sync.Mutex).Lock", "internal/race.Disable", "sync/atomic.CompareAndSwapInt32", "internal/race.Enable", "internal/race.Acquire", "(*internal/sync.Mutex).lockSlow", "internal/sync.runtime_canSpin", "internal/sync.runtime_doSpin", "internal/sync.throw", "internal/sync.runtime_nanotime", "internal/sync.runtime_SemacquireMutex", "sync/atomic.AddInt32", "(*internal/sync.Mutex).Unlock", "internal/race.ReleaseMerge", "(*internal/sync.Mutex).unlockSlow", "internal/sync.fatal", "internal/sync.runtime_Semrelease", "sync/atomic.StoreUint32", "maps.clone", "slices.overlaps[string]", "slices.overlaps[int]", "slices.overlaps[loupe/api.Cell]", "internal/abi.NoEscape"], unfollowed := true, recurses := true, apart := false, narrowed := true }
def WalkRangesUptoSaid : Prop := walkRangesUptoRow.holds Tryz.pinned (OpenSpec.upto walkRangesSpec)

end Rows
end Go.Proofs.YtohmkffoojdahaaGreat
