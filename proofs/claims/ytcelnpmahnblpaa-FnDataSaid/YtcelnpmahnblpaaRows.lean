/-
  No cell of these rows narrows 'for every input' (looked for: loops, veiled, ifaces, maps, wideKeys, modest, calm, conditions, laid).
  DERIVED. THE GIVEN ROWS OF THIS SEAT. 11 by the template 'for every input the law returns true; each argument reads behind the call as it read before'; 0 by the template 'total and deterministic' (their statements: YtcelnpmahnblpaaTotals.lean).
  GIVEN WITH THE SEED: the statements are not yours to turn. If you find one false, say at which input.
  Laid BY PROGRAM, IN A SANDBOX (cutbox-rows.mjs): the forced cells as the released guide's own fill.sh prints them over the translation 38cc43d1f39c210a… (all of the seat's roots in one cut). By AI agents, Wed Nov 11 2026. No macro, syntax, notation, axiom, sorry.
-/
import Derived.Test.YtcelnpmahnblpaaChecked
import GoSem.Claim
import GoSem.ClaimJoined
import GoSem.ClaimMapViews
import Derived.JoinedTies
import Derived.KernelRfl
namespace Go.Proofs.Ytcelnpmahnblpaa
/- THE CELL 'sum', in the pinned program and in every row, IS THE sha256 OF THE DUMP (.gsa) THAT YtcelnpmahnblpaaProg.lean LOADS. Nothing in Lean hashes anything: it is a label: what it is worth is what the hold of that sum in a sandbox is worth. -/
noncomputable def Try.pinned : Pinned := { name := "ytcelnpmahnblpaa", sum := "38cc43d1f39c210a5e6a8094b05f94a8f3d6b0d4ab8a05dafc106918fa3e7c19", checked := Try.checked }
namespace Rows
def none {H : Type} : Left H := { results := [], args := [] }

/-- 'laws.FnExactNewData': WHATEVER THE INPUT: true; the input reads as it did. -/
def fnExactNewDataSpec : ChangeSpec := { name := "fnExactNewData", fn := fun _ => fun
  | [] => { results := [.lit (.bool true)], args := [] }
  | _ => none }
def fnExactNewDataRow : OpenClaim := { program := "ytcelnpmahnblpaa", sum := "38cc43d1f39c210a5e6a8094b05f94a8f3d6b0d4ab8a05dafc106918fa3e7c19", func := "loop.example/g00787/laws.FnExactNewData", spec := "fnExactNewData", apart := false }
def FnExactNewDataSaid : Prop := fnExactNewDataRow.holds Try.pinned (OpenSpec.ofChange fnExactNewDataSpec)

/-- ITS FALSE NEIGHBOUR: 'it returns false'. Refute it at one input. -/
def fnExactNewDataWrong : ChangeSpec := { name := "fnExactNewData", fn := fun _ => fun
  | [] => { results := [.lit (.bool false)], args := [] }
  | _ => none }
def FnExactNewDataWrongFalsely : Prop := fnExactNewDataRow.holds Try.pinned (OpenSpec.ofChange fnExactNewDataWrong)

/-- 'laws.FnExactDataOK': WHATEVER THE INPUT: true; the input reads as it did. -/
def fnExactDataOKSpec : ChangeSpec := { name := "fnExactDataOK", fn := fun _ => fun
  | [d] => { results := [.lit (.bool true)], args := [d] }
  | _ => none }
def fnExactDataOKRow : OpenClaim := { program := "ytcelnpmahnblpaa", sum := "38cc43d1f39c210a5e6a8094b05f94a8f3d6b0d4ab8a05dafc106918fa3e7c19", func := "loop.example/g00787/laws.FnExactDataOK", spec := "fnExactDataOK", unfollowed := true, recurses := true, apart := false }
def FnExactDataOKSaid : Prop := fnExactDataOKRow.holds Try.pinned (OpenSpec.ofChange fnExactDataOKSpec)

/-- ITS FALSE NEIGHBOUR: 'it returns false'. Refute it at one input. -/
def fnExactDataOKWrong : ChangeSpec := { name := "fnExactDataOK", fn := fun _ => fun
  | [d] => { results := [.lit (.bool false)], args := [d] }
  | _ => none }
def FnExactDataOKWrongFalsely : Prop := fnExactDataOKRow.holds Try.pinned (OpenSpec.ofChange fnExactDataOKWrong)

/-- 'laws.FnExactSameData': WHATEVER THE INPUT: true; the input reads as it did. -/
def fnExactSameDataSpec : ChangeSpec := { name := "fnExactSameData", fn := fun _ => fun
  | [d1, d2] => { results := [.lit (.bool true)], args := [d1, d2] }
  | _ => none }
def fnExactSameDataRow : OpenClaim := { program := "ytcelnpmahnblpaa", sum := "38cc43d1f39c210a5e6a8094b05f94a8f3d6b0d4ab8a05dafc106918fa3e7c19", func := "loop.example/g00787/laws.FnExactSameData", spec := "fnExactSameData", unfollowed := true, recurses := true, apart := false }
def FnExactSameDataSaid : Prop := fnExactSameDataRow.holds Try.pinned (OpenSpec.ofChange fnExactSameDataSpec)

/-- ITS FALSE NEIGHBOUR: 'it returns false'. Refute it at one input. -/
def fnExactSameDataWrong : ChangeSpec := { name := "fnExactSameData", fn := fun _ => fun
  | [d1, d2] => { results := [.lit (.bool false)], args := [d1, d2] }
  | _ => none }
def FnExactSameDataWrongFalsely : Prop := fnExactSameDataRow.holds Try.pinned (OpenSpec.ofChange fnExactSameDataWrong)

/-- 'laws.FnExactFetch': WHATEVER THE INPUT: true; the input reads as it did. -/
def fnExactFetchSpec : ChangeSpec := { name := "fnExactFetch", fn := fun _ => fun
  | [d1, d2] => { results := [.lit (.bool true)], args := [d1, d2] }
  | _ => none }
def fnExactFetchRow : OpenClaim := { program := "ytcelnpmahnblpaa", sum := "38cc43d1f39c210a5e6a8094b05f94a8f3d6b0d4ab8a05dafc106918fa3e7c19", func := "loop.example/g00787/laws.FnExactFetch", spec := "fnExactFetch", unfollowed := true, recurses := true, apart := false }
def FnExactFetchSaid : Prop := fnExactFetchRow.holds Try.pinned (OpenSpec.ofChange fnExactFetchSpec)

/-- ITS FALSE NEIGHBOUR: 'it returns false'. Refute it at one input. -/
def fnExactFetchWrong : ChangeSpec := { name := "fnExactFetch", fn := fun _ => fun
  | [d1, d2] => { results := [.lit (.bool false)], args := [d1, d2] }
  | _ => none }
def FnExactFetchWrongFalsely : Prop := fnExactFetchRow.holds Try.pinned (OpenSpec.ofChange fnExactFetchWrong)

/-- 'laws.FnExactSay': WHATEVER THE INPUT: true; the input reads as it did. -/
def fnExactSaySpec : ChangeSpec := { name := "fnExactSay", fn := fun _ => fun
  | [d1, d2] => { results := [.lit (.bool true)], args := [d1, d2] }
  | _ => none }
def fnExactSayRow : OpenClaim := { program := "ytcelnpmahnblpaa", sum := "38cc43d1f39c210a5e6a8094b05f94a8f3d6b0d4ab8a05dafc106918fa3e7c19", func := "loop.example/g00787/laws.FnExactSay", spec := "fnExactSay", unfollowed := true, recurses := true, apart := false }
def FnExactSaySaid : Prop := fnExactSayRow.holds Try.pinned (OpenSpec.ofChange fnExactSaySpec)

/-- ITS FALSE NEIGHBOUR: 'it returns false'. Refute it at one input. -/
def fnExactSayWrong : ChangeSpec := { name := "fnExactSay", fn := fun _ => fun
  | [d1, d2] => { results := [.lit (.bool false)], args := [d1, d2] }
  | _ => none }
def FnExactSayWrongFalsely : Prop := fnExactSayRow.holds Try.pinned (OpenSpec.ofChange fnExactSayWrong)

/-- 'laws.FnExactPop': WHATEVER THE INPUT: true; the input reads as it did. -/
def fnExactPopSpec : ChangeSpec := { name := "fnExactPop", fn := fun _ => fun
  | [d] => { results := [.lit (.bool true)], args := [d] }
  | _ => none }
def fnExactPopRow : OpenClaim := { program := "ytcelnpmahnblpaa", sum := "38cc43d1f39c210a5e6a8094b05f94a8f3d6b0d4ab8a05dafc106918fa3e7c19", func := "loop.example/g00787/laws.FnExactPop", spec := "fnExactPop", unfollowed := true, recurses := true, apart := false }
def FnExactPopSaid : Prop := fnExactPopRow.holds Try.pinned (OpenSpec.ofChange fnExactPopSpec)

/-- ITS FALSE NEIGHBOUR: 'it returns false'. Refute it at one input. -/
def fnExactPopWrong : ChangeSpec := { name := "fnExactPop", fn := fun _ => fun
  | [d] => { results := [.lit (.bool false)], args := [d] }
  | _ => none }
def FnExactPopWrongFalsely : Prop := fnExactPopRow.holds Try.pinned (OpenSpec.ofChange fnExactPopWrong)

/-- 'laws.FnExactPush': WHATEVER THE INPUT: true; the input reads as it did. -/
def fnExactPushSpec : ChangeSpec := { name := "fnExactPush", fn := fun _ => fun
  | [d1, d2] => { results := [.lit (.bool true)], args := [d1, d2] }
  | _ => none }
def fnExactPushRow : OpenClaim := { program := "ytcelnpmahnblpaa", sum := "38cc43d1f39c210a5e6a8094b05f94a8f3d6b0d4ab8a05dafc106918fa3e7c19", func := "loop.example/g00787/laws.FnExactPush", spec := "fnExactPush", unfollowed := true, recurses := true, apart := false }
def FnExactPushSaid : Prop := fnExactPushRow.holds Try.pinned (OpenSpec.ofChange fnExactPushSpec)

/-- ITS FALSE NEIGHBOUR: 'it returns false'. Refute it at one input. -/
def fnExactPushWrong : ChangeSpec := { name := "fnExactPush", fn := fun _ => fun
  | [d1, d2] => { results := [.lit (.bool false)], args := [d1, d2] }
  | _ => none }
def FnExactPushWrongFalsely : Prop := fnExactPushRow.holds Try.pinned (OpenSpec.ofChange fnExactPushWrong)

/-- 'laws.FnExactAllotCells': WHATEVER THE INPUT: true; the input reads as it did. -/
def fnExactAllotCellsSpec : ChangeSpec := { name := "fnExactAllotCells", fn := fun _ => fun
  | [d1, d2] => { results := [.lit (.bool true)], args := [d1, d2] }
  | _ => none }
def fnExactAllotCellsRow : OpenClaim := { program := "ytcelnpmahnblpaa", sum := "38cc43d1f39c210a5e6a8094b05f94a8f3d6b0d4ab8a05dafc106918fa3e7c19", func := "loop.example/g00787/laws.FnExactAllotCells", spec := "fnExactAllotCells", unfollowed := true, recurses := true, apart := false }
def FnExactAllotCellsSaid : Prop := fnExactAllotCellsRow.holds Try.pinned (OpenSpec.ofChange fnExactAllotCellsSpec)

/-- ITS FALSE NEIGHBOUR: 'it returns false'. Refute it at one input. -/
def fnExactAllotCellsWrong : ChangeSpec := { name := "fnExactAllotCells", fn := fun _ => fun
  | [d1, d2] => { results := [.lit (.bool false)], args := [d1, d2] }
  | _ => none }
def FnExactAllotCellsWrongFalsely : Prop := fnExactAllotCellsRow.holds Try.pinned (OpenSpec.ofChange fnExactAllotCellsWrong)

/-- 'laws.FnExactStore': WHATEVER THE INPUT: true; the input reads as it did. -/
def fnExactStoreSpec : ChangeSpec := { name := "fnExactStore", fn := fun _ => fun
  | [d1, d2, d3] => { results := [.lit (.bool true)], args := [d1, d2, d3] }
  | _ => none }
def fnExactStoreRow : OpenClaim := { program := "ytcelnpmahnblpaa", sum := "38cc43d1f39c210a5e6a8094b05f94a8f3d6b0d4ab8a05dafc106918fa3e7c19", func := "loop.example/g00787/laws.FnExactStore", spec := "fnExactStore", unfollowed := true, recurses := true, apart := false }
def FnExactStoreSaid : Prop := fnExactStoreRow.holds Try.pinned (OpenSpec.ofChange fnExactStoreSpec)

/-- ITS FALSE NEIGHBOUR: 'it returns false'. Refute it at one input. -/
def fnExactStoreWrong : ChangeSpec := { name := "fnExactStore", fn := fun _ => fun
  | [d1, d2, d3] => { results := [.lit (.bool false)], args := [d1, d2, d3] }
  | _ => none }
def FnExactStoreWrongFalsely : Prop := fnExactStoreRow.holds Try.pinned (OpenSpec.ofChange fnExactStoreWrong)

/-- 'laws.FnAllot': WHATEVER THE INPUT: true; the input reads as it did. -/
def fnAllotSpec : ChangeSpec := { name := "fnAllot", fn := fun _ => fun
  | [d1, d2] => { results := [.lit (.bool true)], args := [d1, d2] }
  | _ => none }
def fnAllotRow : OpenClaim := { program := "ytcelnpmahnblpaa", sum := "38cc43d1f39c210a5e6a8094b05f94a8f3d6b0d4ab8a05dafc106918fa3e7c19", func := "loop.example/g00787/laws.FnAllot", spec := "fnAllot", unfollowed := true, recurses := true, apart := false }
def FnAllotSaid : Prop := fnAllotRow.holds Try.pinned (OpenSpec.ofChange fnAllotSpec)

/-- ITS FALSE NEIGHBOUR: 'it returns false'. Refute it at one input. -/
def fnAllotWrong : ChangeSpec := { name := "fnAllot", fn := fun _ => fun
  | [d1, d2] => { results := [.lit (.bool false)], args := [d1, d2] }
  | _ => none }
def FnAllotWrongFalsely : Prop := fnAllotRow.holds Try.pinned (OpenSpec.ofChange fnAllotWrong)

/-- 'laws.FnData': WHATEVER THE INPUT: true; the input reads as it did. -/
def fnDataSpec : ChangeSpec := { name := "fnData", fn := fun _ => fun
  | [d1, d2] => { results := [.lit (.bool true)], args := [d1, d2] }
  | _ => none }
def fnDataRow : OpenClaim := { program := "ytcelnpmahnblpaa", sum := "38cc43d1f39c210a5e6a8094b05f94a8f3d6b0d4ab8a05dafc106918fa3e7c19", func := "loop.example/g00787/laws.FnData", spec := "fnData", unfollowed := true, recurses := true, apart := false }
def FnDataSaid : Prop := fnDataRow.holds Try.pinned (OpenSpec.ofChange fnDataSpec)

/-- ITS FALSE NEIGHBOUR: 'it returns false'. Refute it at one input. -/
def fnDataWrong : ChangeSpec := { name := "fnData", fn := fun _ => fun
  | [d1, d2] => { results := [.lit (.bool false)], args := [d1, d2] }
  | _ => none }
def FnDataWrongFalsely : Prop := fnDataRow.holds Try.pinned (OpenSpec.ofChange fnDataWrong)

/- THE SECOND FORM. 'bulk': how many values and letters a reading holds, each counted each time it is reached (what is shared counts as often as it is met; a slice's spare places count too). A statement '..UptoSaid' is the law's where the arguments, and the package variables that the reading takes, are together of bulk at most 1048576: NARROWER than '..Said'. Prove '..Said' where nothing that the law and all that it calls make is longer than what came in: it says more and counts as full. Else prove '..UptoSaid'. A law counts once. -/
mutual
def uptoBulk {H : Type} : DataW H → Nat
  | .lit (.string bytes) => bytes.length + 1
  | .lit _ => 1
  | .nil => 1
  | .ptr d => uptoBulk d + 1
  | .slice elems spare => uptoBulkAll elems + uptoBulkAll spare + 1
  | .agg parts => uptoBulkAll parts + 1
  | .iface _ d => uptoBulk d + 1
  | .map entries => uptoBulkEntries entries + 1
  | .held _ => 1
def uptoBulkAll {H : Type} : List (DataW H) → Nat
  | [] => 0
  | d :: r => uptoBulk d + uptoBulkAll r
def uptoBulkEntries {H : Type} : List (Lit × DataW H) → Nat
  | [] => 0
  | x :: r => uptoBulkEntry x + uptoBulkEntries r
def uptoBulkEntry {H : Type} : Lit × DataW H → Nat
  | (.string bytes, d) => bytes.length + uptoBulk d + 1
  | (_, d) => uptoBulk d + 1
 end
def uptoSmall : (H : Type) → List (DataW H) → Bool := fun _ ds => decide (uptoBulkAll ds ≤ 1048576)
def OpenSpec.upto (s : _root_.Go.ChangeSpec) : _root_.Go.OpenSpec := { _root_.Go.OpenSpec.ofChange s with cond := some uptoSmall }

/-- 'laws.FnExactNewData', WHERE WHAT IT READS IS OF BULK AT MOST 1048576: true; the input reads as it did. -/
def fnExactNewDataUptoRow : OpenClaim := { program := "ytcelnpmahnblpaa", sum := "38cc43d1f39c210a5e6a8094b05f94a8f3d6b0d4ab8a05dafc106918fa3e7c19", func := "loop.example/g00787/laws.FnExactNewData", spec := "fnExactNewData", apart := false, narrowed := true }
def FnExactNewDataUptoSaid : Prop := fnExactNewDataUptoRow.holds Try.pinned (OpenSpec.upto fnExactNewDataSpec)

/-- 'laws.FnExactDataOK', WHERE WHAT IT READS IS OF BULK AT MOST 1048576: true; the input reads as it did. -/
def fnExactDataOKUptoRow : OpenClaim := { program := "ytcelnpmahnblpaa", sum := "38cc43d1f39c210a5e6a8094b05f94a8f3d6b0d4ab8a05dafc106918fa3e7c19", func := "loop.example/g00787/laws.FnExactDataOK", spec := "fnExactDataOK", unfollowed := true, recurses := true, apart := false, narrowed := true }
def FnExactDataOKUptoSaid : Prop := fnExactDataOKUptoRow.holds Try.pinned (OpenSpec.upto fnExactDataOKSpec)

/-- 'laws.FnExactSameData', WHERE WHAT IT READS IS OF BULK AT MOST 1048576: true; the input reads as it did. -/
def fnExactSameDataUptoRow : OpenClaim := { program := "ytcelnpmahnblpaa", sum := "38cc43d1f39c210a5e6a8094b05f94a8f3d6b0d4ab8a05dafc106918fa3e7c19", func := "loop.example/g00787/laws.FnExactSameData", spec := "fnExactSameData", unfollowed := true, recurses := true, apart := false, narrowed := true }
def FnExactSameDataUptoSaid : Prop := fnExactSameDataUptoRow.holds Try.pinned (OpenSpec.upto fnExactSameDataSpec)

/-- 'laws.FnExactFetch', WHERE WHAT IT READS IS OF BULK AT MOST 1048576: true; the input reads as it did. -/
def fnExactFetchUptoRow : OpenClaim := { program := "ytcelnpmahnblpaa", sum := "38cc43d1f39c210a5e6a8094b05f94a8f3d6b0d4ab8a05dafc106918fa3e7c19", func := "loop.example/g00787/laws.FnExactFetch", spec := "fnExactFetch", unfollowed := true, recurses := true, apart := false, narrowed := true }
def FnExactFetchUptoSaid : Prop := fnExactFetchUptoRow.holds Try.pinned (OpenSpec.upto fnExactFetchSpec)

/-- 'laws.FnExactSay', WHERE WHAT IT READS IS OF BULK AT MOST 1048576: true; the input reads as it did. -/
def fnExactSayUptoRow : OpenClaim := { program := "ytcelnpmahnblpaa", sum := "38cc43d1f39c210a5e6a8094b05f94a8f3d6b0d4ab8a05dafc106918fa3e7c19", func := "loop.example/g00787/laws.FnExactSay", spec := "fnExactSay", unfollowed := true, recurses := true, apart := false, narrowed := true }
def FnExactSayUptoSaid : Prop := fnExactSayUptoRow.holds Try.pinned (OpenSpec.upto fnExactSaySpec)

/-- 'laws.FnExactPop', WHERE WHAT IT READS IS OF BULK AT MOST 1048576: true; the input reads as it did. -/
def fnExactPopUptoRow : OpenClaim := { program := "ytcelnpmahnblpaa", sum := "38cc43d1f39c210a5e6a8094b05f94a8f3d6b0d4ab8a05dafc106918fa3e7c19", func := "loop.example/g00787/laws.FnExactPop", spec := "fnExactPop", unfollowed := true, recurses := true, apart := false, narrowed := true }
def FnExactPopUptoSaid : Prop := fnExactPopUptoRow.holds Try.pinned (OpenSpec.upto fnExactPopSpec)

/-- 'laws.FnExactPush', WHERE WHAT IT READS IS OF BULK AT MOST 1048576: true; the input reads as it did. -/
def fnExactPushUptoRow : OpenClaim := { program := "ytcelnpmahnblpaa", sum := "38cc43d1f39c210a5e6a8094b05f94a8f3d6b0d4ab8a05dafc106918fa3e7c19", func := "loop.example/g00787/laws.FnExactPush", spec := "fnExactPush", unfollowed := true, recurses := true, apart := false, narrowed := true }
def FnExactPushUptoSaid : Prop := fnExactPushUptoRow.holds Try.pinned (OpenSpec.upto fnExactPushSpec)

/-- 'laws.FnExactAllotCells', WHERE WHAT IT READS IS OF BULK AT MOST 1048576: true; the input reads as it did. -/
def fnExactAllotCellsUptoRow : OpenClaim := { program := "ytcelnpmahnblpaa", sum := "38cc43d1f39c210a5e6a8094b05f94a8f3d6b0d4ab8a05dafc106918fa3e7c19", func := "loop.example/g00787/laws.FnExactAllotCells", spec := "fnExactAllotCells", unfollowed := true, recurses := true, apart := false, narrowed := true }
def FnExactAllotCellsUptoSaid : Prop := fnExactAllotCellsUptoRow.holds Try.pinned (OpenSpec.upto fnExactAllotCellsSpec)

/-- 'laws.FnExactStore', WHERE WHAT IT READS IS OF BULK AT MOST 1048576: true; the input reads as it did. -/
def fnExactStoreUptoRow : OpenClaim := { program := "ytcelnpmahnblpaa", sum := "38cc43d1f39c210a5e6a8094b05f94a8f3d6b0d4ab8a05dafc106918fa3e7c19", func := "loop.example/g00787/laws.FnExactStore", spec := "fnExactStore", unfollowed := true, recurses := true, apart := false, narrowed := true }
def FnExactStoreUptoSaid : Prop := fnExactStoreUptoRow.holds Try.pinned (OpenSpec.upto fnExactStoreSpec)

/-- 'laws.FnAllot', WHERE WHAT IT READS IS OF BULK AT MOST 1048576: true; the input reads as it did. -/
def fnAllotUptoRow : OpenClaim := { program := "ytcelnpmahnblpaa", sum := "38cc43d1f39c210a5e6a8094b05f94a8f3d6b0d4ab8a05dafc106918fa3e7c19", func := "loop.example/g00787/laws.FnAllot", spec := "fnAllot", unfollowed := true, recurses := true, apart := false, narrowed := true }
def FnAllotUptoSaid : Prop := fnAllotUptoRow.holds Try.pinned (OpenSpec.upto fnAllotSpec)

/-- 'laws.FnData', WHERE WHAT IT READS IS OF BULK AT MOST 1048576: true; the input reads as it did. -/
def fnDataUptoRow : OpenClaim := { program := "ytcelnpmahnblpaa", sum := "38cc43d1f39c210a5e6a8094b05f94a8f3d6b0d4ab8a05dafc106918fa3e7c19", func := "loop.example/g00787/laws.FnData", spec := "fnData", unfollowed := true, recurses := true, apart := false, narrowed := true }
def FnDataUptoSaid : Prop := fnDataUptoRow.holds Try.pinned (OpenSpec.upto fnDataSpec)

end Rows
end Go.Proofs.Ytcelnpmahnblpaa
