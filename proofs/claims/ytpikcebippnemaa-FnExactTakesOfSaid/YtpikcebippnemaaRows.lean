/-
  No cell of these rows narrows 'for every input' (looked for: loops, veiled, ifaces, maps, wideKeys, modest, calm, conditions, laid).
  DERIVED. THE GIVEN ROWS OF THIS SEAT. 6 by the template 'for every input the law returns true; each argument reads behind the call as it read before'; 0 by the template 'total and deterministic' (their statements: YtpikcebippnemaaTotals.lean).
  GIVEN WITH THE SEED: the statements are not yours to turn. If you find one false, say at which input.
  Laid BY PROGRAM, IN A SANDBOX (cutbox-rows.mjs): the forced cells as the released guide's own fill.sh prints them over the translation 2964453516904dee… (all of the seat's roots in one cut). By AI agents, Wed Nov 11 2026. No macro, syntax, notation, axiom, sorry.
-/
import Derived.Test.YtpikcebippnemaaChecked
import GoSem.Claim
import GoSem.ClaimJoined
import GoSem.ClaimMapViews
import Derived.JoinedTies
import Derived.KernelRfl
namespace Go.Proofs.Ytpikcebippnemaa
/- THE CELL 'sum', in the pinned program and in every row, IS THE sha256 OF THE DUMP (.gsa) THAT YtpikcebippnemaaProg.lean LOADS. Nothing in Lean hashes anything: it is a label: what it is worth is what the hold of that sum in a sandbox is worth. -/
noncomputable def Try.pinned : Pinned := { name := "ytpikcebippnemaa", sum := "2964453516904dee30985d0459b624292519a7b86c156131830f8aa696648fcb", checked := Try.checked }
namespace Rows
def none {H : Type} : Left H := { results := [], args := [] }

/-- 'laws.FnExactConstants': WHATEVER THE INPUT: true; the input reads as it did. -/
def fnExactConstantsSpec : ChangeSpec := { name := "fnExactConstants", fn := fun _ => fun
  | [] => { results := [.lit (.bool true)], args := [] }
  | _ => none }
def fnExactConstantsRow : OpenClaim := { program := "ytpikcebippnemaa", sum := "2964453516904dee30985d0459b624292519a7b86c156131830f8aa696648fcb", func := "loop.example/g00787/laws.FnExactConstants", spec := "fnExactConstants", apart := false }
def FnExactConstantsSaid : Prop := fnExactConstantsRow.holds Try.pinned (OpenSpec.ofChange fnExactConstantsSpec)

/-- ITS FALSE NEIGHBOUR: 'it returns false'. Refute it at one input. -/
def fnExactConstantsWrong : ChangeSpec := { name := "fnExactConstants", fn := fun _ => fun
  | [] => { results := [.lit (.bool false)], args := [] }
  | _ => none }
def FnExactConstantsWrongFalsely : Prop := fnExactConstantsRow.holds Try.pinned (OpenSpec.ofChange fnExactConstantsWrong)

/-- 'laws.FnExactWrapCell': WHATEVER THE INPUT: true; the input reads as it did. -/
def fnExactWrapCellSpec : ChangeSpec := { name := "fnExactWrapCell", fn := fun _ => fun
  | [d] => { results := [.lit (.bool true)], args := [d] }
  | _ => none }
def fnExactWrapCellRow : OpenClaim := { program := "ytpikcebippnemaa", sum := "2964453516904dee30985d0459b624292519a7b86c156131830f8aa696648fcb", func := "loop.example/g00787/laws.FnExactWrapCell", spec := "fnExactWrapCell", apart := false }
def FnExactWrapCellSaid : Prop := fnExactWrapCellRow.holds Try.pinned (OpenSpec.ofChange fnExactWrapCellSpec)

/-- ITS FALSE NEIGHBOUR: 'it returns false'. Refute it at one input. -/
def fnExactWrapCellWrong : ChangeSpec := { name := "fnExactWrapCell", fn := fun _ => fun
  | [d] => { results := [.lit (.bool false)], args := [d] }
  | _ => none }
def FnExactWrapCellWrongFalsely : Prop := fnExactWrapCellRow.holds Try.pinned (OpenSpec.ofChange fnExactWrapCellWrong)

/-- 'laws.FnExactCellOK': WHATEVER THE INPUT: true; the input reads as it did. -/
def fnExactCellOKSpec : ChangeSpec := { name := "fnExactCellOK", fn := fun _ => fun
  | [d] => { results := [.lit (.bool true)], args := [d] }
  | _ => none }
def fnExactCellOKRow : OpenClaim := { program := "ytpikcebippnemaa", sum := "2964453516904dee30985d0459b624292519a7b86c156131830f8aa696648fcb", func := "loop.example/g00787/laws.FnExactCellOK", spec := "fnExactCellOK", apart := false }
def FnExactCellOKSaid : Prop := fnExactCellOKRow.holds Try.pinned (OpenSpec.ofChange fnExactCellOKSpec)

/-- ITS FALSE NEIGHBOUR: 'it returns false'. Refute it at one input. -/
def fnExactCellOKWrong : ChangeSpec := { name := "fnExactCellOK", fn := fun _ => fun
  | [d] => { results := [.lit (.bool false)], args := [d] }
  | _ => none }
def FnExactCellOKWrongFalsely : Prop := fnExactCellOKRow.holds Try.pinned (OpenSpec.ofChange fnExactCellOKWrong)

/-- 'laws.FnExactCodeWord': WHATEVER THE INPUT: true; the input reads as it did. -/
def fnExactCodeWordSpec : ChangeSpec := { name := "fnExactCodeWord", fn := fun _ => fun
  | [d] => { results := [.lit (.bool true)], args := [d] }
  | _ => none }
def fnExactCodeWordRow : OpenClaim := { program := "ytpikcebippnemaa", sum := "2964453516904dee30985d0459b624292519a7b86c156131830f8aa696648fcb", func := "loop.example/g00787/laws.FnExactCodeWord", spec := "fnExactCodeWord", apart := false }
def FnExactCodeWordSaid : Prop := fnExactCodeWordRow.holds Try.pinned (OpenSpec.ofChange fnExactCodeWordSpec)

/-- ITS FALSE NEIGHBOUR: 'it returns false'. Refute it at one input. -/
def fnExactCodeWordWrong : ChangeSpec := { name := "fnExactCodeWord", fn := fun _ => fun
  | [d] => { results := [.lit (.bool false)], args := [d] }
  | _ => none }
def FnExactCodeWordWrongFalsely : Prop := fnExactCodeWordRow.holds Try.pinned (OpenSpec.ofChange fnExactCodeWordWrong)

/-- 'laws.FnExactUnsigned': WHATEVER THE INPUT: true; the input reads as it did. -/
def fnExactUnsignedSpec : ChangeSpec := { name := "fnExactUnsigned", fn := fun _ => fun
  | [d] => { results := [.lit (.bool true)], args := [d] }
  | _ => none }
def fnExactUnsignedRow : OpenClaim := { program := "ytpikcebippnemaa", sum := "2964453516904dee30985d0459b624292519a7b86c156131830f8aa696648fcb", func := "loop.example/g00787/laws.FnExactUnsigned", spec := "fnExactUnsigned", apart := false }
def FnExactUnsignedSaid : Prop := fnExactUnsignedRow.holds Try.pinned (OpenSpec.ofChange fnExactUnsignedSpec)

/-- ITS FALSE NEIGHBOUR: 'it returns false'. Refute it at one input. -/
def fnExactUnsignedWrong : ChangeSpec := { name := "fnExactUnsigned", fn := fun _ => fun
  | [d] => { results := [.lit (.bool false)], args := [d] }
  | _ => none }
def FnExactUnsignedWrongFalsely : Prop := fnExactUnsignedRow.holds Try.pinned (OpenSpec.ofChange fnExactUnsignedWrong)

/-- 'laws.FnExactTakesOf': WHATEVER THE INPUT: true; the input reads as it did. -/
def fnExactTakesOfSpec : ChangeSpec := { name := "fnExactTakesOf", fn := fun _ => fun
  | [d] => { results := [.lit (.bool true)], args := [d] }
  | _ => none }
def fnExactTakesOfRow : OpenClaim := { program := "ytpikcebippnemaa", sum := "2964453516904dee30985d0459b624292519a7b86c156131830f8aa696648fcb", func := "loop.example/g00787/laws.FnExactTakesOf", spec := "fnExactTakesOf", apart := false }
def FnExactTakesOfSaid : Prop := fnExactTakesOfRow.holds Try.pinned (OpenSpec.ofChange fnExactTakesOfSpec)

/-- ITS FALSE NEIGHBOUR: 'it returns false'. Refute it at one input. -/
def fnExactTakesOfWrong : ChangeSpec := { name := "fnExactTakesOf", fn := fun _ => fun
  | [d] => { results := [.lit (.bool false)], args := [d] }
  | _ => none }
def FnExactTakesOfWrongFalsely : Prop := fnExactTakesOfRow.holds Try.pinned (OpenSpec.ofChange fnExactTakesOfWrong)

/- THE SECOND FORM. 'bulk': how many values and letters a reading holds, each counted each time it is reached (what is shared counts as often as it is met; a slice's spare places count too). A statement '..UptoSaid' is the law's where the arguments, and the package variables that the reading takes, are together of bulk at most 1048576: NARROWER than '..Said'. Prove '..Said' where nothing that the law and all that it calls make is longer than what came in: it says more and counts as full. Else prove '..UptoSaid'. A law counts once. -/
mutual
def uptoBulk {H : Type} : DataW H → Nat
  | .lit (.string bytes) => bytes.length + 1
  | .lit _ => 1
  | .nil => 1
  | .ptr d => uptoBulk d + 1
  | .slice elems spare => uptoBulkAll elems + uptoBulkAll spare + 1
  | .agg parts => uptoBulkAll parts + 1
  | .iface _ d => uptoBulk d + 1
  | .map entries => uptoBulkEntries entries + 1
  | .held _ => 1
def uptoBulkAll {H : Type} : List (DataW H) → Nat
  | [] => 0
  | d :: r => uptoBulk d + uptoBulkAll r
def uptoBulkEntries {H : Type} : List (Lit × DataW H) → Nat
  | [] => 0
  | x :: r => uptoBulkEntry x + uptoBulkEntries r
def uptoBulkEntry {H : Type} : Lit × DataW H → Nat
  | (.string bytes, d) => bytes.length + uptoBulk d + 1
  | (_, d) => uptoBulk d + 1
 end
def uptoSmall : (H : Type) → List (DataW H) → Bool := fun _ ds => decide (uptoBulkAll ds ≤ 1048576)
def OpenSpec.upto (s : _root_.Go.ChangeSpec) : _root_.Go.OpenSpec := { _root_.Go.OpenSpec.ofChange s with cond := some uptoSmall }

/-- 'laws.FnExactConstants', WHERE WHAT IT READS IS OF BULK AT MOST 1048576: true; the input reads as it did. -/
def fnExactConstantsUptoRow : OpenClaim := { program := "ytpikcebippnemaa", sum := "2964453516904dee30985d0459b624292519a7b86c156131830f8aa696648fcb", func := "loop.example/g00787/laws.FnExactConstants", spec := "fnExactConstants", apart := false, narrowed := true }
def FnExactConstantsUptoSaid : Prop := fnExactConstantsUptoRow.holds Try.pinned (OpenSpec.upto fnExactConstantsSpec)

/-- 'laws.FnExactWrapCell', WHERE WHAT IT READS IS OF BULK AT MOST 1048576: true; the input reads as it did. -/
def fnExactWrapCellUptoRow : OpenClaim := { program := "ytpikcebippnemaa", sum := "2964453516904dee30985d0459b624292519a7b86c156131830f8aa696648fcb", func := "loop.example/g00787/laws.FnExactWrapCell", spec := "fnExactWrapCell", apart := false, narrowed := true }
def FnExactWrapCellUptoSaid : Prop := fnExactWrapCellUptoRow.holds Try.pinned (OpenSpec.upto fnExactWrapCellSpec)

/-- 'laws.FnExactCellOK', WHERE WHAT IT READS IS OF BULK AT MOST 1048576: true; the input reads as it did. -/
def fnExactCellOKUptoRow : OpenClaim := { program := "ytpikcebippnemaa", sum := "2964453516904dee30985d0459b624292519a7b86c156131830f8aa696648fcb", func := "loop.example/g00787/laws.FnExactCellOK", spec := "fnExactCellOK", apart := false, narrowed := true }
def FnExactCellOKUptoSaid : Prop := fnExactCellOKUptoRow.holds Try.pinned (OpenSpec.upto fnExactCellOKSpec)

/-- 'laws.FnExactCodeWord', WHERE WHAT IT READS IS OF BULK AT MOST 1048576: true; the input reads as it did. -/
def fnExactCodeWordUptoRow : OpenClaim := { program := "ytpikcebippnemaa", sum := "2964453516904dee30985d0459b624292519a7b86c156131830f8aa696648fcb", func := "loop.example/g00787/laws.FnExactCodeWord", spec := "fnExactCodeWord", apart := false, narrowed := true }
def FnExactCodeWordUptoSaid : Prop := fnExactCodeWordUptoRow.holds Try.pinned (OpenSpec.upto fnExactCodeWordSpec)

/-- 'laws.FnExactUnsigned', WHERE WHAT IT READS IS OF BULK AT MOST 1048576: true; the input reads as it did. -/
def fnExactUnsignedUptoRow : OpenClaim := { program := "ytpikcebippnemaa", sum := "2964453516904dee30985d0459b624292519a7b86c156131830f8aa696648fcb", func := "loop.example/g00787/laws.FnExactUnsigned", spec := "fnExactUnsigned", apart := false, narrowed := true }
def FnExactUnsignedUptoSaid : Prop := fnExactUnsignedUptoRow.holds Try.pinned (OpenSpec.upto fnExactUnsignedSpec)

/-- 'laws.FnExactTakesOf', WHERE WHAT IT READS IS OF BULK AT MOST 1048576: true; the input reads as it did. -/
def fnExactTakesOfUptoRow : OpenClaim := { program := "ytpikcebippnemaa", sum := "2964453516904dee30985d0459b624292519a7b86c156131830f8aa696648fcb", func := "loop.example/g00787/laws.FnExactTakesOf", spec := "fnExactTakesOf", apart := false, narrowed := true }
def FnExactTakesOfUptoSaid : Prop := fnExactTakesOfUptoRow.holds Try.pinned (OpenSpec.upto fnExactTakesOfSpec)

end Rows
end Go.Proofs.Ytpikcebippnemaa
