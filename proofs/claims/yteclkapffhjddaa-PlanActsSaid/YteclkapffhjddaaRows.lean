/-
  No cell of these rows narrows 'for every input' (looked for: loops, veiled, ifaces, maps, wideKeys, modest, calm, conditions, laid).
  DERIVED. THE GIVEN ROWS OF THIS SEAT. 9 by the template 'for every input the law returns true; each argument reads behind the call as it read before'; 0 by the template 'total and deterministic' (their statements: YteclkapffhjddaaTotals.lean).
  GIVEN WITH THE SEED: the statements are not yours to turn. If you find one false, say at which input.
  Laid BY PROGRAM, IN A SANDBOX (cutbox-rows.mjs): the forced cells as the released guide's own fill.sh prints them over the translation c5be57ad858818ce… (all of the seat's roots in one cut). By AI agents, Wed Nov 11 2026. No macro, syntax, notation, axiom, sorry.
-/
import Derived.Test.YteclkapffhjddaaChecked
import GoSem.Claim
import GoSem.ClaimJoined
import GoSem.ClaimMapViews
import Derived.JoinedTies
import Derived.KernelRfl
namespace Go.Proofs.Yteclkapffhjddaa
/- THE CELL 'sum', in the pinned program and in every row, IS THE sha256 OF THE DUMP (.gsa) THAT YteclkapffhjddaaProg.lean LOADS. Nothing in Lean hashes anything: it is a label: what it is worth is what the hold of that sum in a sandbox is worth. -/
noncomputable def Try.pinned : Pinned := { name := "yteclkapffhjddaa", sum := "c5be57ad858818ce5ac92c306dc72642b3c5ec194378d94b6e552bb86a6172d3", checked := Try.checked }
namespace Rows
def none {H : Type} : Left H := { results := [], args := [] }

/-- 'twainlaw01.BitsTells': WHATEVER THE INPUT: true; the input reads as it did. -/
def bitsTellsSpec : ChangeSpec := { name := "bitsTells", fn := fun _ => fun
  | [d1, d2] => { results := [.lit (.bool true)], args := [d1, d2] }
  | _ => none }
def bitsTellsRow : OpenClaim := { program := "yteclkapffhjddaa", sum := "c5be57ad858818ce5ac92c306dc72642b3c5ec194378d94b6e552bb86a6172d3", func := "twain/twainlaw01.BitsTells", spec := "bitsTells", unfollowed := true, recurses := true, apart := false }
def BitsTellsSaid : Prop := bitsTellsRow.holds Try.pinned (OpenSpec.ofChange bitsTellsSpec)

/-- ITS FALSE NEIGHBOUR: 'it returns false'. Refute it at one input. -/
def bitsTellsWrong : ChangeSpec := { name := "bitsTells", fn := fun _ => fun
  | [d1, d2] => { results := [.lit (.bool false)], args := [d1, d2] }
  | _ => none }
def BitsTellsWrongFalsely : Prop := bitsTellsRow.holds Try.pinned (OpenSpec.ofChange bitsTellsWrong)

/-- 'twainlaw01.BitsRows': WHATEVER THE INPUT: true; the input reads as it did. -/
def bitsRowsSpec : ChangeSpec := { name := "bitsRows", fn := fun _ => fun
  | [d1, d2] => { results := [.lit (.bool true)], args := [d1, d2] }
  | _ => none }
def bitsRowsRow : OpenClaim := { program := "yteclkapffhjddaa", sum := "c5be57ad858818ce5ac92c306dc72642b3c5ec194378d94b6e552bb86a6172d3", func := "twain/twainlaw01.BitsRows", spec := "bitsRows", unfollowed := true, recurses := true, apart := false }
def BitsRowsSaid : Prop := bitsRowsRow.holds Try.pinned (OpenSpec.ofChange bitsRowsSpec)

/-- ITS FALSE NEIGHBOUR: 'it returns false'. Refute it at one input. -/
def bitsRowsWrong : ChangeSpec := { name := "bitsRows", fn := fun _ => fun
  | [d1, d2] => { results := [.lit (.bool false)], args := [d1, d2] }
  | _ => none }
def BitsRowsWrongFalsely : Prop := bitsRowsRow.holds Try.pinned (OpenSpec.ofChange bitsRowsWrong)

/-- 'twainlaw01.BitsBack': WHATEVER THE INPUT: true; the input reads as it did. -/
def bitsBackSpec : ChangeSpec := { name := "bitsBack", fn := fun _ => fun
  | [d1, d2] => { results := [.lit (.bool true)], args := [d1, d2] }
  | _ => none }
def bitsBackRow : OpenClaim := { program := "yteclkapffhjddaa", sum := "c5be57ad858818ce5ac92c306dc72642b3c5ec194378d94b6e552bb86a6172d3", func := "twain/twainlaw01.BitsBack", spec := "bitsBack", unfollowed := true, recurses := true, apart := false }
def BitsBackSaid : Prop := bitsBackRow.holds Try.pinned (OpenSpec.ofChange bitsBackSpec)

/-- ITS FALSE NEIGHBOUR: 'it returns false'. Refute it at one input. -/
def bitsBackWrong : ChangeSpec := { name := "bitsBack", fn := fun _ => fun
  | [d1, d2] => { results := [.lit (.bool false)], args := [d1, d2] }
  | _ => none }
def BitsBackWrongFalsely : Prop := bitsBackRow.holds Try.pinned (OpenSpec.ofChange bitsBackWrong)

/-- 'twainlaw01.BitsActs': WHATEVER THE INPUT: true; the input reads as it did. -/
def bitsActsSpec : ChangeSpec := { name := "bitsActs", fn := fun _ => fun
  | [d1, d2] => { results := [.lit (.bool true)], args := [d1, d2] }
  | _ => none }
def bitsActsRow : OpenClaim := { program := "yteclkapffhjddaa", sum := "c5be57ad858818ce5ac92c306dc72642b3c5ec194378d94b6e552bb86a6172d3", func := "twain/twainlaw01.BitsActs", spec := "bitsActs", unfollowed := true, recurses := true, apart := false }
def BitsActsSaid : Prop := bitsActsRow.holds Try.pinned (OpenSpec.ofChange bitsActsSpec)

/-- ITS FALSE NEIGHBOUR: 'it returns false'. Refute it at one input. -/
def bitsActsWrong : ChangeSpec := { name := "bitsActs", fn := fun _ => fun
  | [d1, d2] => { results := [.lit (.bool false)], args := [d1, d2] }
  | _ => none }
def BitsActsWrongFalsely : Prop := bitsActsRow.holds Try.pinned (OpenSpec.ofChange bitsActsWrong)

/-- 'twainlaw27.PlanActs': WHATEVER THE INPUT: true; the input reads as it did. -/
def planActsSpec : ChangeSpec := { name := "planActs", fn := fun _ => fun
  | [d1, d2] => { results := [.lit (.bool true)], args := [d1, d2] }
  | _ => none }
def planActsRow : OpenClaim := { program := "yteclkapffhjddaa", sum := "c5be57ad858818ce5ac92c306dc72642b3c5ec194378d94b6e552bb86a6172d3", func := "twain/twainlaw27.PlanActs", spec := "planActs", unfollowed := true, recurses := true, apart := false }
def PlanActsSaid : Prop := planActsRow.holds Try.pinned (OpenSpec.ofChange planActsSpec)

/-- ITS FALSE NEIGHBOUR: 'it returns false'. Refute it at one input. -/
def planActsWrong : ChangeSpec := { name := "planActs", fn := fun _ => fun
  | [d1, d2] => { results := [.lit (.bool false)], args := [d1, d2] }
  | _ => none }
def PlanActsWrongFalsely : Prop := planActsRow.holds Try.pinned (OpenSpec.ofChange planActsWrong)

/-- 'twainlaw27.PlanOver': WHATEVER THE INPUT: true; the input reads as it did. -/
def planOverSpec : ChangeSpec := { name := "planOver", fn := fun _ => fun
  | [d1, d2] => { results := [.lit (.bool true)], args := [d1, d2] }
  | _ => none }
def planOverRow : OpenClaim := { program := "yteclkapffhjddaa", sum := "c5be57ad858818ce5ac92c306dc72642b3c5ec194378d94b6e552bb86a6172d3", func := "twain/twainlaw27.PlanOver", spec := "planOver", unfollowed := true, recurses := true, apart := false }
def PlanOverSaid : Prop := planOverRow.holds Try.pinned (OpenSpec.ofChange planOverSpec)

/-- ITS FALSE NEIGHBOUR: 'it returns false'. Refute it at one input. -/
def planOverWrong : ChangeSpec := { name := "planOver", fn := fun _ => fun
  | [d1, d2] => { results := [.lit (.bool false)], args := [d1, d2] }
  | _ => none }
def PlanOverWrongFalsely : Prop := planOverRow.holds Try.pinned (OpenSpec.ofChange planOverWrong)

/-- 'twainlaw27.PlanNone': WHATEVER THE INPUT: true; the input reads as it did. -/
def planNoneSpec : ChangeSpec := { name := "planNone", fn := fun _ => fun
  | [d] => { results := [.lit (.bool true)], args := [d] }
  | _ => none }
def planNoneRow : OpenClaim := { program := "yteclkapffhjddaa", sum := "c5be57ad858818ce5ac92c306dc72642b3c5ec194378d94b6e552bb86a6172d3", func := "twain/twainlaw27.PlanNone", spec := "planNone", unfollowed := true, recurses := true, apart := false }
def PlanNoneSaid : Prop := planNoneRow.holds Try.pinned (OpenSpec.ofChange planNoneSpec)

/-- ITS FALSE NEIGHBOUR: 'it returns false'. Refute it at one input. -/
def planNoneWrong : ChangeSpec := { name := "planNone", fn := fun _ => fun
  | [d] => { results := [.lit (.bool false)], args := [d] }
  | _ => none }
def PlanNoneWrongFalsely : Prop := planNoneRow.holds Try.pinned (OpenSpec.ofChange planNoneWrong)

/-- 'twainlaw16.WaitFirst': WHATEVER THE INPUT: true; the input reads as it did. -/
def waitFirstSpec : ChangeSpec := { name := "waitFirst", fn := fun _ => fun
  | [d] => { results := [.lit (.bool true)], args := [d] }
  | _ => none }
def waitFirstRow : OpenClaim := { program := "yteclkapffhjddaa", sum := "c5be57ad858818ce5ac92c306dc72642b3c5ec194378d94b6e552bb86a6172d3", func := "twain/twainlaw16.WaitFirst", spec := "waitFirst", unfollowed := true, recurses := true, apart := false }
def WaitFirstSaid : Prop := waitFirstRow.holds Try.pinned (OpenSpec.ofChange waitFirstSpec)

/-- ITS FALSE NEIGHBOUR: 'it returns false'. Refute it at one input. -/
def waitFirstWrong : ChangeSpec := { name := "waitFirst", fn := fun _ => fun
  | [d] => { results := [.lit (.bool false)], args := [d] }
  | _ => none }
def WaitFirstWrongFalsely : Prop := waitFirstRow.holds Try.pinned (OpenSpec.ofChange waitFirstWrong)

/-- 'twainlaw16.WaitTells': WHATEVER THE INPUT: true; the input reads as it did. -/
def waitTellsSpec : ChangeSpec := { name := "waitTells", fn := fun _ => fun
  | [d1, d2, d3] => { results := [.lit (.bool true)], args := [d1, d2, d3] }
  | _ => none }
def waitTellsRow : OpenClaim := { program := "yteclkapffhjddaa", sum := "c5be57ad858818ce5ac92c306dc72642b3c5ec194378d94b6e552bb86a6172d3", func := "twain/twainlaw16.WaitTells", spec := "waitTells", unfollowed := true, recurses := true, apart := false }
def WaitTellsSaid : Prop := waitTellsRow.holds Try.pinned (OpenSpec.ofChange waitTellsSpec)

/-- ITS FALSE NEIGHBOUR: 'it returns false'. Refute it at one input. -/
def waitTellsWrong : ChangeSpec := { name := "waitTells", fn := fun _ => fun
  | [d1, d2, d3] => { results := [.lit (.bool false)], args := [d1, d2, d3] }
  | _ => none }
def WaitTellsWrongFalsely : Prop := waitTellsRow.holds Try.pinned (OpenSpec.ofChange waitTellsWrong)

/- THE SECOND FORM. 'bulk': how many values and letters a reading holds, each counted each time it is reached (what is shared counts as often as it is met; a slice's spare places count too). A statement '..UptoSaid' is the law's where the arguments, and the package variables that the reading takes, are together of bulk at most 1048576: NARROWER than '..Said'. Prove '..Said' where nothing that the law and all that it calls make is longer than what came in: it says more and counts as full. Else prove '..UptoSaid'. A law counts once. -/
mutual
def uptoBulk {H : Type} : DataW H → Nat
  | .lit (.string bytes) => bytes.length + 1
  | .lit _ => 1
  | .nil => 1
  | .ptr d => uptoBulk d + 1
  | .slice elems spare => uptoBulkAll elems + uptoBulkAll spare + 1
  | .agg parts => uptoBulkAll parts + 1
  | .iface _ d => uptoBulk d + 1
  | .map entries => uptoBulkEntries entries + 1
  | .held _ => 1
def uptoBulkAll {H : Type} : List (DataW H) → Nat
  | [] => 0
  | d :: r => uptoBulk d + uptoBulkAll r
def uptoBulkEntries {H : Type} : List (Lit × DataW H) → Nat
  | [] => 0
  | x :: r => uptoBulkEntry x + uptoBulkEntries r
def uptoBulkEntry {H : Type} : Lit × DataW H → Nat
  | (.string bytes, d) => bytes.length + uptoBulk d + 1
  | (_, d) => uptoBulk d + 1
 end
def uptoSmall : (H : Type) → List (DataW H) → Bool := fun _ ds => decide (uptoBulkAll ds ≤ 1048576)
def OpenSpec.upto (s : _root_.Go.ChangeSpec) : _root_.Go.OpenSpec := { _root_.Go.OpenSpec.ofChange s with cond := some uptoSmall }

/-- 'twainlaw01.BitsTells', WHERE WHAT IT READS IS OF BULK AT MOST 1048576: true; the input reads as it did. -/
def bitsTellsUptoRow : OpenClaim := { program := "yteclkapffhjddaa", sum := "c5be57ad858818ce5ac92c306dc72642b3c5ec194378d94b6e552bb86a6172d3", func := "twain/twainlaw01.BitsTells", spec := "bitsTells", unfollowed := true, recurses := true, apart := false, narrowed := true }
def BitsTellsUptoSaid : Prop := bitsTellsUptoRow.holds Try.pinned (OpenSpec.upto bitsTellsSpec)

/-- 'twainlaw01.BitsRows', WHERE WHAT IT READS IS OF BULK AT MOST 1048576: true; the input reads as it did. -/
def bitsRowsUptoRow : OpenClaim := { program := "yteclkapffhjddaa", sum := "c5be57ad858818ce5ac92c306dc72642b3c5ec194378d94b6e552bb86a6172d3", func := "twain/twainlaw01.BitsRows", spec := "bitsRows", unfollowed := true, recurses := true, apart := false, narrowed := true }
def BitsRowsUptoSaid : Prop := bitsRowsUptoRow.holds Try.pinned (OpenSpec.upto bitsRowsSpec)

/-- 'twainlaw01.BitsBack', WHERE WHAT IT READS IS OF BULK AT MOST 1048576: true; the input reads as it did. -/
def bitsBackUptoRow : OpenClaim := { program := "yteclkapffhjddaa", sum := "c5be57ad858818ce5ac92c306dc72642b3c5ec194378d94b6e552bb86a6172d3", func := "twain/twainlaw01.BitsBack", spec := "bitsBack", unfollowed := true, recurses := true, apart := false, narrowed := true }
def BitsBackUptoSaid : Prop := bitsBackUptoRow.holds Try.pinned (OpenSpec.upto bitsBackSpec)

/-- 'twainlaw01.BitsActs', WHERE WHAT IT READS IS OF BULK AT MOST 1048576: true; the input reads as it did. -/
def bitsActsUptoRow : OpenClaim := { program := "yteclkapffhjddaa", sum := "c5be57ad858818ce5ac92c306dc72642b3c5ec194378d94b6e552bb86a6172d3", func := "twain/twainlaw01.BitsActs", spec := "bitsActs", unfollowed := true, recurses := true, apart := false, narrowed := true }
def BitsActsUptoSaid : Prop := bitsActsUptoRow.holds Try.pinned (OpenSpec.upto bitsActsSpec)

/-- 'twainlaw27.PlanActs', WHERE WHAT IT READS IS OF BULK AT MOST 1048576: true; the input reads as it did. -/
def planActsUptoRow : OpenClaim := { program := "yteclkapffhjddaa", sum := "c5be57ad858818ce5ac92c306dc72642b3c5ec194378d94b6e552bb86a6172d3", func := "twain/twainlaw27.PlanActs", spec := "planActs", unfollowed := true, recurses := true, apart := false, narrowed := true }
def PlanActsUptoSaid : Prop := planActsUptoRow.holds Try.pinned (OpenSpec.upto planActsSpec)

/-- 'twainlaw27.PlanOver', WHERE WHAT IT READS IS OF BULK AT MOST 1048576: true; the input reads as it did. -/
def planOverUptoRow : OpenClaim := { program := "yteclkapffhjddaa", sum := "c5be57ad858818ce5ac92c306dc72642b3c5ec194378d94b6e552bb86a6172d3", func := "twain/twainlaw27.PlanOver", spec := "planOver", unfollowed := true, recurses := true, apart := false, narrowed := true }
def PlanOverUptoSaid : Prop := planOverUptoRow.holds Try.pinned (OpenSpec.upto planOverSpec)

/-- 'twainlaw27.PlanNone', WHERE WHAT IT READS IS OF BULK AT MOST 1048576: true; the input reads as it did. -/
def planNoneUptoRow : OpenClaim := { program := "yteclkapffhjddaa", sum := "c5be57ad858818ce5ac92c306dc72642b3c5ec194378d94b6e552bb86a6172d3", func := "twain/twainlaw27.PlanNone", spec := "planNone", unfollowed := true, recurses := true, apart := false, narrowed := true }
def PlanNoneUptoSaid : Prop := planNoneUptoRow.holds Try.pinned (OpenSpec.upto planNoneSpec)

/-- 'twainlaw16.WaitFirst', WHERE WHAT IT READS IS OF BULK AT MOST 1048576: true; the input reads as it did. -/
def waitFirstUptoRow : OpenClaim := { program := "yteclkapffhjddaa", sum := "c5be57ad858818ce5ac92c306dc72642b3c5ec194378d94b6e552bb86a6172d3", func := "twain/twainlaw16.WaitFirst", spec := "waitFirst", unfollowed := true, recurses := true, apart := false, narrowed := true }
def WaitFirstUptoSaid : Prop := waitFirstUptoRow.holds Try.pinned (OpenSpec.upto waitFirstSpec)

/-- 'twainlaw16.WaitTells', WHERE WHAT IT READS IS OF BULK AT MOST 1048576: true; the input reads as it did. -/
def waitTellsUptoRow : OpenClaim := { program := "yteclkapffhjddaa", sum := "c5be57ad858818ce5ac92c306dc72642b3c5ec194378d94b6e552bb86a6172d3", func := "twain/twainlaw16.WaitTells", spec := "waitTells", unfollowed := true, recurses := true, apart := false, narrowed := true }
def WaitTellsUptoSaid : Prop := waitTellsUptoRow.holds Try.pinned (OpenSpec.upto waitTellsSpec)

end Rows
end Go.Proofs.Yteclkapffhjddaa
