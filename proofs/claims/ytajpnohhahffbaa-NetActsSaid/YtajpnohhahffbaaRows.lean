/-
  No cell of these rows narrows 'for every input' (looked for: loops, veiled, ifaces, maps, wideKeys, modest, calm, conditions, laid).
  DERIVED. THE GIVEN ROWS OF THIS SEAT. 10 by the template 'for every input the law returns true; each argument reads behind the call as it read before'; 0 by the template 'total and deterministic' (their statements: YtajpnohhahffbaaTotals.lean).
  GIVEN WITH THE SEED: the statements are not yours to turn. If you find one false, say at which input.
  Laid BY PROGRAM, IN A SANDBOX (cutbox-rows.mjs): the forced cells as the released guide's own fill.sh prints them over the translation 619e25f7541135cf… (all of the seat's roots in one cut). By AI agents, Wed Nov 11 2026. No macro, syntax, notation, axiom, sorry.
-/
import Derived.Test.YtajpnohhahffbaaChecked
import GoSem.Claim
import GoSem.ClaimJoined
import GoSem.ClaimMapViews
import Derived.JoinedTies
import Derived.KernelRfl
namespace Go.Proofs.Ytajpnohhahffbaa
/- THE CELL 'sum', in the pinned program and in every row, IS THE sha256 OF THE DUMP (.gsa) THAT YtajpnohhahffbaaProg.lean LOADS. Nothing in Lean hashes anything: it is a label: what it is worth is what the hold of that sum in a sandbox is worth. -/
noncomputable def Try.pinned : Pinned := { name := "ytajpnohhahffbaa", sum := "619e25f7541135cf50e0a002af521361e35a128489b4421a543889b4899580d7", checked := Try.checked }
namespace Rows
def none {H : Type} : Left H := { results := [], args := [] }

/-- 'twainlaw04.SpanTells': WHATEVER THE INPUT: true; the input reads as it did. -/
def spanTellsSpec : ChangeSpec := { name := "spanTells", fn := fun _ => fun
  | [d1, d2, d3] => { results := [.lit (.bool true)], args := [d1, d2, d3] }
  | _ => none }
def spanTellsRow : OpenClaim := { program := "ytajpnohhahffbaa", sum := "619e25f7541135cf50e0a002af521361e35a128489b4421a543889b4899580d7", func := "twain/twainlaw04.SpanTells", spec := "spanTells", unfollowed := true, recurses := true, apart := false }
def SpanTellsSaid : Prop := spanTellsRow.holds Try.pinned (OpenSpec.ofChange spanTellsSpec)

/-- ITS FALSE NEIGHBOUR: 'it returns false'. Refute it at one input. -/
def spanTellsWrong : ChangeSpec := { name := "spanTells", fn := fun _ => fun
  | [d1, d2, d3] => { results := [.lit (.bool false)], args := [d1, d2, d3] }
  | _ => none }
def SpanTellsWrongFalsely : Prop := spanTellsRow.holds Try.pinned (OpenSpec.ofChange spanTellsWrong)

/-- 'twainlaw04.SpanMeets': WHATEVER THE INPUT: true; the input reads as it did. -/
def spanMeetsSpec : ChangeSpec := { name := "spanMeets", fn := fun _ => fun
  | [d1, d2] => { results := [.lit (.bool true)], args := [d1, d2] }
  | _ => none }
def spanMeetsRow : OpenClaim := { program := "ytajpnohhahffbaa", sum := "619e25f7541135cf50e0a002af521361e35a128489b4421a543889b4899580d7", func := "twain/twainlaw04.SpanMeets", spec := "spanMeets", unfollowed := true, recurses := true, apart := false }
def SpanMeetsSaid : Prop := spanMeetsRow.holds Try.pinned (OpenSpec.ofChange spanMeetsSpec)

/-- ITS FALSE NEIGHBOUR: 'it returns false'. Refute it at one input. -/
def spanMeetsWrong : ChangeSpec := { name := "spanMeets", fn := fun _ => fun
  | [d1, d2] => { results := [.lit (.bool false)], args := [d1, d2] }
  | _ => none }
def SpanMeetsWrongFalsely : Prop := spanMeetsRow.holds Try.pinned (OpenSpec.ofChange spanMeetsWrong)

/-- 'twainlaw04.SpanTurns': WHATEVER THE INPUT: true; the input reads as it did. -/
def spanTurnsSpec : ChangeSpec := { name := "spanTurns", fn := fun _ => fun
  | [d1, d2, d3] => { results := [.lit (.bool true)], args := [d1, d2, d3] }
  | _ => none }
def spanTurnsRow : OpenClaim := { program := "ytajpnohhahffbaa", sum := "619e25f7541135cf50e0a002af521361e35a128489b4421a543889b4899580d7", func := "twain/twainlaw04.SpanTurns", spec := "spanTurns", unfollowed := true, recurses := true, apart := false }
def SpanTurnsSaid : Prop := spanTurnsRow.holds Try.pinned (OpenSpec.ofChange spanTurnsSpec)

/-- ITS FALSE NEIGHBOUR: 'it returns false'. Refute it at one input. -/
def spanTurnsWrong : ChangeSpec := { name := "spanTurns", fn := fun _ => fun
  | [d1, d2, d3] => { results := [.lit (.bool false)], args := [d1, d2, d3] }
  | _ => none }
def SpanTurnsWrongFalsely : Prop := spanTurnsRow.holds Try.pinned (OpenSpec.ofChange spanTurnsWrong)

/-- 'twainlaw23.ClashSides': WHATEVER THE INPUT: true; the input reads as it did. -/
def clashSidesSpec : ChangeSpec := { name := "clashSides", fn := fun _ => fun
  | [d1, d2, d3] => { results := [.lit (.bool true)], args := [d1, d2, d3] }
  | _ => none }
def clashSidesRow : OpenClaim := { program := "ytajpnohhahffbaa", sum := "619e25f7541135cf50e0a002af521361e35a128489b4421a543889b4899580d7", func := "twain/twainlaw23.ClashSides", spec := "clashSides", unfollowed := true, recurses := true, apart := false }
def ClashSidesSaid : Prop := clashSidesRow.holds Try.pinned (OpenSpec.ofChange clashSidesSpec)

/-- ITS FALSE NEIGHBOUR: 'it returns false'. Refute it at one input. -/
def clashSidesWrong : ChangeSpec := { name := "clashSides", fn := fun _ => fun
  | [d1, d2, d3] => { results := [.lit (.bool false)], args := [d1, d2, d3] }
  | _ => none }
def ClashSidesWrongFalsely : Prop := clashSidesRow.holds Try.pinned (OpenSpec.ofChange clashSidesWrong)

/-- 'twainlaw28.RequestSmall': WHATEVER THE INPUT: true; the input reads as it did. -/
def requestSmallSpec : ChangeSpec := { name := "requestSmall", fn := fun _ => fun
  | [d1, d2] => { results := [.lit (.bool true)], args := [d1, d2] }
  | _ => none }
def requestSmallRow : OpenClaim := { program := "ytajpnohhahffbaa", sum := "619e25f7541135cf50e0a002af521361e35a128489b4421a543889b4899580d7", func := "twain/twainlaw28.RequestSmall", spec := "requestSmall", apart := false }
def RequestSmallSaid : Prop := requestSmallRow.holds Try.pinned (OpenSpec.ofChange requestSmallSpec)

/-- ITS FALSE NEIGHBOUR: 'it returns false'. Refute it at one input. -/
def requestSmallWrong : ChangeSpec := { name := "requestSmall", fn := fun _ => fun
  | [d1, d2] => { results := [.lit (.bool false)], args := [d1, d2] }
  | _ => none }
def RequestSmallWrongFalsely : Prop := requestSmallRow.holds Try.pinned (OpenSpec.ofChange requestSmallWrong)

/-- 'twainlaw33.NetActs': WHATEVER THE INPUT: true; the input reads as it did. -/
def netActsSpec : ChangeSpec := { name := "netActs", fn := fun _ => fun
  | [d] => { results := [.lit (.bool true)], args := [d] }
  | _ => none }
def netActsRow : OpenClaim := { program := "ytajpnohhahffbaa", sum := "619e25f7541135cf50e0a002af521361e35a128489b4421a543889b4899580d7", func := "twain/twainlaw33.NetActs", spec := "netActs", apart := false }
def NetActsSaid : Prop := netActsRow.holds Try.pinned (OpenSpec.ofChange netActsSpec)

/-- ITS FALSE NEIGHBOUR: 'it returns false'. Refute it at one input. -/
def netActsWrong : ChangeSpec := { name := "netActs", fn := fun _ => fun
  | [d] => { results := [.lit (.bool false)], args := [d] }
  | _ => none }
def NetActsWrongFalsely : Prop := netActsRow.holds Try.pinned (OpenSpec.ofChange netActsWrong)

/-- 'twainlaw33.NetOnly': WHATEVER THE INPUT: true; the input reads as it did. -/
def netOnlySpec : ChangeSpec := { name := "netOnly", fn := fun _ => fun
  | [d1, d2] => { results := [.lit (.bool true)], args := [d1, d2] }
  | _ => none }
def netOnlyRow : OpenClaim := { program := "ytajpnohhahffbaa", sum := "619e25f7541135cf50e0a002af521361e35a128489b4421a543889b4899580d7", func := "twain/twainlaw33.NetOnly", spec := "netOnly", apart := false }
def NetOnlySaid : Prop := netOnlyRow.holds Try.pinned (OpenSpec.ofChange netOnlySpec)

/-- ITS FALSE NEIGHBOUR: 'it returns false'. Refute it at one input. -/
def netOnlyWrong : ChangeSpec := { name := "netOnly", fn := fun _ => fun
  | [d1, d2] => { results := [.lit (.bool false)], args := [d1, d2] }
  | _ => none }
def NetOnlyWrongFalsely : Prop := netOnlyRow.holds Try.pinned (OpenSpec.ofChange netOnlyWrong)

/-- 'twainlaw33.NetNone': WHATEVER THE INPUT: true; the input reads as it did. -/
def netNoneSpec : ChangeSpec := { name := "netNone", fn := fun _ => fun
  | [d] => { results := [.lit (.bool true)], args := [d] }
  | _ => none }
def netNoneRow : OpenClaim := { program := "ytajpnohhahffbaa", sum := "619e25f7541135cf50e0a002af521361e35a128489b4421a543889b4899580d7", func := "twain/twainlaw33.NetNone", spec := "netNone", apart := false }
def NetNoneSaid : Prop := netNoneRow.holds Try.pinned (OpenSpec.ofChange netNoneSpec)

/-- ITS FALSE NEIGHBOUR: 'it returns false'. Refute it at one input. -/
def netNoneWrong : ChangeSpec := { name := "netNone", fn := fun _ => fun
  | [d] => { results := [.lit (.bool false)], args := [d] }
  | _ => none }
def NetNoneWrongFalsely : Prop := netNoneRow.holds Try.pinned (OpenSpec.ofChange netNoneWrong)

/-- 'twainlaw23.ClashVerdicts': WHATEVER THE INPUT: true; the input reads as it did. -/
def clashVerdictsSpec : ChangeSpec := { name := "clashVerdicts", fn := fun _ => fun
  | [d1, d2, d3] => { results := [.lit (.bool true)], args := [d1, d2, d3] }
  | _ => none }
def clashVerdictsRow : OpenClaim := { program := "ytajpnohhahffbaa", sum := "619e25f7541135cf50e0a002af521361e35a128489b4421a543889b4899580d7", func := "twain/twainlaw23.ClashVerdicts", spec := "clashVerdicts", unfollowed := true, recurses := true, apart := false }
def ClashVerdictsSaid : Prop := clashVerdictsRow.holds Try.pinned (OpenSpec.ofChange clashVerdictsSpec)

/-- ITS FALSE NEIGHBOUR: 'it returns false'. Refute it at one input. -/
def clashVerdictsWrong : ChangeSpec := { name := "clashVerdicts", fn := fun _ => fun
  | [d1, d2, d3] => { results := [.lit (.bool false)], args := [d1, d2, d3] }
  | _ => none }
def ClashVerdictsWrongFalsely : Prop := clashVerdictsRow.holds Try.pinned (OpenSpec.ofChange clashVerdictsWrong)

/-- 'twainlaw28.RequestChecks': WHATEVER THE INPUT: true; the input reads as it did. -/
def requestChecksSpec : ChangeSpec := { name := "requestChecks", fn := fun _ => fun
  | [d1, d2, d3] => { results := [.lit (.bool true)], args := [d1, d2, d3] }
  | _ => none }
def requestChecksRow : OpenClaim := { program := "ytajpnohhahffbaa", sum := "619e25f7541135cf50e0a002af521361e35a128489b4421a543889b4899580d7", func := "twain/twainlaw28.RequestChecks", spec := "requestChecks", apart := false }
def RequestChecksSaid : Prop := requestChecksRow.holds Try.pinned (OpenSpec.ofChange requestChecksSpec)

/-- ITS FALSE NEIGHBOUR: 'it returns false'. Refute it at one input. -/
def requestChecksWrong : ChangeSpec := { name := "requestChecks", fn := fun _ => fun
  | [d1, d2, d3] => { results := [.lit (.bool false)], args := [d1, d2, d3] }
  | _ => none }
def RequestChecksWrongFalsely : Prop := requestChecksRow.holds Try.pinned (OpenSpec.ofChange requestChecksWrong)

/- THE SECOND FORM. 'bulk': how many values and letters a reading holds, each counted each time it is reached (what is shared counts as often as it is met; a slice's spare places count too). A statement '..UptoSaid' is the law's where the arguments, and the package variables that the reading takes, are together of bulk at most 1048576: NARROWER than '..Said'. Prove '..Said' where nothing that the law and all that it calls make is longer than what came in: it says more and counts as full. Else prove '..UptoSaid'. A law counts once. -/
mutual
def uptoBulk {H : Type} : DataW H → Nat
  | .lit (.string bytes) => bytes.length + 1
  | .lit _ => 1
  | .nil => 1
  | .ptr d => uptoBulk d + 1
  | .slice elems spare => uptoBulkAll elems + uptoBulkAll spare + 1
  | .agg parts => uptoBulkAll parts + 1
  | .iface _ d => uptoBulk d + 1
  | .map entries => uptoBulkEntries entries + 1
  | .held _ => 1
def uptoBulkAll {H : Type} : List (DataW H) → Nat
  | [] => 0
  | d :: r => uptoBulk d + uptoBulkAll r
def uptoBulkEntries {H : Type} : List (Lit × DataW H) → Nat
  | [] => 0
  | x :: r => uptoBulkEntry x + uptoBulkEntries r
def uptoBulkEntry {H : Type} : Lit × DataW H → Nat
  | (.string bytes, d) => bytes.length + uptoBulk d + 1
  | (_, d) => uptoBulk d + 1
 end
def uptoSmall : (H : Type) → List (DataW H) → Bool := fun _ ds => decide (uptoBulkAll ds ≤ 1048576)
def OpenSpec.upto (s : _root_.Go.ChangeSpec) : _root_.Go.OpenSpec := { _root_.Go.OpenSpec.ofChange s with cond := some uptoSmall }

/-- 'twainlaw04.SpanTells', WHERE WHAT IT READS IS OF BULK AT MOST 1048576: true; the input reads as it did. -/
def spanTellsUptoRow : OpenClaim := { program := "ytajpnohhahffbaa", sum := "619e25f7541135cf50e0a002af521361e35a128489b4421a543889b4899580d7", func := "twain/twainlaw04.SpanTells", spec := "spanTells", unfollowed := true, recurses := true, apart := false, narrowed := true }
def SpanTellsUptoSaid : Prop := spanTellsUptoRow.holds Try.pinned (OpenSpec.upto spanTellsSpec)

/-- 'twainlaw04.SpanMeets', WHERE WHAT IT READS IS OF BULK AT MOST 1048576: true; the input reads as it did. -/
def spanMeetsUptoRow : OpenClaim := { program := "ytajpnohhahffbaa", sum := "619e25f7541135cf50e0a002af521361e35a128489b4421a543889b4899580d7", func := "twain/twainlaw04.SpanMeets", spec := "spanMeets", unfollowed := true, recurses := true, apart := false, narrowed := true }
def SpanMeetsUptoSaid : Prop := spanMeetsUptoRow.holds Try.pinned (OpenSpec.upto spanMeetsSpec)

/-- 'twainlaw04.SpanTurns', WHERE WHAT IT READS IS OF BULK AT MOST 1048576: true; the input reads as it did. -/
def spanTurnsUptoRow : OpenClaim := { program := "ytajpnohhahffbaa", sum := "619e25f7541135cf50e0a002af521361e35a128489b4421a543889b4899580d7", func := "twain/twainlaw04.SpanTurns", spec := "spanTurns", unfollowed := true, recurses := true, apart := false, narrowed := true }
def SpanTurnsUptoSaid : Prop := spanTurnsUptoRow.holds Try.pinned (OpenSpec.upto spanTurnsSpec)

/-- 'twainlaw23.ClashSides', WHERE WHAT IT READS IS OF BULK AT MOST 1048576: true; the input reads as it did. -/
def clashSidesUptoRow : OpenClaim := { program := "ytajpnohhahffbaa", sum := "619e25f7541135cf50e0a002af521361e35a128489b4421a543889b4899580d7", func := "twain/twainlaw23.ClashSides", spec := "clashSides", unfollowed := true, recurses := true, apart := false, narrowed := true }
def ClashSidesUptoSaid : Prop := clashSidesUptoRow.holds Try.pinned (OpenSpec.upto clashSidesSpec)

/-- 'twainlaw28.RequestSmall', WHERE WHAT IT READS IS OF BULK AT MOST 1048576: true; the input reads as it did. -/
def requestSmallUptoRow : OpenClaim := { program := "ytajpnohhahffbaa", sum := "619e25f7541135cf50e0a002af521361e35a128489b4421a543889b4899580d7", func := "twain/twainlaw28.RequestSmall", spec := "requestSmall", apart := false, narrowed := true }
def RequestSmallUptoSaid : Prop := requestSmallUptoRow.holds Try.pinned (OpenSpec.upto requestSmallSpec)

/-- 'twainlaw33.NetActs', WHERE WHAT IT READS IS OF BULK AT MOST 1048576: true; the input reads as it did. -/
def netActsUptoRow : OpenClaim := { program := "ytajpnohhahffbaa", sum := "619e25f7541135cf50e0a002af521361e35a128489b4421a543889b4899580d7", func := "twain/twainlaw33.NetActs", spec := "netActs", apart := false, narrowed := true }
def NetActsUptoSaid : Prop := netActsUptoRow.holds Try.pinned (OpenSpec.upto netActsSpec)

/-- 'twainlaw33.NetOnly', WHERE WHAT IT READS IS OF BULK AT MOST 1048576: true; the input reads as it did. -/
def netOnlyUptoRow : OpenClaim := { program := "ytajpnohhahffbaa", sum := "619e25f7541135cf50e0a002af521361e35a128489b4421a543889b4899580d7", func := "twain/twainlaw33.NetOnly", spec := "netOnly", apart := false, narrowed := true }
def NetOnlyUptoSaid : Prop := netOnlyUptoRow.holds Try.pinned (OpenSpec.upto netOnlySpec)

/-- 'twainlaw33.NetNone', WHERE WHAT IT READS IS OF BULK AT MOST 1048576: true; the input reads as it did. -/
def netNoneUptoRow : OpenClaim := { program := "ytajpnohhahffbaa", sum := "619e25f7541135cf50e0a002af521361e35a128489b4421a543889b4899580d7", func := "twain/twainlaw33.NetNone", spec := "netNone", apart := false, narrowed := true }
def NetNoneUptoSaid : Prop := netNoneUptoRow.holds Try.pinned (OpenSpec.upto netNoneSpec)

/-- 'twainlaw23.ClashVerdicts', WHERE WHAT IT READS IS OF BULK AT MOST 1048576: true; the input reads as it did. -/
def clashVerdictsUptoRow : OpenClaim := { program := "ytajpnohhahffbaa", sum := "619e25f7541135cf50e0a002af521361e35a128489b4421a543889b4899580d7", func := "twain/twainlaw23.ClashVerdicts", spec := "clashVerdicts", unfollowed := true, recurses := true, apart := false, narrowed := true }
def ClashVerdictsUptoSaid : Prop := clashVerdictsUptoRow.holds Try.pinned (OpenSpec.upto clashVerdictsSpec)

/-- 'twainlaw28.RequestChecks', WHERE WHAT IT READS IS OF BULK AT MOST 1048576: true; the input reads as it did. -/
def requestChecksUptoRow : OpenClaim := { program := "ytajpnohhahffbaa", sum := "619e25f7541135cf50e0a002af521361e35a128489b4421a543889b4899580d7", func := "twain/twainlaw28.RequestChecks", spec := "requestChecks", apart := false, narrowed := true }
def RequestChecksUptoSaid : Prop := requestChecksUptoRow.holds Try.pinned (OpenSpec.upto requestChecksSpec)

end Rows
end Go.Proofs.Ytajpnohhahffbaa
