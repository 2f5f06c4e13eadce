/-
  No cell of these rows narrows 'for every input' (looked for: loops, veiled, ifaces, maps, wideKeys, modest, calm, conditions, laid).
  DERIVED. THE GIVEN ROWS OF THIS SEAT. 10 by the template 'for every input the law returns true; each argument reads behind the call as it read before'; 0 by the template 'total and deterministic' (their statements: YtoobbolaoldacaaTotals.lean).
  GIVEN WITH THE SEED: the statements are not yours to turn. If you find one false, say at which input.
  Laid BY PROGRAM, IN A SANDBOX (cutbox-rows.mjs): the forced cells as the released guide's own fill.sh prints them over the translation ea8d181f42e9ad51… (all of the seat's roots in one cut). By AI agents, Wed Nov 11 2026. No macro, syntax, notation, axiom, sorry.
-/
import Derived.Test.YtoobbolaoldacaaChecked
import GoSem.Claim
import GoSem.ClaimJoined
import GoSem.ClaimMapViews
import Derived.JoinedTies
import Derived.KernelRfl
namespace Go.Proofs.Ytoobbolaoldacaa
/- THE CELL 'sum', in the pinned program and in every row, IS THE sha256 OF THE DUMP (.gsa) THAT YtoobbolaoldacaaProg.lean LOADS. Nothing in Lean hashes anything: it is a label: what it is worth is what the hold of that sum in a sandbox is worth. -/
noncomputable def Try.pinned : Pinned := { name := "ytoobbolaoldacaa", sum := "ea8d181f42e9ad51c3c5e8d0ee049c3362c45e12d57d8da80ae37964931f21f0", checked := Try.checked }
namespace Rows
def none {H : Type} : Left H := { results := [], args := [] }

/-- 'twainlaw25.LaterOrder': WHATEVER THE INPUT: true; the input reads as it did. -/
def laterOrderSpec : ChangeSpec := { name := "laterOrder", fn := fun _ => fun
  | [d] => { results := [.lit (.bool true)], args := [d] }
  | _ => none }
def laterOrderRow : OpenClaim := { program := "ytoobbolaoldacaa", sum := "ea8d181f42e9ad51c3c5e8d0ee049c3362c45e12d57d8da80ae37964931f21f0", func := "twain/twainlaw25.LaterOrder", spec := "laterOrder", unfollowed := true, recurses := true, apart := false }
def LaterOrderSaid : Prop := laterOrderRow.holds Try.pinned (OpenSpec.ofChange laterOrderSpec)

/-- ITS FALSE NEIGHBOUR: 'it returns false'. Refute it at one input. -/
def laterOrderWrong : ChangeSpec := { name := "laterOrder", fn := fun _ => fun
  | [d] => { results := [.lit (.bool false)], args := [d] }
  | _ => none }
def LaterOrderWrongFalsely : Prop := laterOrderRow.holds Try.pinned (OpenSpec.ofChange laterOrderWrong)

/-- 'twainlaw09.HotKeeps': WHATEVER THE INPUT: true; the input reads as it did. -/
def hotKeepsSpec : ChangeSpec := { name := "hotKeeps", fn := fun _ => fun
  | [d1, d2] => { results := [.lit (.bool true)], args := [d1, d2] }
  | _ => none }
def hotKeepsRow : OpenClaim := { program := "ytoobbolaoldacaa", sum := "ea8d181f42e9ad51c3c5e8d0ee049c3362c45e12d57d8da80ae37964931f21f0", func := "twain/twainlaw09.HotKeeps", spec := "hotKeeps", unfollowed := true, recurses := true, apart := false }
def HotKeepsSaid : Prop := hotKeepsRow.holds Try.pinned (OpenSpec.ofChange hotKeepsSpec)

/-- ITS FALSE NEIGHBOUR: 'it returns false'. Refute it at one input. -/
def hotKeepsWrong : ChangeSpec := { name := "hotKeeps", fn := fun _ => fun
  | [d1, d2] => { results := [.lit (.bool false)], args := [d1, d2] }
  | _ => none }
def HotKeepsWrongFalsely : Prop := hotKeepsRow.holds Try.pinned (OpenSpec.ofChange hotKeepsWrong)

/-- 'twainlaw25.LaterActs': WHATEVER THE INPUT: true; the input reads as it did. -/
def laterActsSpec : ChangeSpec := { name := "laterActs", fn := fun _ => fun
  | [d1, d2] => { results := [.lit (.bool true)], args := [d1, d2] }
  | _ => none }
def laterActsRow : OpenClaim := { program := "ytoobbolaoldacaa", sum := "ea8d181f42e9ad51c3c5e8d0ee049c3362c45e12d57d8da80ae37964931f21f0", func := "twain/twainlaw25.LaterActs", spec := "laterActs", unfollowed := true, recurses := true, apart := false }
def LaterActsSaid : Prop := laterActsRow.holds Try.pinned (OpenSpec.ofChange laterActsSpec)

/-- ITS FALSE NEIGHBOUR: 'it returns false'. Refute it at one input. -/
def laterActsWrong : ChangeSpec := { name := "laterActs", fn := fun _ => fun
  | [d1, d2] => { results := [.lit (.bool false)], args := [d1, d2] }
  | _ => none }
def LaterActsWrongFalsely : Prop := laterActsRow.holds Try.pinned (OpenSpec.ofChange laterActsWrong)

/-- 'twainlaw25.LaterNone': WHATEVER THE INPUT: true; the input reads as it did. -/
def laterNoneSpec : ChangeSpec := { name := "laterNone", fn := fun _ => fun
  | [d] => { results := [.lit (.bool true)], args := [d] }
  | _ => none }
def laterNoneRow : OpenClaim := { program := "ytoobbolaoldacaa", sum := "ea8d181f42e9ad51c3c5e8d0ee049c3362c45e12d57d8da80ae37964931f21f0", func := "twain/twainlaw25.LaterNone", spec := "laterNone", unfollowed := true, recurses := true, apart := false }
def LaterNoneSaid : Prop := laterNoneRow.holds Try.pinned (OpenSpec.ofChange laterNoneSpec)

/-- ITS FALSE NEIGHBOUR: 'it returns false'. Refute it at one input. -/
def laterNoneWrong : ChangeSpec := { name := "laterNone", fn := fun _ => fun
  | [d] => { results := [.lit (.bool false)], args := [d] }
  | _ => none }
def LaterNoneWrongFalsely : Prop := laterNoneRow.holds Try.pinned (OpenSpec.ofChange laterNoneWrong)

/-- 'twainlaw09.HotActs': WHATEVER THE INPUT: true; the input reads as it did. -/
def hotActsSpec : ChangeSpec := { name := "hotActs", fn := fun _ => fun
  | [d1, d2] => { results := [.lit (.bool true)], args := [d1, d2] }
  | _ => none }
def hotActsRow : OpenClaim := { program := "ytoobbolaoldacaa", sum := "ea8d181f42e9ad51c3c5e8d0ee049c3362c45e12d57d8da80ae37964931f21f0", func := "twain/twainlaw09.HotActs", spec := "hotActs", unfollowed := true, recurses := true, apart := false }
def HotActsSaid : Prop := hotActsRow.holds Try.pinned (OpenSpec.ofChange hotActsSpec)

/-- ITS FALSE NEIGHBOUR: 'it returns false'. Refute it at one input. -/
def hotActsWrong : ChangeSpec := { name := "hotActs", fn := fun _ => fun
  | [d1, d2] => { results := [.lit (.bool false)], args := [d1, d2] }
  | _ => none }
def HotActsWrongFalsely : Prop := hotActsRow.holds Try.pinned (OpenSpec.ofChange hotActsWrong)

/-- 'twainlaw09.HotNone': WHATEVER THE INPUT: true; the input reads as it did. -/
def hotNoneSpec : ChangeSpec := { name := "hotNone", fn := fun _ => fun
  | [d] => { results := [.lit (.bool true)], args := [d] }
  | _ => none }
def hotNoneRow : OpenClaim := { program := "ytoobbolaoldacaa", sum := "ea8d181f42e9ad51c3c5e8d0ee049c3362c45e12d57d8da80ae37964931f21f0", func := "twain/twainlaw09.HotNone", spec := "hotNone", unfollowed := true, recurses := true, apart := false }
def HotNoneSaid : Prop := hotNoneRow.holds Try.pinned (OpenSpec.ofChange hotNoneSpec)

/-- ITS FALSE NEIGHBOUR: 'it returns false'. Refute it at one input. -/
def hotNoneWrong : ChangeSpec := { name := "hotNone", fn := fun _ => fun
  | [d] => { results := [.lit (.bool false)], args := [d] }
  | _ => none }
def HotNoneWrongFalsely : Prop := hotNoneRow.holds Try.pinned (OpenSpec.ofChange hotNoneWrong)

/-- 'twainlaw41.DiceThrows': WHATEVER THE INPUT: true; the input reads as it did. -/
def diceThrowsSpec : ChangeSpec := { name := "diceThrows", fn := fun _ => fun
  | [d1, d2, d3] => { results := [.lit (.bool true)], args := [d1, d2, d3] }
  | _ => none }
def diceThrowsRow : OpenClaim := { program := "ytoobbolaoldacaa", sum := "ea8d181f42e9ad51c3c5e8d0ee049c3362c45e12d57d8da80ae37964931f21f0", func := "twain/twainlaw41.DiceThrows", spec := "diceThrows", inPlace := ["internal/bytealg.MakeNoZero"], apart := false }
def DiceThrowsSaid : Prop := diceThrowsRow.holds Try.pinned (OpenSpec.ofChange diceThrowsSpec)

/-- ITS FALSE NEIGHBOUR: 'it returns false'. Refute it at one input. -/
def diceThrowsWrong : ChangeSpec := { name := "diceThrows", fn := fun _ => fun
  | [d1, d2, d3] => { results := [.lit (.bool false)], args := [d1, d2, d3] }
  | _ => none }
def DiceThrowsWrongFalsely : Prop := diceThrowsRow.holds Try.pinned (OpenSpec.ofChange diceThrowsWrong)

/-- 'twainlaw41.DiceNone': WHATEVER THE INPUT: true; the input reads as it did. -/
def diceNoneSpec : ChangeSpec := { name := "diceNone", fn := fun _ => fun
  | [d1, d2, d3] => { results := [.lit (.bool true)], args := [d1, d2, d3] }
  | _ => none }
def diceNoneRow : OpenClaim := { program := "ytoobbolaoldacaa", sum := "ea8d181f42e9ad51c3c5e8d0ee049c3362c45e12d57d8da80ae37964931f21f0", func := "twain/twainlaw41.DiceNone", spec := "diceNone", inPlace := ["internal/bytealg.MakeNoZero"], apart := false }
def DiceNoneSaid : Prop := diceNoneRow.holds Try.pinned (OpenSpec.ofChange diceNoneSpec)

/-- ITS FALSE NEIGHBOUR: 'it returns false'. Refute it at one input. -/
def diceNoneWrong : ChangeSpec := { name := "diceNone", fn := fun _ => fun
  | [d1, d2, d3] => { results := [.lit (.bool false)], args := [d1, d2, d3] }
  | _ => none }
def DiceNoneWrongFalsely : Prop := diceNoneRow.holds Try.pinned (OpenSpec.ofChange diceNoneWrong)

/-- 'twainlaw41.DiceKinds': WHATEVER THE INPUT: true; the input reads as it did. -/
def diceKindsSpec : ChangeSpec := { name := "diceKinds", fn := fun _ => fun
  | [d1, d2, d3] => { results := [.lit (.bool true)], args := [d1, d2, d3] }
  | _ => none }
def diceKindsRow : OpenClaim := { program := "ytoobbolaoldacaa", sum := "ea8d181f42e9ad51c3c5e8d0ee049c3362c45e12d57d8da80ae37964931f21f0", func := "twain/twainlaw41.DiceKinds", spec := "diceKinds", inPlace := ["internal/bytealg.MakeNoZero"], apart := false }
def DiceKindsSaid : Prop := diceKindsRow.holds Try.pinned (OpenSpec.ofChange diceKindsSpec)

/-- ITS FALSE NEIGHBOUR: 'it returns false'. Refute it at one input. -/
def diceKindsWrong : ChangeSpec := { name := "diceKinds", fn := fun _ => fun
  | [d1, d2, d3] => { results := [.lit (.bool false)], args := [d1, d2, d3] }
  | _ => none }
def DiceKindsWrongFalsely : Prop := diceKindsRow.holds Try.pinned (OpenSpec.ofChange diceKindsWrong)

/-- 'twainlaw41.DiceScripts': WHATEVER THE INPUT: true; the input reads as it did. -/
def diceScriptsSpec : ChangeSpec := { name := "diceScripts", fn := fun _ => fun
  | [d1, d2] => { results := [.lit (.bool true)], args := [d1, d2] }
  | _ => none }
def diceScriptsRow : OpenClaim := { program := "ytoobbolaoldacaa", sum := "ea8d181f42e9ad51c3c5e8d0ee049c3362c45e12d57d8da80ae37964931f21f0", func := "twain/twainlaw41.DiceScripts", spec := "diceScripts", inPlace := ["internal/bytealg.MakeNoZero"], unfollowed := true, recurses := true, apart := false }
def DiceScriptsSaid : Prop := diceScriptsRow.holds Try.pinned (OpenSpec.ofChange diceScriptsSpec)

/-- ITS FALSE NEIGHBOUR: 'it returns false'. Refute it at one input. -/
def diceScriptsWrong : ChangeSpec := { name := "diceScripts", fn := fun _ => fun
  | [d1, d2] => { results := [.lit (.bool false)], args := [d1, d2] }
  | _ => none }
def DiceScriptsWrongFalsely : Prop := diceScriptsRow.holds Try.pinned (OpenSpec.ofChange diceScriptsWrong)

/- THE SECOND FORM. 'bulk': how many values and letters a reading holds, each counted each time it is reached (what is shared counts as often as it is met; a slice's spare places count too). A statement '..UptoSaid' is the law's where the arguments, and the package variables that the reading takes, are together of bulk at most 1048576: NARROWER than '..Said'. Prove '..Said' where nothing that the law and all that it calls make is longer than what came in: it says more and counts as full. Else prove '..UptoSaid'. A law counts once. -/
mutual
def uptoBulk {H : Type} : DataW H → Nat
  | .lit (.string bytes) => bytes.length + 1
  | .lit _ => 1
  | .nil => 1
  | .ptr d => uptoBulk d + 1
  | .slice elems spare => uptoBulkAll elems + uptoBulkAll spare + 1
  | .agg parts => uptoBulkAll parts + 1
  | .iface _ d => uptoBulk d + 1
  | .map entries => uptoBulkEntries entries + 1
  | .held _ => 1
def uptoBulkAll {H : Type} : List (DataW H) → Nat
  | [] => 0
  | d :: r => uptoBulk d + uptoBulkAll r
def uptoBulkEntries {H : Type} : List (Lit × DataW H) → Nat
  | [] => 0
  | x :: r => uptoBulkEntry x + uptoBulkEntries r
def uptoBulkEntry {H : Type} : Lit × DataW H → Nat
  | (.string bytes, d) => bytes.length + uptoBulk d + 1
  | (_, d) => uptoBulk d + 1
 end
def uptoSmall : (H : Type) → List (DataW H) → Bool := fun _ ds => decide (uptoBulkAll ds ≤ 1048576)
def OpenSpec.upto (s : _root_.Go.ChangeSpec) : _root_.Go.OpenSpec := { _root_.Go.OpenSpec.ofChange s with cond := some uptoSmall }

/-- 'twainlaw25.LaterOrder', WHERE WHAT IT READS IS OF BULK AT MOST 1048576: true; the input reads as it did. -/
def laterOrderUptoRow : OpenClaim := { program := "ytoobbolaoldacaa", sum := "ea8d181f42e9ad51c3c5e8d0ee049c3362c45e12d57d8da80ae37964931f21f0", func := "twain/twainlaw25.LaterOrder", spec := "laterOrder", unfollowed := true, recurses := true, apart := false, narrowed := true }
def LaterOrderUptoSaid : Prop := laterOrderUptoRow.holds Try.pinned (OpenSpec.upto laterOrderSpec)

/-- 'twainlaw09.HotKeeps', WHERE WHAT IT READS IS OF BULK AT MOST 1048576: true; the input reads as it did. -/
def hotKeepsUptoRow : OpenClaim := { program := "ytoobbolaoldacaa", sum := "ea8d181f42e9ad51c3c5e8d0ee049c3362c45e12d57d8da80ae37964931f21f0", func := "twain/twainlaw09.HotKeeps", spec := "hotKeeps", unfollowed := true, recurses := true, apart := false, narrowed := true }
def HotKeepsUptoSaid : Prop := hotKeepsUptoRow.holds Try.pinned (OpenSpec.upto hotKeepsSpec)

/-- 'twainlaw25.LaterActs', WHERE WHAT IT READS IS OF BULK AT MOST 1048576: true; the input reads as it did. -/
def laterActsUptoRow : OpenClaim := { program := "ytoobbolaoldacaa", sum := "ea8d181f42e9ad51c3c5e8d0ee049c3362c45e12d57d8da80ae37964931f21f0", func := "twain/twainlaw25.LaterActs", spec := "laterActs", unfollowed := true, recurses := true, apart := false, narrowed := true }
def LaterActsUptoSaid : Prop := laterActsUptoRow.holds Try.pinned (OpenSpec.upto laterActsSpec)

/-- 'twainlaw25.LaterNone', WHERE WHAT IT READS IS OF BULK AT MOST 1048576: true; the input reads as it did. -/
def laterNoneUptoRow : OpenClaim := { program := "ytoobbolaoldacaa", sum := "ea8d181f42e9ad51c3c5e8d0ee049c3362c45e12d57d8da80ae37964931f21f0", func := "twain/twainlaw25.LaterNone", spec := "laterNone", unfollowed := true, recurses := true, apart := false, narrowed := true }
def LaterNoneUptoSaid : Prop := laterNoneUptoRow.holds Try.pinned (OpenSpec.upto laterNoneSpec)

/-- 'twainlaw09.HotActs', WHERE WHAT IT READS IS OF BULK AT MOST 1048576: true; the input reads as it did. -/
def hotActsUptoRow : OpenClaim := { program := "ytoobbolaoldacaa", sum := "ea8d181f42e9ad51c3c5e8d0ee049c3362c45e12d57d8da80ae37964931f21f0", func := "twain/twainlaw09.HotActs", spec := "hotActs", unfollowed := true, recurses := true, apart := false, narrowed := true }
def HotActsUptoSaid : Prop := hotActsUptoRow.holds Try.pinned (OpenSpec.upto hotActsSpec)

/-- 'twainlaw09.HotNone', WHERE WHAT IT READS IS OF BULK AT MOST 1048576: true; the input reads as it did. -/
def hotNoneUptoRow : OpenClaim := { program := "ytoobbolaoldacaa", sum := "ea8d181f42e9ad51c3c5e8d0ee049c3362c45e12d57d8da80ae37964931f21f0", func := "twain/twainlaw09.HotNone", spec := "hotNone", unfollowed := true, recurses := true, apart := false, narrowed := true }
def HotNoneUptoSaid : Prop := hotNoneUptoRow.holds Try.pinned (OpenSpec.upto hotNoneSpec)

/-- 'twainlaw41.DiceThrows', WHERE WHAT IT READS IS OF BULK AT MOST 1048576: true; the input reads as it did. -/
def diceThrowsUptoRow : OpenClaim := { program := "ytoobbolaoldacaa", sum := "ea8d181f42e9ad51c3c5e8d0ee049c3362c45e12d57d8da80ae37964931f21f0", func := "twain/twainlaw41.DiceThrows", spec := "diceThrows", inPlace := ["internal/bytealg.MakeNoZero"], apart := false, narrowed := true }
def DiceThrowsUptoSaid : Prop := diceThrowsUptoRow.holds Try.pinned (OpenSpec.upto diceThrowsSpec)

/-- 'twainlaw41.DiceNone', WHERE WHAT IT READS IS OF BULK AT MOST 1048576: true; the input reads as it did. -/
def diceNoneUptoRow : OpenClaim := { program := "ytoobbolaoldacaa", sum := "ea8d181f42e9ad51c3c5e8d0ee049c3362c45e12d57d8da80ae37964931f21f0", func := "twain/twainlaw41.DiceNone", spec := "diceNone", inPlace := ["internal/bytealg.MakeNoZero"], apart := false, narrowed := true }
def DiceNoneUptoSaid : Prop := diceNoneUptoRow.holds Try.pinned (OpenSpec.upto diceNoneSpec)

/-- 'twainlaw41.DiceKinds', WHERE WHAT IT READS IS OF BULK AT MOST 1048576: true; the input reads as it did. -/
def diceKindsUptoRow : OpenClaim := { program := "ytoobbolaoldacaa", sum := "ea8d181f42e9ad51c3c5e8d0ee049c3362c45e12d57d8da80ae37964931f21f0", func := "twain/twainlaw41.DiceKinds", spec := "diceKinds", inPlace := ["internal/bytealg.MakeNoZero"], apart := false, narrowed := true }
def DiceKindsUptoSaid : Prop := diceKindsUptoRow.holds Try.pinned (OpenSpec.upto diceKindsSpec)

/-- 'twainlaw41.DiceScripts', WHERE WHAT IT READS IS OF BULK AT MOST 1048576: true; the input reads as it did. -/
def diceScriptsUptoRow : OpenClaim := { program := "ytoobbolaoldacaa", sum := "ea8d181f42e9ad51c3c5e8d0ee049c3362c45e12d57d8da80ae37964931f21f0", func := "twain/twainlaw41.DiceScripts", spec := "diceScripts", inPlace := ["internal/bytealg.MakeNoZero"], unfollowed := true, recurses := true, apart := false, narrowed := true }
def DiceScriptsUptoSaid : Prop := diceScriptsUptoRow.holds Try.pinned (OpenSpec.upto diceScriptsSpec)

end Rows
end Go.Proofs.Ytoobbolaoldacaa
