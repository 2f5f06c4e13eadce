/-
  No cell of these rows narrows 'for every input' (looked for: loops, veiled, ifaces, maps, wideKeys, modest, calm, conditions, laid).
  DERIVED. THE GIVEN ROWS OF THIS SEAT. 12 by the template 'for every input the law returns true; each argument reads behind the call as it read before'; 0 by the template 'total and deterministic' (their statements: YtafgaekpmnheoaaTotals.lean).
  GIVEN WITH THE SEED: the statements are not yours to turn. If you find one false, say at which input.
  Laid BY PROGRAM, IN A SANDBOX (cutbox-rows.mjs): the forced cells as the released guide's own fill.sh prints them over the translation f29ff387c73140c0… (all of the seat's roots in one cut). By AI agents, Wed Nov 11 2026. No macro, syntax, notation, axiom, sorry.
-/
import Derived.Test.YtafgaekpmnheoaaChecked
import GoSem.Claim
import GoSem.ClaimJoined
import GoSem.ClaimMapViews
import Derived.JoinedTies
import Derived.KernelRfl
namespace Go.Proofs.Ytafgaekpmnheoaa
/- THE CELL 'sum', in the pinned program and in every row, IS THE sha256 OF THE DUMP (.gsa) THAT YtafgaekpmnheoaaProg.lean LOADS. Nothing in Lean hashes anything: it is a label: what it is worth is what the hold of that sum in a sandbox is worth. -/
noncomputable def Try.pinned : Pinned := { name := "ytafgaekpmnheoaa", sum := "f29ff387c73140c00bc1ba3fbf8dbad4cd9a3ba3908c5a142990bed412439ccd", checked := Try.checked }
namespace Rows
def none {H : Type} : Left H := { results := [], args := [] }

/-- 'twainlaw20.InboxTakes': WHATEVER THE INPUT: true; the input reads as it did. -/
def inboxTakesSpec : ChangeSpec := { name := "inboxTakes", fn := fun _ => fun
  | [d] => { results := [.lit (.bool true)], args := [d] }
  | _ => none }
def inboxTakesRow : OpenClaim := { program := "ytafgaekpmnheoaa", sum := "f29ff387c73140c00bc1ba3fbf8dbad4cd9a3ba3908c5a142990bed412439ccd", func := "twain/twainlaw20.InboxTakes", spec := "inboxTakes", unfollowed := true, recurses := true, apart := false }
def InboxTakesSaid : Prop := inboxTakesRow.holds Try.pinned (OpenSpec.ofChange inboxTakesSpec)

/-- ITS FALSE NEIGHBOUR: 'it returns false'. Refute it at one input. -/
def inboxTakesWrong : ChangeSpec := { name := "inboxTakes", fn := fun _ => fun
  | [d] => { results := [.lit (.bool false)], args := [d] }
  | _ => none }
def InboxTakesWrongFalsely : Prop := inboxTakesRow.holds Try.pinned (OpenSpec.ofChange inboxTakesWrong)

/-- 'twainlaw20.InboxOnce': WHATEVER THE INPUT: true; the input reads as it did. -/
def inboxOnceSpec : ChangeSpec := { name := "inboxOnce", fn := fun _ => fun
  | [d] => { results := [.lit (.bool true)], args := [d] }
  | _ => none }
def inboxOnceRow : OpenClaim := { program := "ytafgaekpmnheoaa", sum := "f29ff387c73140c00bc1ba3fbf8dbad4cd9a3ba3908c5a142990bed412439ccd", func := "twain/twainlaw20.InboxOnce", spec := "inboxOnce", unfollowed := true, recurses := true, apart := false }
def InboxOnceSaid : Prop := inboxOnceRow.holds Try.pinned (OpenSpec.ofChange inboxOnceSpec)

/-- ITS FALSE NEIGHBOUR: 'it returns false'. Refute it at one input. -/
def inboxOnceWrong : ChangeSpec := { name := "inboxOnce", fn := fun _ => fun
  | [d] => { results := [.lit (.bool false)], args := [d] }
  | _ => none }
def InboxOnceWrongFalsely : Prop := inboxOnceRow.holds Try.pinned (OpenSpec.ofChange inboxOnceWrong)

/-- 'twainlaw20.InboxNone': WHATEVER THE INPUT: true; the input reads as it did. -/
def inboxNoneSpec : ChangeSpec := { name := "inboxNone", fn := fun _ => fun
  | [d] => { results := [.lit (.bool true)], args := [d] }
  | _ => none }
def inboxNoneRow : OpenClaim := { program := "ytafgaekpmnheoaa", sum := "f29ff387c73140c00bc1ba3fbf8dbad4cd9a3ba3908c5a142990bed412439ccd", func := "twain/twainlaw20.InboxNone", spec := "inboxNone", unfollowed := true, recurses := true, apart := false }
def InboxNoneSaid : Prop := inboxNoneRow.holds Try.pinned (OpenSpec.ofChange inboxNoneSpec)

/-- ITS FALSE NEIGHBOUR: 'it returns false'. Refute it at one input. -/
def inboxNoneWrong : ChangeSpec := { name := "inboxNone", fn := fun _ => fun
  | [d] => { results := [.lit (.bool false)], args := [d] }
  | _ => none }
def InboxNoneWrongFalsely : Prop := inboxNoneRow.holds Try.pinned (OpenSpec.ofChange inboxNoneWrong)

/-- 'twainlaw21.KeepActs': WHATEVER THE INPUT: true; the input reads as it did. -/
def keepActsSpec : ChangeSpec := { name := "keepActs", fn := fun _ => fun
  | [d1, d2] => { results := [.lit (.bool true)], args := [d1, d2] }
  | _ => none }
def keepActsRow : OpenClaim := { program := "ytafgaekpmnheoaa", sum := "f29ff387c73140c00bc1ba3fbf8dbad4cd9a3ba3908c5a142990bed412439ccd", func := "twain/twainlaw21.KeepActs", spec := "keepActs", unfollowed := true, recurses := true, apart := false }
def KeepActsSaid : Prop := keepActsRow.holds Try.pinned (OpenSpec.ofChange keepActsSpec)

/-- ITS FALSE NEIGHBOUR: 'it returns false'. Refute it at one input. -/
def keepActsWrong : ChangeSpec := { name := "keepActs", fn := fun _ => fun
  | [d1, d2] => { results := [.lit (.bool false)], args := [d1, d2] }
  | _ => none }
def KeepActsWrongFalsely : Prop := keepActsRow.holds Try.pinned (OpenSpec.ofChange keepActsWrong)

/-- 'twainlaw21.KeepWaits': WHATEVER THE INPUT: true; the input reads as it did. -/
def keepWaitsSpec : ChangeSpec := { name := "keepWaits", fn := fun _ => fun
  | [d1, d2] => { results := [.lit (.bool true)], args := [d1, d2] }
  | _ => none }
def keepWaitsRow : OpenClaim := { program := "ytafgaekpmnheoaa", sum := "f29ff387c73140c00bc1ba3fbf8dbad4cd9a3ba3908c5a142990bed412439ccd", func := "twain/twainlaw21.KeepWaits", spec := "keepWaits", unfollowed := true, recurses := true, apart := false }
def KeepWaitsSaid : Prop := keepWaitsRow.holds Try.pinned (OpenSpec.ofChange keepWaitsSpec)

/-- ITS FALSE NEIGHBOUR: 'it returns false'. Refute it at one input. -/
def keepWaitsWrong : ChangeSpec := { name := "keepWaits", fn := fun _ => fun
  | [d1, d2] => { results := [.lit (.bool false)], args := [d1, d2] }
  | _ => none }
def KeepWaitsWrongFalsely : Prop := keepWaitsRow.holds Try.pinned (OpenSpec.ofChange keepWaitsWrong)

/-- 'twainlaw21.KeepNone': WHATEVER THE INPUT: true; the input reads as it did. -/
def keepNoneSpec : ChangeSpec := { name := "keepNone", fn := fun _ => fun
  | [d] => { results := [.lit (.bool true)], args := [d] }
  | _ => none }
def keepNoneRow : OpenClaim := { program := "ytafgaekpmnheoaa", sum := "f29ff387c73140c00bc1ba3fbf8dbad4cd9a3ba3908c5a142990bed412439ccd", func := "twain/twainlaw21.KeepNone", spec := "keepNone", unfollowed := true, recurses := true, apart := false }
def KeepNoneSaid : Prop := keepNoneRow.holds Try.pinned (OpenSpec.ofChange keepNoneSpec)

/-- ITS FALSE NEIGHBOUR: 'it returns false'. Refute it at one input. -/
def keepNoneWrong : ChangeSpec := { name := "keepNone", fn := fun _ => fun
  | [d] => { results := [.lit (.bool false)], args := [d] }
  | _ => none }
def KeepNoneWrongFalsely : Prop := keepNoneRow.holds Try.pinned (OpenSpec.ofChange keepNoneWrong)

/-- 'twainlaw26.RoleTells': WHATEVER THE INPUT: true; the input reads as it did. -/
def roleTellsSpec : ChangeSpec := { name := "roleTells", fn := fun _ => fun
  | [d] => { results := [.lit (.bool true)], args := [d] }
  | _ => none }
def roleTellsRow : OpenClaim := { program := "ytafgaekpmnheoaa", sum := "f29ff387c73140c00bc1ba3fbf8dbad4cd9a3ba3908c5a142990bed412439ccd", func := "twain/twainlaw26.RoleTells", spec := "roleTells", apart := false }
def RoleTellsSaid : Prop := roleTellsRow.holds Try.pinned (OpenSpec.ofChange roleTellsSpec)

/-- ITS FALSE NEIGHBOUR: 'it returns false'. Refute it at one input. -/
def roleTellsWrong : ChangeSpec := { name := "roleTells", fn := fun _ => fun
  | [d] => { results := [.lit (.bool false)], args := [d] }
  | _ => none }
def RoleTellsWrongFalsely : Prop := roleTellsRow.holds Try.pinned (OpenSpec.ofChange roleTellsWrong)

/-- 'twainlaw26.RoleOne': WHATEVER THE INPUT: true; the input reads as it did. -/
def roleOneSpec : ChangeSpec := { name := "roleOne", fn := fun _ => fun
  | [d] => { results := [.lit (.bool true)], args := [d] }
  | _ => none }
def roleOneRow : OpenClaim := { program := "ytafgaekpmnheoaa", sum := "f29ff387c73140c00bc1ba3fbf8dbad4cd9a3ba3908c5a142990bed412439ccd", func := "twain/twainlaw26.RoleOne", spec := "roleOne", apart := false }
def RoleOneSaid : Prop := roleOneRow.holds Try.pinned (OpenSpec.ofChange roleOneSpec)

/-- ITS FALSE NEIGHBOUR: 'it returns false'. Refute it at one input. -/
def roleOneWrong : ChangeSpec := { name := "roleOne", fn := fun _ => fun
  | [d] => { results := [.lit (.bool false)], args := [d] }
  | _ => none }
def RoleOneWrongFalsely : Prop := roleOneRow.holds Try.pinned (OpenSpec.ofChange roleOneWrong)

/-- 'twainlaw03.CrcSums': WHATEVER THE INPUT: true; the input reads as it did. -/
def crcSumsSpec : ChangeSpec := { name := "crcSums", fn := fun _ => fun
  | [d1, d2] => { results := [.lit (.bool true)], args := [d1, d2] }
  | _ => none }
def crcSumsRow : OpenClaim := { program := "ytafgaekpmnheoaa", sum := "f29ff387c73140c00bc1ba3fbf8dbad4cd9a3ba3908c5a142990bed412439ccd", func := "twain/twainlaw03.CrcSums", spec := "crcSums", apart := false }
def CrcSumsSaid : Prop := crcSumsRow.holds Try.pinned (OpenSpec.ofChange crcSumsSpec)

/-- ITS FALSE NEIGHBOUR: 'it returns false'. Refute it at one input. -/
def crcSumsWrong : ChangeSpec := { name := "crcSums", fn := fun _ => fun
  | [d1, d2] => { results := [.lit (.bool false)], args := [d1, d2] }
  | _ => none }
def CrcSumsWrongFalsely : Prop := crcSumsRow.holds Try.pinned (OpenSpec.ofChange crcSumsWrong)

/-- 'twainlaw03.CrcSteps': WHATEVER THE INPUT: true; the input reads as it did. -/
def crcStepsSpec : ChangeSpec := { name := "crcSteps", fn := fun _ => fun
  | [d1, d2] => { results := [.lit (.bool true)], args := [d1, d2] }
  | _ => none }
def crcStepsRow : OpenClaim := { program := "ytafgaekpmnheoaa", sum := "f29ff387c73140c00bc1ba3fbf8dbad4cd9a3ba3908c5a142990bed412439ccd", func := "twain/twainlaw03.CrcSteps", spec := "crcSteps", apart := false }
def CrcStepsSaid : Prop := crcStepsRow.holds Try.pinned (OpenSpec.ofChange crcStepsSpec)

/-- ITS FALSE NEIGHBOUR: 'it returns false'. Refute it at one input. -/
def crcStepsWrong : ChangeSpec := { name := "crcSteps", fn := fun _ => fun
  | [d1, d2] => { results := [.lit (.bool false)], args := [d1, d2] }
  | _ => none }
def CrcStepsWrongFalsely : Prop := crcStepsRow.holds Try.pinned (OpenSpec.ofChange crcStepsWrong)

/-- 'twainlaw03.CrcMore': WHATEVER THE INPUT: true; the input reads as it did. -/
def crcMoreSpec : ChangeSpec := { name := "crcMore", fn := fun _ => fun
  | [d1, d2] => { results := [.lit (.bool true)], args := [d1, d2] }
  | _ => none }
def crcMoreRow : OpenClaim := { program := "ytafgaekpmnheoaa", sum := "f29ff387c73140c00bc1ba3fbf8dbad4cd9a3ba3908c5a142990bed412439ccd", func := "twain/twainlaw03.CrcMore", spec := "crcMore", apart := false }
def CrcMoreSaid : Prop := crcMoreRow.holds Try.pinned (OpenSpec.ofChange crcMoreSpec)

/-- ITS FALSE NEIGHBOUR: 'it returns false'. Refute it at one input. -/
def crcMoreWrong : ChangeSpec := { name := "crcMore", fn := fun _ => fun
  | [d1, d2] => { results := [.lit (.bool false)], args := [d1, d2] }
  | _ => none }
def CrcMoreWrongFalsely : Prop := crcMoreRow.holds Try.pinned (OpenSpec.ofChange crcMoreWrong)

/-- 'twainlaw03.CrcBurst': WHATEVER THE INPUT: true; the input reads as it did. -/
def crcBurstSpec : ChangeSpec := { name := "crcBurst", fn := fun _ => fun
  | [d1, d2, d3] => { results := [.lit (.bool true)], args := [d1, d2, d3] }
  | _ => none }
def crcBurstRow : OpenClaim := { program := "ytafgaekpmnheoaa", sum := "f29ff387c73140c00bc1ba3fbf8dbad4cd9a3ba3908c5a142990bed412439ccd", func := "twain/twainlaw03.CrcBurst", spec := "crcBurst", apart := false }
def CrcBurstSaid : Prop := crcBurstRow.holds Try.pinned (OpenSpec.ofChange crcBurstSpec)

/-- ITS FALSE NEIGHBOUR: 'it returns false'. Refute it at one input. -/
def crcBurstWrong : ChangeSpec := { name := "crcBurst", fn := fun _ => fun
  | [d1, d2, d3] => { results := [.lit (.bool false)], args := [d1, d2, d3] }
  | _ => none }
def CrcBurstWrongFalsely : Prop := crcBurstRow.holds Try.pinned (OpenSpec.ofChange crcBurstWrong)

/- THE SECOND FORM. 'bulk': how many values and letters a reading holds, each counted each time it is reached (what is shared counts as often as it is met; a slice's spare places count too). A statement '..UptoSaid' is the law's where the arguments, and the package variables that the reading takes, are together of bulk at most 1048576: NARROWER than '..Said'. Prove '..Said' where nothing that the law and all that it calls make is longer than what came in: it says more and counts as full. Else prove '..UptoSaid'. A law counts once. -/
mutual
def uptoBulk {H : Type} : DataW H → Nat
  | .lit (.string bytes) => bytes.length + 1
  | .lit _ => 1
  | .nil => 1
  | .ptr d => uptoBulk d + 1
  | .slice elems spare => uptoBulkAll elems + uptoBulkAll spare + 1
  | .agg parts => uptoBulkAll parts + 1
  | .iface _ d => uptoBulk d + 1
  | .map entries => uptoBulkEntries entries + 1
  | .held _ => 1
def uptoBulkAll {H : Type} : List (DataW H) → Nat
  | [] => 0
  | d :: r => uptoBulk d + uptoBulkAll r
def uptoBulkEntries {H : Type} : List (Lit × DataW H) → Nat
  | [] => 0
  | x :: r => uptoBulkEntry x + uptoBulkEntries r
def uptoBulkEntry {H : Type} : Lit × DataW H → Nat
  | (.string bytes, d) => bytes.length + uptoBulk d + 1
  | (_, d) => uptoBulk d + 1
 end
def uptoSmall : (H : Type) → List (DataW H) → Bool := fun _ ds => decide (uptoBulkAll ds ≤ 1048576)
def OpenSpec.upto (s : _root_.Go.ChangeSpec) : _root_.Go.OpenSpec := { _root_.Go.OpenSpec.ofChange s with cond := some uptoSmall }

/-- 'twainlaw20.InboxTakes', WHERE WHAT IT READS IS OF BULK AT MOST 1048576: true; the input reads as it did. -/
def inboxTakesUptoRow : OpenClaim := { program := "ytafgaekpmnheoaa", sum := "f29ff387c73140c00bc1ba3fbf8dbad4cd9a3ba3908c5a142990bed412439ccd", func := "twain/twainlaw20.InboxTakes", spec := "inboxTakes", unfollowed := true, recurses := true, apart := false, narrowed := true }
def InboxTakesUptoSaid : Prop := inboxTakesUptoRow.holds Try.pinned (OpenSpec.upto inboxTakesSpec)

/-- 'twainlaw20.InboxOnce', WHERE WHAT IT READS IS OF BULK AT MOST 1048576: true; the input reads as it did. -/
def inboxOnceUptoRow : OpenClaim := { program := "ytafgaekpmnheoaa", sum := "f29ff387c73140c00bc1ba3fbf8dbad4cd9a3ba3908c5a142990bed412439ccd", func := "twain/twainlaw20.InboxOnce", spec := "inboxOnce", unfollowed := true, recurses := true, apart := false, narrowed := true }
def InboxOnceUptoSaid : Prop := inboxOnceUptoRow.holds Try.pinned (OpenSpec.upto inboxOnceSpec)

/-- 'twainlaw20.InboxNone', WHERE WHAT IT READS IS OF BULK AT MOST 1048576: true; the input reads as it did. -/
def inboxNoneUptoRow : OpenClaim := { program := "ytafgaekpmnheoaa", sum := "f29ff387c73140c00bc1ba3fbf8dbad4cd9a3ba3908c5a142990bed412439ccd", func := "twain/twainlaw20.InboxNone", spec := "inboxNone", unfollowed := true, recurses := true, apart := false, narrowed := true }
def InboxNoneUptoSaid : Prop := inboxNoneUptoRow.holds Try.pinned (OpenSpec.upto inboxNoneSpec)

/-- 'twainlaw21.KeepActs', WHERE WHAT IT READS IS OF BULK AT MOST 1048576: true; the input reads as it did. -/
def keepActsUptoRow : OpenClaim := { program := "ytafgaekpmnheoaa", sum := "f29ff387c73140c00bc1ba3fbf8dbad4cd9a3ba3908c5a142990bed412439ccd", func := "twain/twainlaw21.KeepActs", spec := "keepActs", unfollowed := true, recurses := true, apart := false, narrowed := true }
def KeepActsUptoSaid : Prop := keepActsUptoRow.holds Try.pinned (OpenSpec.upto keepActsSpec)

/-- 'twainlaw21.KeepWaits', WHERE WHAT IT READS IS OF BULK AT MOST 1048576: true; the input reads as it did. -/
def keepWaitsUptoRow : OpenClaim := { program := "ytafgaekpmnheoaa", sum := "f29ff387c73140c00bc1ba3fbf8dbad4cd9a3ba3908c5a142990bed412439ccd", func := "twain/twainlaw21.KeepWaits", spec := "keepWaits", unfollowed := true, recurses := true, apart := false, narrowed := true }
def KeepWaitsUptoSaid : Prop := keepWaitsUptoRow.holds Try.pinned (OpenSpec.upto keepWaitsSpec)

/-- 'twainlaw21.KeepNone', WHERE WHAT IT READS IS OF BULK AT MOST 1048576: true; the input reads as it did. -/
def keepNoneUptoRow : OpenClaim := { program := "ytafgaekpmnheoaa", sum := "f29ff387c73140c00bc1ba3fbf8dbad4cd9a3ba3908c5a142990bed412439ccd", func := "twain/twainlaw21.KeepNone", spec := "keepNone", unfollowed := true, recurses := true, apart := false, narrowed := true }
def KeepNoneUptoSaid : Prop := keepNoneUptoRow.holds Try.pinned (OpenSpec.upto keepNoneSpec)

/-- 'twainlaw26.RoleTells', WHERE WHAT IT READS IS OF BULK AT MOST 1048576: true; the input reads as it did. -/
def roleTellsUptoRow : OpenClaim := { program := "ytafgaekpmnheoaa", sum := "f29ff387c73140c00bc1ba3fbf8dbad4cd9a3ba3908c5a142990bed412439ccd", func := "twain/twainlaw26.RoleTells", spec := "roleTells", apart := false, narrowed := true }
def RoleTellsUptoSaid : Prop := roleTellsUptoRow.holds Try.pinned (OpenSpec.upto roleTellsSpec)

/-- 'twainlaw26.RoleOne', WHERE WHAT IT READS IS OF BULK AT MOST 1048576: true; the input reads as it did. -/
def roleOneUptoRow : OpenClaim := { program := "ytafgaekpmnheoaa", sum := "f29ff387c73140c00bc1ba3fbf8dbad4cd9a3ba3908c5a142990bed412439ccd", func := "twain/twainlaw26.RoleOne", spec := "roleOne", apart := false, narrowed := true }
def RoleOneUptoSaid : Prop := roleOneUptoRow.holds Try.pinned (OpenSpec.upto roleOneSpec)

/-- 'twainlaw03.CrcSums', WHERE WHAT IT READS IS OF BULK AT MOST 1048576: true; the input reads as it did. -/
def crcSumsUptoRow : OpenClaim := { program := "ytafgaekpmnheoaa", sum := "f29ff387c73140c00bc1ba3fbf8dbad4cd9a3ba3908c5a142990bed412439ccd", func := "twain/twainlaw03.CrcSums", spec := "crcSums", apart := false, narrowed := true }
def CrcSumsUptoSaid : Prop := crcSumsUptoRow.holds Try.pinned (OpenSpec.upto crcSumsSpec)

/-- 'twainlaw03.CrcSteps', WHERE WHAT IT READS IS OF BULK AT MOST 1048576: true; the input reads as it did. -/
def crcStepsUptoRow : OpenClaim := { program := "ytafgaekpmnheoaa", sum := "f29ff387c73140c00bc1ba3fbf8dbad4cd9a3ba3908c5a142990bed412439ccd", func := "twain/twainlaw03.CrcSteps", spec := "crcSteps", apart := false, narrowed := true }
def CrcStepsUptoSaid : Prop := crcStepsUptoRow.holds Try.pinned (OpenSpec.upto crcStepsSpec)

/-- 'twainlaw03.CrcMore', WHERE WHAT IT READS IS OF BULK AT MOST 1048576: true; the input reads as it did. -/
def crcMoreUptoRow : OpenClaim := { program := "ytafgaekpmnheoaa", sum := "f29ff387c73140c00bc1ba3fbf8dbad4cd9a3ba3908c5a142990bed412439ccd", func := "twain/twainlaw03.CrcMore", spec := "crcMore", apart := false, narrowed := true }
def CrcMoreUptoSaid : Prop := crcMoreUptoRow.holds Try.pinned (OpenSpec.upto crcMoreSpec)

/-- 'twainlaw03.CrcBurst', WHERE WHAT IT READS IS OF BULK AT MOST 1048576: true; the input reads as it did. -/
def crcBurstUptoRow : OpenClaim := { program := "ytafgaekpmnheoaa", sum := "f29ff387c73140c00bc1ba3fbf8dbad4cd9a3ba3908c5a142990bed412439ccd", func := "twain/twainlaw03.CrcBurst", spec := "crcBurst", apart := false, narrowed := true }
def CrcBurstUptoSaid : Prop := crcBurstUptoRow.holds Try.pinned (OpenSpec.upto crcBurstSpec)

end Rows
end Go.Proofs.Ytafgaekpmnheoaa
