/-
  The statements of layer 4 as plain facts.
-/
import Derived.Test.YtajpnohhahffbaaSpanPure
import Derived.Test.YtajpnohhahffbaaSpanLawH
import Derived.Test.YtajpnohhahffbaaSpanx7
namespace Go.Proofs.Ytajpnohhahffbaa.SpanLaws
open Go.RowKit Go.Proofs.Ytajpnohhahffbaa.Span Go.Proofs.Ytajpnohhahffbaa.SpanBP Go.Proofs.Ytajpnohhahffbaa.BitsPlain Go.Proofs.Ytajpnohhahffbaa.SpanPure Go.Proofs.YtajpnohhahffbaaW.PrintWords Go.Proofs.YtajpnohhahffbaaW.PrintMore
theorem SpanMeets (ao al bo bl : Int) : twainlaw04_SpanMeets.f 300 ao al bo bl = some true := by
  unfold twainlaw04_SpanMeets.f
  rw [meet_p, Option.bind_some, ref_meet_p _ _ _ _ 300 (by omega), Option.bind_some, if_pos (by simp), if_pos (by simp), overlap_p, Option.bind_some, meetN_ok, if_pos (by simp), holds_p, Option.bind_some, ref_holds_p _ _ _ _ 300 (by omega), Option.bind_some, if_pos (by simp), lives_p 300 (by omega)]
  rfl
end Go.Proofs.Ytajpnohhahffbaa.SpanLaws
