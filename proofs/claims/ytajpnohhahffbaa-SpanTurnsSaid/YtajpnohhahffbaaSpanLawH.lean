/-
  The statements of layer 4 as plain facts.
-/
import Derived.Test.YtajpnohhahffbaaSpanPure
import Derived.Test.YtajpnohhahffbaaSpanx6
namespace Go.Proofs.Ytajpnohhahffbaa.SpanLaws
open Go.RowKit Go.Proofs.Ytajpnohhahffbaa.Span Go.Proofs.Ytajpnohhahffbaa.SpanBP Go.Proofs.Ytajpnohhahffbaa.BitsPlain Go.Proofs.Ytajpnohhahffbaa.SpanPure Go.Proofs.YtajpnohhahffbaaW.PrintWords Go.Proofs.YtajpnohhahffbaaW.PrintMore
theorem holds_p (ao al bo bl : Int) : span_Holds.f ao al bo bl = some (meetB ao al bo bl && ((meetN ao al bo bl).1 == bo && (meetN ao al bo bl).2.1 == bl)) := by
  unfold span_Holds.f
  rw [meet_p, Option.bind_some, meetN_ok]
  cases meetB ao al bo bl <;> simp
theorem ref_holds_p (ao al bo bl : Int) (k : Nat) (hk : 2 ≤ k) : twainref04_Holds.f k ao al bo bl = some (meetB ao al bo bl && ((meetN ao al bo bl).1 == bo && (meetN ao al bo bl).2.1 == bl)) := by
  unfold twainref04_Holds.f
  rw [ref_meet_p _ _ _ _ k hk, Option.bind_some, meetN_ok]
  cases meetB ao al bo bl <;> simp
theorem overlap_p (ao al bo bl : Int) : span_Overlap.f ao al bo bl = some (meetB ao al bo bl) := by
  unfold span_Overlap.f
  rw [meet_p, Option.bind_some, meetN_ok]
end Go.Proofs.Ytajpnohhahffbaa.SpanLaws
