/-
  The statements of layer 4 as plain facts.
-/
import Derived.Test.YtajpnohhahffbaaSpanPure
import Derived.Test.YtajpnohhahffbaaSpanx5
namespace Go.Proofs.Ytajpnohhahffbaa.SpanLaws
open Go.RowKit Go.Proofs.Ytajpnohhahffbaa.Span Go.Proofs.Ytajpnohhahffbaa.SpanBP Go.Proofs.Ytajpnohhahffbaa.BitsPlain Go.Proofs.Ytajpnohhahffbaa.SpanPure Go.Proofs.YtajpnohhahffbaaW.PrintWords Go.Proofs.YtajpnohhahffbaaW.PrintMore
theorem SpanTells (o l s e : Int) : twainlaw04_SpanTells.f 300 o l s e = some true := by
  unfold twainlaw04_SpanTells.f
  rw [plain_p, Option.bind_some, ref_plain_p, Option.bind_some, if_pos (by simp), end_p, Option.bind_some, ref_end_p, Option.bind_some, if_pos rfl, good_p, Option.bind_some, ref_good_p, Option.bind_some, if_pos (by simp), extents_p o l 300 (by omega), Option.bind_some, ref_extents_p o l 300 (by omega), Option.bind_some, if_pos rfl, whole_p, Option.bind_some, ref_whole_p, Option.bind_some, if_pos (by simp), lives_p 300 (by omega)]
  rfl
end Go.Proofs.Ytajpnohhahffbaa.SpanLaws
