/- The law ModelLegal: for every kind and event the program's answer is the document's. No condition. -/
import Derived.Test.YtchellnfenekaaaPmFsentrylaw4_ModelLegal
import Derived.Test.YtchellnfenekaaaPa
namespace Go.Proofs.Ytchellnfenekaaa.Pure
open Go.RowKit Go.Proofs.Ytchellnfenekaaa.Pm Go.Proofs.YtchellnfenekaaaW.PrintWords Go.Proofs.YtchellnfenekaaaW.PrintLast
theorem ModelLegal : sentrylaw4_ModelLegal.Pure := by
  intro a0 a1 _ _
  refine ⟨3, ?_⟩
  unfold sentrylaw4_ModelLegal.f
  rw [legal_true 3 (by omega), refLegal_true 3 (by omega)]
  simp [sentrylaw4_known.f]
end Go.Proofs.Ytchellnfenekaaa.Pure
