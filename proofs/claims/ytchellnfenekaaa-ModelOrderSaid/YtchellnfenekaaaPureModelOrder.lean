/- The law ModelOrder: for every two numbers the call answers true. No condition. -/
import Derived.Test.YtchellnfenekaaaPmFsentrylaw4_ModelOrder
namespace Go.Proofs.Ytchellnfenekaaa.Pure
open Go.RowKit Go.Proofs.Ytchellnfenekaaa.Pm Go.Proofs.YtchellnfenekaaaW.PrintWords Go.Proofs.YtchellnfenekaaaW.PrintLast
set_option maxRecDepth 1000000 in
theorem order_in : ∀ i < 8, ∀ j < 3, sentrylaw4_ModelOrder.f 20 (((i + 1 : Nat)) : Int) ((j : Nat) : Int) = some true := by decide +kernel
theorem ModelOrder : sentrylaw4_ModelOrder.Pure := by
  intro a0 a1 _ _
  refine ⟨20, ?_⟩
  by_cases h1 : a0 < 1
  · unfold sentrylaw4_ModelOrder.f; rw [if_pos h1]; rfl
  by_cases h2 : a0 > 8
  · unfold sentrylaw4_ModelOrder.f; rw [if_neg h1, if_pos h2]; rfl
  by_cases h3 : a1 < 0
  · unfold sentrylaw4_ModelOrder.f; rw [if_neg h1, if_neg h2, if_pos h3]; rfl
  by_cases h4 : a1 > 2
  · unfold sentrylaw4_ModelOrder.f; rw [if_neg h1, if_neg h2, if_neg h3, decide_eq_true h4]; rfl
  · have := order_in (a0.toNat - 1) (by omega) a1.toNat (by omega)
    rw [show ((a0.toNat - 1 + 1 : Nat) : Int) = a0 by omega, show ((a1.toNat : Nat) : Int) = a1 by omega] at this
    exact this
end Go.Proofs.Ytchellnfenekaaa.Pure
