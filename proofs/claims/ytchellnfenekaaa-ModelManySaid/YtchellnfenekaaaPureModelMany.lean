/- The law ModelMany: for every two numbers the call answers true. No condition. -/
import Derived.Test.YtchellnfenekaaaPmFsentrylaw4_ModelMany
namespace Go.Proofs.Ytchellnfenekaaa.Pure
open Go.RowKit Go.Proofs.Ytchellnfenekaaa.Pm Go.Proofs.YtchellnfenekaaaW.PrintWords Go.Proofs.YtchellnfenekaaaW.PrintLast
set_option maxRecDepth 1000000 in
theorem many_in : ∀ i < 21, ∀ j < 11, sentrylaw4_ModelMany.f 40 ((i : Nat) : Int) ((j : Nat) : Int) = some true := by decide +kernel
theorem ModelMany : sentrylaw4_ModelMany.Pure := by
  intro a0 a1 _ _
  refine ⟨40, ?_⟩
  by_cases h1 : a0 < 0
  · unfold sentrylaw4_ModelMany.f; rw [if_pos h1]; rfl
  by_cases h2 : a0 > 20
  · unfold sentrylaw4_ModelMany.f; rw [if_neg h1, if_pos h2]; rfl
  by_cases h3 : a1 < 0
  · unfold sentrylaw4_ModelMany.f; rw [if_neg h1, if_neg h2, if_pos h3]; rfl
  by_cases h4 : a1 > 10
  · unfold sentrylaw4_ModelMany.f; rw [if_neg h1, if_neg h2, if_neg h3, decide_eq_true h4]; rfl
  · have := many_in a0.toNat (by omega) a1.toNat (by omega)
    rw [show ((a0.toNat : Nat) : Int) = a0 by omega, show ((a1.toNat : Nat) : Int) = a1 by omega] at this
    exact this
end Go.Proofs.Ytchellnfenekaaa.Pure
