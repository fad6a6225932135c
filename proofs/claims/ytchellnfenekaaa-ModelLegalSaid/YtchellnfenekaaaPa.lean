/- What known answers; the kinds and events that go together: plain. -/
import Derived.Test.YtchellnfenekaaaPmFsentryref4_Legal
import Derived.Test.YtchellnfenekaaaGPlain
namespace Go.Proofs.Ytchellnfenekaaa.Pure
open Go.RowKit Go.Proofs.Ytchellnfenekaaa.Pm Go.Proofs.YtchellnfenekaaaW.PrintWords Go.Proofs.YtchellnfenekaaaW.PrintLast
theorem legal_true (k : Nat) (h : 2 ≤ k) (a b : Int) : model_Legal.f k a b = some (legalB a b) := at_rounds (fun k => model_Legal.mono a b k) h (legal_eq a b)
theorem refLegal3 (a b : Int) : sentryref4_Legal.f 3 a b = some (legalB a b) := by
  unfold sentryref4_Legal.f legalB
  by_cases h1 : a < 1
  · rw [if_pos h1]
    simp only [sentryref4_Legal.j0, if_true]
    by_cases h15 : b = 1 ∨ b = 5
    · rw [if_pos h15, decide_eq_false (by omega)]
    · rw [if_neg h15]
      by_cases h23 : b = 2 ∨ b = 3
      · rw [if_pos h23, decide_eq_false (by omega)]
      · rw [if_neg h23]
        by_cases h4 : b = 4
        · rw [if_pos h4, decide_eq_false (by omega)]
        · rw [if_neg h4]
  · rw [if_neg h1]
    by_cases h5 : a > 5
    · rw [decide_eq_true h5]
      simp only [sentryref4_Legal.j0, if_true]
      by_cases h15 : b = 1 ∨ b = 5
      · rw [if_pos h15, decide_eq_false (by omega)]
      · rw [if_neg h15]
        by_cases h23 : b = 2 ∨ b = 3
        · rw [if_pos h23, decide_eq_false (by omega)]
        · rw [if_neg h23]
          by_cases h4 : b = 4
          · rw [if_pos h4, decide_eq_false (by omega)]
          · rw [if_neg h4]
    · rw [decide_eq_false h5]
      simp only [sentryref4_Legal.j0, Bool.false_eq_true, if_false]
      by_cases e1 : b = 1
      · subst e1; simp [sentryref4_Legal.j1]; omega
      · rw [if_neg e1]
        by_cases e5 : b = 5
        · subst e5; simp [sentryref4_Legal.j1]; omega
        · rw [show (b == 5) = false by simpa using e5, if_neg (by omega)]
          simp only [sentryref4_Legal.j1, Bool.false_eq_true, if_false]
          by_cases e2 : b = 2
          · subst e2; simp [sentryref4_Legal.j2]; rw [Bool.eq_iff_iff]; simp; omega
          · rw [if_neg e2]
            by_cases e3 : b = 3
            · subst e3; simp [sentryref4_Legal.j2]; rw [Bool.eq_iff_iff]; simp; omega
            · rw [show (b == 3) = false by simpa using e3, if_neg (by omega)]
              simp only [sentryref4_Legal.j2, Bool.false_eq_true, if_false]
              by_cases e4 : b = 4
              · subst e4; simp; rw [Bool.eq_iff_iff]; simp; omega
              · simp [e4]
theorem refLegal_true (k : Nat) (h : 3 ≤ k) (a b : Int) : sentryref4_Legal.f k a b = some (legalB a b) := at_rounds (fun k => sentryref4_Legal.mono a b k) h (refLegal3 a b)
end Go.Proofs.Ytchellnfenekaaa.Pure
