/- The law XlateFlags: for every input the call answers true, and the input reads as it did. No condition. (Walks and laws of several texts, merged, and what is not used struck, by a program.) -/
import Derived.Test.YteddgedacjdjgaaMXlateFlags0
import Derived.Test.YteddgedacjdjgaaMXlateFlags4
import Derived.Test.YteddgedacjdjgaaMXlateFlags1
import Derived.Laws.Strings
import Derived.Test.YteddgedacjdjgaaMXlateFlags2
import Derived.Lib.Hide
import Derived.Below
import Derived.ChangeOld
import Derived.ChangeSlices
import Derived.OpenShut
import Derived.ProofKit
import Derived.ShutString
import Derived.SizedLaws
import Derived.Test.YteddgedacjdjgaaRows
import Derived.WalkKit
section
namespace Go.Proofs.Yteddgedacjdjgaa.Pm
open Go.RowKit Go.Proofs.YteddgedacjdjgaaW.PrintWords Go.Proofs.YteddgedacjdjgaaW.PrintLast Go.Proofs.YteddgedacjdjgaaW.PrintMore
attribute [local go_sem] max2_int min2_int max_two min_two max_three min_three max_four min_four   -- for this text's walks alone
set_option linter.unusedVariables false
set_option linter.unusedSimpArgs false
attribute [local go_sem high] eqA90 eqA111
mutual
def q11.j0 : Nat → Bool → Int → List (S93) → List (S90) → List (S111) → Int → List (S93) → List (S90) → List (S111) → Option (Bool)
 | 0, _, _, _, _, _, _, _, _, _ => none
 | k + 1, x37, x233000, x233001, x233002, x233003, x234000, x234001, x234002, x234003 => if x37 = true then (some false) else (q11.l0 k 0 x233000 x233001 x233002 x233003 x234000 x234001 x234002 x234003)
def q11.l0 : Nat → Int → Int → List (S93) → List (S90) → List (S111) → Int → List (S93) → List (S90) → List (S111) → Option (Bool)
 | 0, _, _, _, _, _, _, _, _, _ => none
 | k + 1, x5, x233000, x233001, x233002, x233003, x234000, x234001, x234002, x234003 => if x5 < (x233002.length : Int) then (if 0 ≤ x5 then (if x5 < (x234002.length : Int) then (if (!((((q87 x233002 x5).f0).toList) == (((q87 x234002 x5).f0).toList)) || (!((((q87 x233002 x5).f1).toList) == (((q87 x234002 x5).f1).toList)) || (!(((q87 x233002 x5).f2) == ((q87 x234002 x5).f2))))) = true then (some false) else (q11.l0 k (wrap64 (x5 + 1)) x233000 x233001 x233002 x233003 x234000 x234001 x234002 x234003)) else (none)) else (none)) else (q11.l1 k 0 x233000 x233001 x233002 x233003 x234000 x234001 x234002 x234003)
def q11.l1 : Nat → Int → Int → List (S93) → List (S90) → List (S111) → Int → List (S93) → List (S90) → List (S111) → Option (Bool)
 | 0, _, _, _, _, _, _, _, _, _ => none
 | k + 1, x6, x233000, x233001, x233002, x233003, x234000, x234001, x234002, x234003 => if x6 < (x233003.length : Int) then (if 0 ≤ x6 then (if x6 < (x234003.length : Int) then (if (!(((q82 x233003 x6).f0) == ((q82 x234003 x6).f0)) || (!(((q82 x233003 x6).f1) == ((q82 x234003 x6).f1)))) = true then (some false) else (q11.l1 k (wrap64 (x6 + 1)) x233000 x233001 x233002 x233003 x234000 x234001 x234002 x234003)) else (none)) else (none)) else (some true)
end
def q11.f (k : Nat) (a0_0 : Int) (l0_1 : List (S93)) (l0_2 : List (S90)) (l0_3 : List (S111)) (a1_0 : Int) (l1_1 : List (S93)) (l1_2 : List (S90)) (l1_3 : List (S111)) : Option (Bool) := if a0_0 = a1_0 then ((q10.f k l0_1 l1_1).bind fun t234 => (if t234 = true then (if (l0_2.length : Int) = (l1_2.length : Int) then (q11.j0 k ((l0_3.length : Int) != (l1_3.length : Int)) a0_0 l0_1 l0_2 l0_3 a1_0 l1_1 l1_2 l1_3) else (q11.j0 k true a0_0 l0_1 l0_2 l0_3 a1_0 l1_1 l1_2 l1_3)) else (q11.j0 k true a0_0 l0_1 l0_2 l0_3 a1_0 l1_1 l1_2 l1_3))) else (q11.j0 k true a0_0 l0_1 l0_2 l0_3 a1_0 l1_1 l1_2 l1_3)
theorem q11.mono_l : ∀ k, (∀ y0 y1 y2 y3 y4 y5 y6 y7 y8, LeO (q11.j0 k y0 y1 y2 y3 y4 y5 y6 y7 y8) (q11.j0 (k + 1) y0 y1 y2 y3 y4 y5 y6 y7 y8)) ∧ (∀ y0 y1 y2 y3 y4 y5 y6 y7 y8, LeO (q11.l0 k y0 y1 y2 y3 y4 y5 y6 y7 y8) (q11.l0 (k + 1) y0 y1 y2 y3 y4 y5 y6 y7 y8)) ∧ (∀ y0 y1 y2 y3 y4 y5 y6 y7 y8, LeO (q11.l1 k y0 y1 y2 y3 y4 y5 y6 y7 y8) (q11.l1 (k + 1) y0 y1 y2 y3 y4 y5 y6 y7 y8))
 | 0 => ⟨fun _ _ _ _ _ _ _ _ _ r h => by simp [q11.j0] at h, fun _ _ _ _ _ _ _ _ _ r h => by simp [q11.l0] at h, fun _ _ _ _ _ _ _ _ _ r h => by simp [q11.l1] at h⟩
 | k + 1 => by
  obtain ⟨ih0, ih1, ih2⟩ := q11.mono_l k
  refine ⟨?_, ?_, ?_⟩
  intro y0 y1 y2 y3 y4 y5 y6 y7 y8
  unfold q11.j0
  rotate_left
  intro y0 y1 y2 y3 y4 y5 y6 y7 y8
  unfold q11.l0
  rotate_left
  intro y0 y1 y2 y3 y4 y5 y6 y7 y8
  unfold q11.l1
  rotate_left
  all_goals repeat' first
   | (with_reducible exact ih0 _ _ _ _ _ _ _ _ _)
   | (with_reducible exact ih1 _ _ _ _ _ _ _ _ _)
   | (with_reducible exact ih2 _ _ _ _ _ _ _ _ _)
   | (with_reducible exact q10.mono _ _ _)
   | (with_reducible exact LeO.refl _)
   | (with_reducible exact LeO.none _)
   | (with_reducible refine LeO.ite ?_ ?_)
   | (with_reducible refine LeO.bind ?_ (fun _ => ?_))
   | exact ih0 _ _ _ _ _ _ _ _ _
   | exact ih1 _ _ _ _ _ _ _ _ _
   | exact ih2 _ _ _ _ _ _ _ _ _
   | exact q10.mono _ _ _
   | exact LeO.none _
   | refine LeO.ite ?_ ?_
   | refine LeO.bind ?_ (fun _ => ?_)
theorem q11.mono : ∀ a0 a1 a2 a3 a4 a5 a6 a7 k, LeO (q11.f k a0 a1 a2 a3 a4 a5 a6 a7) (q11.f (k + 1) a0 a1 a2 a3 a4 a5 a6 a7) := by
 intro a0 a1 a2 a3 a4 a5 a6 a7 k
 obtain ⟨ih0, ih1, ih2⟩ := q11.mono_l k
 unfold q11.f
 repeat' first
  | (with_reducible exact ih0 _ _ _ _ _ _ _ _ _)
  | (with_reducible exact ih1 _ _ _ _ _ _ _ _ _)
  | (with_reducible exact ih2 _ _ _ _ _ _ _ _ _)
  | (with_reducible exact q10.mono _ _ _)
  | (with_reducible exact LeO.refl _)
  | (with_reducible exact LeO.none _)
  | (with_reducible refine LeO.ite ?_ ?_)
  | (with_reducible refine LeO.bind ?_ (fun _ => ?_))
  | exact ih0 _ _ _ _ _ _ _ _ _
  | exact ih1 _ _ _ _ _ _ _ _ _
  | exact ih2 _ _ _ _ _ _ _ _ _
  | exact q10.mono _ _ _
  | exact LeO.none _
  | refine LeO.ite ?_ ?_
  | refine LeO.bind ?_ (fun _ => ?_)
end Go.Proofs.Yteddgedacjdjgaa.Pm
end
section
namespace Go.Proofs.Yteddgedacjdjgaa.Pm
open Go.RowKit Go.Proofs.YteddgedacjdjgaaW.PrintWords Go.Proofs.YteddgedacjdjgaaW.PrintLast Go.Proofs.YteddgedacjdjgaaW.PrintMore
attribute [local go_sem] max2_int min2_int max_two min_two max_three min_three max_four min_four   -- for this text's walks alone
set_option linter.unusedVariables false
set_option linter.unusedSimpArgs false
attribute [local go_sem high] eqA90 eqA101
mutual
def q9.l0 : Nat → List (S45) → List (S45) → Int → Option (Bool)
 | 0, _, _, _ => none
 | k + 1, x0, x1, x5 => if x5 < (x0.length : Int) then (if 0 ≤ x5 then (if x5 < (x1.length : Int) then (if (((q85 x0 x5).f0).length : Int) = (((q85 x1 x5).f0).length : Int) then (q9.j1 k x0 x1 x5 ((((q85 x0 x5).f1).length : Int) != (((q85 x1 x5).f1).length : Int))) else (q9.j1 k x0 x1 x5 true)) else (none)) else (none)) else (some true)
def q9.j1 : Nat → List (S45) → List (S45) → Int → Bool → Option (Bool)
 | 0, _, _, _, _ => none
 | k + 1, x0, x1, x5, x46 => if x46 = true then (some false) else (q9.l1 k x0 x1 x5 0)
def q9.l1 : Nat → List (S45) → List (S45) → Int → Int → Option (Bool)
 | 0, _, _, _, _ => none
 | k + 1, x0, x1, x5, x6 => if 0 ≤ x5 then (if x5 < (x0.length : Int) then (if x6 < (((q85 x0 x5).f0).length : Int) then (if 0 ≤ x6 then (if x5 < (x1.length : Int) then (if x6 < (((q85 x1 x5).f0).length : Int) then (if (!((((q79 ((q85 x0 x5).f0) x6).f0).toList) == (((q79 ((q85 x1 x5).f0) x6).f0).toList)) || (!(((q79 ((q85 x0 x5).f0) x6).f1) == ((q79 ((q85 x1 x5).f0) x6).f1)))) = true then (some false) else (q9.l1 k x0 x1 x5 (wrap64 (x6 + 1)))) else (none)) else (none)) else (none)) else (q9.l2 k x0 x1 x5 0)) else (none)) else (none)
def q9.l2 : Nat → List (S45) → List (S45) → Int → Int → Option (Bool)
 | 0, _, _, _, _ => none
 | k + 1, x0, x1, x5, x7 => if 0 ≤ x5 then (if x5 < (x0.length : Int) then (if x7 < (((q85 x0 x5).f1).length : Int) then (if 0 ≤ x7 then (if x5 < (x1.length : Int) then (if x7 < (((q85 x1 x5).f1).length : Int) then (if (!((((q87 ((q85 x0 x5).f1) x7).f0).toList) == (((q87 ((q85 x1 x5).f1) x7).f0).toList)) || (!((((q87 ((q85 x0 x5).f1) x7).f1).toList) == (((q87 ((q85 x1 x5).f1) x7).f1).toList)) || (!(((q87 ((q85 x0 x5).f1) x7).f2) == ((q87 ((q85 x1 x5).f1) x7).f2))))) = true then (some false) else (q9.l2 k x0 x1 x5 (wrap64 (x7 + 1)))) else (none)) else (none)) else (none)) else (q9.l0 k x0 x1 (wrap64 (x5 + 1)))) else (none)) else (none)
end
def q9.f (k : Nat) (l0 : List (S45)) (l1 : List (S45)) : Option (Bool) := if (l0.length : Int) = (l1.length : Int) then (q9.l0 k l0 l1 0) else (some false)
theorem q9.mono_l : ∀ k, (∀ y0 y1 y2, LeO (q9.l0 k y0 y1 y2) (q9.l0 (k + 1) y0 y1 y2)) ∧ (∀ y0 y1 y2 y3, LeO (q9.j1 k y0 y1 y2 y3) (q9.j1 (k + 1) y0 y1 y2 y3)) ∧ (∀ y0 y1 y2 y3, LeO (q9.l1 k y0 y1 y2 y3) (q9.l1 (k + 1) y0 y1 y2 y3)) ∧ (∀ y0 y1 y2 y3, LeO (q9.l2 k y0 y1 y2 y3) (q9.l2 (k + 1) y0 y1 y2 y3))
 | 0 => ⟨fun _ _ _ r h => by simp [q9.l0] at h, fun _ _ _ _ r h => by simp [q9.j1] at h, fun _ _ _ _ r h => by simp [q9.l1] at h, fun _ _ _ _ r h => by simp [q9.l2] at h⟩
 | k + 1 => by
  obtain ⟨ih0, ih1, ih2, ih3⟩ := q9.mono_l k
  refine ⟨?_, ?_, ?_, ?_⟩
  intro y0 y1 y2
  unfold q9.l0
  rotate_left
  intro y0 y1 y2 y3
  unfold q9.j1
  rotate_left
  intro y0 y1 y2 y3
  unfold q9.l1
  rotate_left
  intro y0 y1 y2 y3
  unfold q9.l2
  rotate_left
  all_goals repeat' first
   | (with_reducible exact ih0 _ _ _)
   | (with_reducible exact ih1 _ _ _ _)
   | (with_reducible exact ih2 _ _ _ _)
   | (with_reducible exact ih3 _ _ _ _)
   | (with_reducible exact LeO.refl _)
   | (with_reducible exact LeO.none _)
   | (with_reducible refine LeO.ite ?_ ?_)
   | (with_reducible refine LeO.bind ?_ (fun _ => ?_))
   | exact ih0 _ _ _
   | exact ih1 _ _ _ _
   | exact ih2 _ _ _ _
   | exact ih3 _ _ _ _
   | exact LeO.none _
   | refine LeO.ite ?_ ?_
   | refine LeO.bind ?_ (fun _ => ?_)
theorem q9.mono : ∀ a0 a1 k, LeO (q9.f k a0 a1) (q9.f (k + 1) a0 a1) := by
 intro a0 a1 k
 obtain ⟨ih0, ih1, ih2, ih3⟩ := q9.mono_l k
 unfold q9.f
 repeat' first
  | (with_reducible exact ih0 _ _ _)
  | (with_reducible exact ih1 _ _ _ _)
  | (with_reducible exact ih2 _ _ _ _)
  | (with_reducible exact ih3 _ _ _ _)
  | (with_reducible exact LeO.refl _)
  | (with_reducible exact LeO.none _)
  | (with_reducible refine LeO.ite ?_ ?_)
  | (with_reducible refine LeO.bind ?_ (fun _ => ?_))
  | exact ih0 _ _ _
  | exact ih1 _ _ _ _
  | exact ih2 _ _ _ _
  | exact ih3 _ _ _ _
  | exact LeO.none _
  | refine LeO.ite ?_ ?_
  | refine LeO.bind ?_ (fun _ => ?_)
end Go.Proofs.Yteddgedacjdjgaa.Pm
end
section
namespace Go.Proofs.Yteddgedacjdjgaa.Pm
open Go.RowKit Go.Proofs.YteddgedacjdjgaaW.PrintWords Go.Proofs.YteddgedacjdjgaaW.PrintLast Go.Proofs.YteddgedacjdjgaaW.PrintMore
attribute [local go_sem] max2_int min2_int max_two min_two max_three min_three max_four min_four   -- for this text's walks alone
set_option linter.unusedVariables false
set_option linter.unusedSimpArgs false
def q15.f (k : Nat) (a0_0 : ByteArray) (a0_1 : Int) (a0_2 : ByteArray) (a0_3 : Bool) (a0_4 : Int) (l0_5 : List (S45)) (l0_6 : List (S45)) (a1_0 : ByteArray) (a1_1 : Int) (a1_2 : ByteArray) (a1_3 : Bool) (a1_4 : Int) (l1_5 : List (S45)) (l1_6 : List (S45)) : Option (Bool) := if a0_0.toList = a1_0.toList then (if a0_1 = a1_1 then (if a0_2.toList = a1_2.toList then (if (a0_3 == a1_3) = true then (if a0_4 = a1_4 then ((q9.f k l0_5 l1_5).bind fun t173 => (if t173 = true then ((q9.f k l0_6 l1_6).bind fun t174 => (some t174)) else (some false))) else (some false)) else (some false)) else (some false)) else (some false)) else (some false)
theorem q15.mono : ∀ a0 a1 a2 a3 a4 a5 a6 a7 a8 a9 a10 a11 a12 a13 k, LeO (q15.f k a0 a1 a2 a3 a4 a5 a6 a7 a8 a9 a10 a11 a12 a13) (q15.f (k + 1) a0 a1 a2 a3 a4 a5 a6 a7 a8 a9 a10 a11 a12 a13) := by
 intro a0 a1 a2 a3 a4 a5 a6 a7 a8 a9 a10 a11 a12 a13 k
 unfold q15.f
 repeat' first
  | (with_reducible exact q9.mono _ _ _)
  | (with_reducible exact LeO.refl _)
  | (with_reducible exact LeO.none _)
  | (with_reducible refine LeO.ite ?_ ?_)
  | (with_reducible refine LeO.bind ?_ (fun _ => ?_))
  | exact q9.mono _ _ _
  | exact LeO.none _
  | refine LeO.ite ?_ ?_
  | refine LeO.bind ?_ (fun _ => ?_)
def q12.l0 : Nat → List (S41) → List (S41) → Int → Option (Bool)
 | 0, _, _, _ => none
 | k + 1, x0, x1, x5 => if x5 < (x0.length : Int) then (if 0 ≤ x5 then (if x5 < (x1.length : Int) then ((q15.f k ((q84 x0 x5).f0) ((q84 x0 x5).f1) ((q84 x0 x5).f2) ((q84 x0 x5).f3) ((q84 x0 x5).f4) ((q84 x0 x5).f5) ((q84 x0 x5).f6) ((q84 x1 x5).f0) ((q84 x1 x5).f1) ((q84 x1 x5).f2) ((q84 x1 x5).f3) ((q84 x1 x5).f4) ((q84 x1 x5).f5) ((q84 x1 x5).f6)).bind fun t177 => (if t177 = true then (q12.l0 k x0 x1 (wrap64 (x5 + 1))) else (some false))) else (none)) else (none)) else (some true)
def q12.f (k : Nat) (l0 : List (S41)) (l1 : List (S41)) : Option (Bool) := if (l0.length : Int) = (l1.length : Int) then (q12.l0 k l0 l1 0) else (some false)
theorem q12.mono_l : ∀ k, (∀ y0 y1 y2, LeO (q12.l0 k y0 y1 y2) (q12.l0 (k + 1) y0 y1 y2))
 | 0 => fun _ _ _ r h => by simp [q12.l0] at h
 | k + 1 => by
  have ih0 := q12.mono_l k
  ·intro y0 y1 y2
   unfold q12.l0
   repeat' first
   | (with_reducible exact ih0 _ _ _)
   | (with_reducible exact q15.mono _ _ _ _ _ _ _ _ _ _ _ _ _ _ _)
   | (with_reducible exact LeO.refl _)
   | (with_reducible exact LeO.none _)
   | (with_reducible refine LeO.ite ?_ ?_)
   | (with_reducible refine LeO.bind ?_ (fun _ => ?_))
   | exact ih0 _ _ _
   | exact q15.mono _ _ _ _ _ _ _ _ _ _ _ _ _ _ _
   | exact LeO.none _
   | refine LeO.ite ?_ ?_
   | refine LeO.bind ?_ (fun _ => ?_)
theorem q12.mono : ∀ a0 a1 k, LeO (q12.f k a0 a1) (q12.f (k + 1) a0 a1) := by
 intro a0 a1 k
 have ih0 := q12.mono_l k
 unfold q12.f
 repeat' first
  | (with_reducible exact ih0 _ _ _)
  | (with_reducible exact q15.mono _ _ _ _ _ _ _ _ _ _ _ _ _ _ _)
  | (with_reducible exact LeO.refl _)
  | (with_reducible exact LeO.none _)
  | (with_reducible refine LeO.ite ?_ ?_)
  | (with_reducible refine LeO.bind ?_ (fun _ => ?_))
  | exact ih0 _ _ _
  | exact q15.mono _ _ _ _ _ _ _ _ _ _ _ _ _ _ _
  | exact LeO.none _
  | refine LeO.ite ?_ ?_
  | refine LeO.bind ?_ (fun _ => ?_)
def q13.l0 : Nat → List ByteArray → List ByteArray → Int → Option (Bool)
 | 0, _, _, _ => none
 | k + 1, x0, x1, x5 => if x5 < (x0.length : Int) then (if 0 ≤ x5 then (if x5 < (x1.length : Int) then (if (rdOf ByteArray.empty x0 x5).toList = (rdOf ByteArray.empty x1 x5).toList then (q13.l0 k x0 x1 (wrap64 (x5 + 1))) else (some false)) else (none)) else (none)) else (some true)
def q13.f (k : Nat) (l0 : List ByteArray) (l1 : List ByteArray) : Option (Bool) := if (l0.length : Int) = (l1.length : Int) then (q13.l0 k l0 l1 0) else (some false)
theorem q13.mono_l : ∀ k, (∀ y0 y1 y2, LeO (q13.l0 k y0 y1 y2) (q13.l0 (k + 1) y0 y1 y2))
 | 0 => fun _ _ _ r h => by simp [q13.l0] at h
 | k + 1 => by
  have ih0 := q13.mono_l k
  ·intro y0 y1 y2
   unfold q13.l0
   repeat' first
   | (with_reducible exact ih0 _ _ _)
   | (with_reducible exact LeO.refl _)
   | (with_reducible exact LeO.none _)
   | (with_reducible refine LeO.ite ?_ ?_)
   | (with_reducible refine LeO.bind ?_ (fun _ => ?_))
   | exact ih0 _ _ _
   | exact LeO.none _
   | refine LeO.ite ?_ ?_
   | refine LeO.bind ?_ (fun _ => ?_)
theorem q13.mono : ∀ a0 a1 k, LeO (q13.f k a0 a1) (q13.f (k + 1) a0 a1) := by
 intro a0 a1 k
 have ih0 := q13.mono_l k
 unfold q13.f
 repeat' first
  | (with_reducible exact ih0 _ _ _)
  | (with_reducible exact LeO.refl _)
  | (with_reducible exact LeO.none _)
  | (with_reducible refine LeO.ite ?_ ?_)
  | (with_reducible refine LeO.bind ?_ (fun _ => ?_))
  | exact ih0 _ _ _
  | exact LeO.none _
  | refine LeO.ite ?_ ?_
  | refine LeO.bind ?_ (fun _ => ?_)
def q30.f (k : Nat) (l0_0 : List ByteArray) (l0_1 : List (S41)) (l1_0 : List ByteArray) (l1_1 : List (S41)) : Option (Bool) := (q13.f k l0_0 l1_0).bind fun t180 => (if t180 = true then ((q12.f k l0_1 l1_1).bind fun t181 => (some t181)) else (some false))
theorem q30.mono : ∀ a0 a1 a2 a3 k, LeO (q30.f k a0 a1 a2 a3) (q30.f (k + 1) a0 a1 a2 a3) := by
 intro a0 a1 a2 a3 k
 unfold q30.f
 repeat' first
  | (with_reducible exact q12.mono _ _ _)
  | (with_reducible exact q13.mono _ _ _)
  | (with_reducible exact LeO.refl _)
  | (with_reducible exact LeO.none _)
  | (with_reducible refine LeO.ite ?_ ?_)
  | (with_reducible refine LeO.bind ?_ (fun _ => ?_))
  | exact q12.mono _ _ _
  | exact q13.mono _ _ _
  | exact LeO.none _
  | refine LeO.ite ?_ ?_
  | refine LeO.bind ?_ (fun _ => ?_)
def Evb (g : Nat → Option Bool) (P : Prop) : Prop := ∃ r, Ev g r ∧ (r = true ↔ P)
theorem Evb.yes {P : Prop} (h : P) : Evb (fun _ => some true) P := ⟨true, Ev.now true, by simp [h]⟩
theorem Evb.no {P : Prop} (h : ¬ P) : Evb (fun _ => some false) P := ⟨false, Ev.now false, by simp [h]⟩
theorem Evb.iff {g : Nat → Option Bool} {P Q : Prop} (h : Evb g P) (e : P ↔ Q) : Evb g Q := by obtain ⟨r, h1, h2⟩ := h; exact ⟨r, h1, h2.trans e⟩
theorem Evb.step {f g : Nat → Option Bool} {P : Prop} (h : ∀ k, g (k + 1) = f k) (hf : Evb f P) : Evb g P := by obtain ⟨r, h1, h2⟩ := hf; exact ⟨r, Ev.step h h1, h2⟩
theorem Evb.congr {f g : Nat → Option Bool} {P : Prop} (h : ∀ k, g k = f k) (hf : Evb f P) : Evb g P := by obtain ⟨r, h1, h2⟩ := hf; exact ⟨r, Ev.congr h h1, h2⟩
theorem drop_iff {α : Type} {l m : List α} (h : l.length = m.length) (i : Nat) (hi : i < l.length) : l.drop i = m.drop i ↔ l[i] = m[i]'(h ▸ hi) ∧ l.drop (i + 1) = m.drop (i + 1) := by
 have hj : i < m.length := h ▸ hi
 rw [List.drop_eq_getElem_cons hi, List.drop_eq_getElem_cons hj, List.cons.injEq]
theorem evb_row {α : Type} {g : Nat → Int → Option Bool} {n : Nat → Option Bool} {Q : Prop} (l m : List α) (hl : l.length = m.length)
    (hs : ∀ (k i : Nat) (h1 : i < l.length) (h2 : i < m.length), l[i] = m[i] → g (k + 1) (i : Int) = g k ((i + 1 : Nat) : Int))
    (hf : ∀ (k i : Nat) (h1 : i < l.length) (h2 : i < m.length), l[i] ≠ m[i] → g (k + 1) (i : Int) = some false)
    (he : ∀ k, g (k + 1) (l.length : Int) = n k) (hQ : Evb n Q) : Evb (fun k => g k 0) (l = m ∧ Q) := by
  have main : ∀ (d i : Nat), i + d = l.length → Evb (fun k => g k (i : Int)) (l.drop i = m.drop i ∧ Q) := by
    intro d
    induction d with
    | zero =>
      intro i hi
      obtain rfl : i = l.length := by omega
      refine (Evb.step (f := n) (fun k => he k) hQ).iff ?_
      rw [List.drop_of_length_le (by omega), List.drop_of_length_le (by omega)]
      simp
    | succ d ih =>
      intro i hi
      have h1 : i < l.length := by omega
      have h2 : i < m.length := by omega
      by_cases e : l[i] = m[i]
      · refine (Evb.step (f := fun k => g k ((i + 1 : Nat) : Int)) (fun k => hs k i h1 h2 e) (ih (i + 1) (by omega))).iff ?_
        rw [drop_iff hl i h1]
        exact ⟨fun h => ⟨⟨e, h.1⟩, h.2⟩, fun h => ⟨h.1.2, h.2⟩⟩
      · refine (Evb.step (f := fun _ => some false) (fun k => hf k i h1 h2 e) (Evb.no (P := False) id)).iff ?_
        rw [drop_iff hl i h1]
        exact ⟨False.elim, fun h => e h.1.1⟩
  exact main l.length 0 (by omega)
theorem int_rd (l : List Int) (i : Nat) (h : i < l.length) : rd l (i : Int) = l[i] := by simp [rd, List.getD_eq_getElem?_getD, List.getElem?_eq_getElem h]
theorem evb_ints (l m : List Int) (hn : l.length ≤ 9223372036854775807) : Evb (fun k => q14.f k l m) (l = m) := by
 by_cases hl : l.length = m.length
 case neg => exact Evb.congr (fun k => by unfold q14.f; exact if_neg (by omega)) (Evb.no (fun h => hl (by rw [h])))
 refine Evb.congr (fun k => by unfold q14.f; exact if_pos (by omega)) ((evb_row (g := fun k i => q14.l0 k l m i) (n := fun _ => some true) (Q := True) l m hl ?_ ?_ ?_ (Evb.yes trivial)).iff ⟨fun h => h.1, fun h => ⟨h, trivial⟩⟩)
 ·intro k i h1 h2 e
  simp only [q14.l0]
  rw [if_pos (by omega), if_pos (by omega), if_pos (by omega), int_rd l i h1, int_rd m i h2, if_pos e, wrap_lt (n := (l.length : Int)) (by omega) (by omega) (by omega)]
  rfl
 ·intro k i h1 h2 e
  simp only [q14.l0]
  rw [if_pos (by omega), if_pos (by omega), if_pos (by omega), int_rd l i h1, int_rd m i h2, if_neg e]
 ·intro k
  simp only [q14.l0]
  rw [if_neg (by omega)]
section
variable {w : World} {A0 : Option Addr} {c0 : Nat} {fs : List ByteArray} {A1 : Option Addr} {c1 : Nat} {l : List (S41)}
theorem Md.heavy2 (h : Md w A0 c0 fs A1 c1 l) : ∃ v, (v = false → fs.length + l.length < 400) ∧ ∀ W, Below w.heap.size w W → Calls Try.prog 6 #[.agg #[.slice A0 fs.length c0, .slice A1 l.length c1]] W (TB v W) := by
 obtain ⟨⟨h0, h1, h2, h3⟩, h4, h5, h6⟩ := h
 obtain ⟨v, ⟨k, hk⟩, hz⟩ := ev_heavy fs l h4 h5 h6
 exact ⟨v, hz, fun W hb => q20.calls k A0 c0 fs A1 c1 l v W (Kd.C_below h0 hb) h1 (Kd.C_below h2 hb) h3 (hk k (Nat.le_refl _))⟩
def flagR (l : List (S41)) (id : ByteArray) (st : Int) : Int := if q77 l id < 0 then -1 else if st < 1 then -1 else if st > 4 then -1 else 4 * q77 l id + st - 1
theorem flag_eq (id : ByteArray) (st : Int) (hl : l.length ≤ 1000) : q51.f fs l id st = some (flagR l id st) := by
 have hlt := placeI_lt l id
 unfold q51.f q45.f flagR
 rw [show fidx (q45.p id) l = q77 l id from rfl]
 generalize q77 l id = P at hlt ⊢
 simp only [Option.bind_some, q54.f]
 by_cases h1 : P < 0
 ·rw [if_pos h1, if_pos h1]
 by_cases h2 : st < 1
 ·rw [if_neg h1, if_neg h1, if_pos h2, if_pos h2]
 by_cases h3 : st > 4
 ·rw [if_neg h1, if_neg h1, if_neg h2, if_neg h2, if_pos h3, if_pos h3]
 rw [if_neg h1, if_neg h1, if_neg h2, if_neg h2, if_neg h3, if_neg h3]
 unfold wrap64
 congr 1
 omega
theorem rflag_eq (id : ByteArray) (st : Int) (hl : l.length ≤ 1000) : Ev (fun k => q27.f k fs l id st) (flagR l id st) := by
 have hlt := placeI_lt l id
 unfold q27.f flagR
 refine Ev.bind (ev_place fs l id (by omega)) ⟨0, fun _ _ => ?_⟩
 generalize q77 l id = P at hlt ⊢
 simp only [Option.bind_some, q21.f]
 by_cases h1 : P < 0
 ·rw [if_pos h1, if_pos h1]
 by_cases h2 : st < 1
 ·rw [if_neg h1, if_neg h1, if_pos h2, if_pos h2]
 by_cases h3 : st > 4
 ·rw [if_neg h1, if_neg h1, if_neg h2, if_neg h2, if_pos h3, if_pos h3]
 rw [if_neg h1, if_neg h1, if_neg h2, if_neg h2, if_neg h3, if_neg h3]
 unfold wrap64
 congr 1
 omega
def TI (v : Int) (W : World) (e : Ending) (w' : World) : Prop := e = .returned (.int .i64 v) ∧ Below W.heap.size W w'
theorem Md.flag (h : Md w A0 c0 fs A1 c1 l) (hl : l.length ≤ 1000) (id : ByteArray) (st : Int) : ∀ W, Below w.heap.size w W → Calls Try.prog 13 #[.agg #[.slice A0 fs.length c0, .slice A1 l.length c1], .string id, .int .i64 st] W (TI (flagR l id st) W) := fun W hb =>
 q51.calls A0 c0 fs A1 c1 l id st _ W (Kd.C_below h.1.1 hb) h.1.2.1 (Kd.C_below h.1.2.2.1 hb) h.1.2.2.2 (flag_eq id st hl)
theorem Md.rflag (h : Md w A0 c0 fs A1 c1 l) (hl : l.length ≤ 1000) (id : ByteArray) (st : Int) : ∀ W, Below w.heap.size w W → Calls Try.prog 14 #[.agg #[.slice A0 fs.length c0, .slice A1 l.length c1], .string id, .int .i64 st] W (TI (flagR l id st) W) := by
 obtain ⟨k, hk⟩ := rflag_eq (fs := fs) (l := l) id st hl
 exact fun W hb => q27.calls k A0 c0 fs A1 c1 l id st _ W (Kd.C_below h.1.1 hb) h.1.2.1 (Kd.C_below h.1.2.2.1 hb) h.1.2.2.2 (hk k (Nat.le_refl _))
theorem ris_is (up : List Bool) (j : Int) (hj : 0 ≤ j) : q34.f up j = some (upF up j) := by
 unfold q34.f upF
 by_cases h : j < (up.length : Int)
 ·rw [if_pos h, if_pos h, if_pos hj]
 ·rw [if_neg h, if_neg h]
set_option maxRecDepth 100000 in
theorem st_is (i : Nat) (s : Int) (hi : i ≤ 1000) (hs : 0 ≤ s ∧ s ≤ 3) : q21.f (i : Int) s = some (flagF i (s + 1)) := congrArg some (by unfold flagF wrap64; omega)
set_option maxRecDepth 100000 in
theorem rstates_eq (up : List Bool) (hl : l.length ≤ 1000) : Ev (fun k => q17.f k fs l up) (statesP up l.length) := by
  have main : ∀ (d i : Nat), i + d = l.length → Ev (fun k => q17.l0 k up (statesP up i) (i : Int) fs l) (statesP up l.length) := by
    intro d
    induction d with
    | zero =>
      intro i hi
      obtain rfl : i = l.length := by omega
      refine Ev.step (f := fun _ => some (statesP up l.length)) (fun k => ?_) (Ev.now _)
      simp only [q17.l0]
      rw [if_neg (by omega)]
    | succ d ih =>
      intro i hi
      refine Ev.step (f := fun k => q17.l0 k up (statesP up (i + 1)) ((i + 1 : Nat) : Int) fs l) (fun k => ?_) (ih (i + 1) (by omega))
      have hlen : (statesP up i).length < 17592186044416 := by simp [statesP]; omega
      have hg : ∀ s : Int, 0 ≤ s ∧ s ≤ 3 → 0 ≤ flagF i (s + 1) := fun s hs => by unfold flagF; omega
      simp only [q17.l0]
      rw [if_pos (by omega), st_is i 2 (by omega) (by omega), st_is i 3 (by omega) (by omega), st_is i 1 (by omega) (by omega), st_is i 0 (by omega) (by omega)]
      simp only [Option.bind_some]
      rw [ris_is up _ (hg 2 (by omega)), ris_is up _ (hg 3 (by omega)), ris_is up _ (hg 1 (by omega)), ris_is up _ (hg 0 (by omega))]
      simp only [Option.bind_some]
      rw [if_pos hlen, if_pos hlen, if_pos hlen, if_pos hlen, if_pos hlen, show wrap64 ((i : Int) + 1) = ((i + 1 : Nat) : Int) by unfold wrap64; omega, statesP_succ]
      have e : stOf up i = if upF up (flagF i (2 + 1)) = true then 3 else if upF up (flagF i (3 + 1)) = true then 4 else if upF up (flagF i (1 + 1)) = true then 2 else if upF up (flagF i (0 + 1)) = true then 1 else 0 := rfl
      rw [e]
      split
      · rfl
      split
      · rfl
      split
      · rfl
      split
      · rfl
      · rfl
  exact main l.length 0 (by omega)
set_option maxRecDepth 100000 in
theorem Md.states (h : Md w A0 c0 fs A1 c1 l) (hl : l.length ≤ 1000) (A : Option Addr) (c : Nat) (up : List Bool) (hr : Kd.C Kd.bool w A up.length up) : ∀ W, Below w.heap.size w W → Calls Try.prog 15 #[.agg #[.slice A0 fs.length c0, .slice A1 l.length c1], .slice A up.length c] W (StatesPost W l.length up) := fun W hb =>
 States_any W _ A1 c1 l.length A up.length c up hl rfl (Kd.C_below hr hb)
set_option maxRecDepth 100000 in
theorem Md.rstates (h : Md w A0 c0 fs A1 c1 l) (hl : l.length ≤ 1000) (A : Option Addr) (c : Nat) (up : List Bool) (hr : Kd.C Kd.bool w A up.length up) (hc : up.length ≤ c) : ∀ W, Below w.heap.size w W → Calls Try.prog 16 #[.agg #[.slice A0 fs.length c0, .slice A1 l.length c1], .slice A up.length c] W (StatesPost W l.length up) := by
 obtain ⟨k, hk⟩ := rstates_eq (fs := fs) (l := l) up hl
 intro W hb
 refine (q17.calls k A0 c0 fs A1 c1 l A c up _ W (Kd.C_below h.1.1 hb) h.1.2.1 (Kd.C_below h.1.2.2.1 hb) h.1.2.2.2 (Kd.C_below hr hb) hc (hk k (Nat.le_refl _))).mono ?_
 rintro e w' ⟨v, rfl, hR, hb⟩
 obtain ⟨A5, c5, rfl⟩ := Kd.R_slice hR
 have e : (statesP up l.length).length = l.length := by simp [statesP]
 rw [e] at hR ⊢
 exact ⟨A5, c5, rfl, hR, hb⟩
end
theorem same_call (W : World) (n : Nat) (up : List Bool) (b1 b2 : Nat) (A5 : Option Addr) (c5 : Nat) (A6 : Option Addr) (c6 : Nat) (hn : n ≤ 1000) (h5 : Kd.R (Kd.int .i64) 3 W b1 (fun _ => True) (.slice A5 n c5) (statesP up n)) (h6 : Kd.R (Kd.int .i64) 3 W b2 (fun _ => True) (.slice A6 n c6) (statesP up n)) : Calls Try.prog 12 #[.slice A5 n c5, .slice A6 n c6] W (TB true W) := by
 have e : (statesP up n).length = n := by simp [statesP]
 obtain ⟨r, ⟨k, hk⟩, hr⟩ := evb_ints (statesP up n) (statesP up n) (by omega)
 obtain rfl := hr.2 rfl
 have h := q14.calls k A5 c5 (statesP up n) A6 c6 (statesP up n) true W (Kd.R_reads' h5).2.2 (by rw [e]; exact (Kd.R_reads' h5).2.1) (Kd.R_reads' h6).2.2 (by rw [e]; exact (Kd.R_reads' h6).2.1) (hk k (Nat.le_refl _))
 rw [e] at h
 exact h.mono fun e w' h => ⟨h.1, h.2.below⟩
set_option maxHeartbeats 16000000 in
set_option maxRecDepth 100000 in
theorem xlateFlags_any (A0 : Option Addr) (c0 : Nat) (fs : List ByteArray) (A1 : Option Addr) (c1 : Nat) (l : List (S41)) (id : ByteArray) (st : Int) (A : Option Addr) (c : Nat) (up : List Bool) (w : World) (hM : Md w A0 c0 fs A1 c1 l) (hr : Kd.C Kd.bool w A up.length up) (hc : up.length ≤ c) :
 Calls Try.prog 5 #[.agg #[.slice A0 fs.length c0, .slice A1 l.length c1], .string id, .int .i64 st, .slice A up.length c] w (TB true w) := by
 have hu25 := Try.underlying25
 have hu41 := Try.underlying41
 obtain ⟨v, hvl, hv⟩ := hM.heavy2
 have hFl := fun h => hM.flag h
 have hRf := fun h => hM.rflag h
 have hSt := fun h => hM.states h A c up hr
 have hRs := fun h => hM.rstates h A c up hr hc
 have HMD := Lib.hid hM
 obtain ⟨n, hn⟩ : ∃ n, n = l.length := ⟨_, rfl⟩
 obtain ⟨nf, hnf⟩ : ∃ nf, nf = fs.length := ⟨_, rfl⟩
 obtain ⟨u, hu⟩ : ∃ u, u = up.length := ⟨_, rfl⟩
 rw [← hn, ← hnf] at hv hFl hRf hSt hRs hvl
 rw [← hu] at hSt hRs
 rw [← hn, ← hnf, ← hu]
 have HN := Lib.hid hn
 obtain ⟨wB, hwB⟩ : ∃ wB, wB = w.alloc (.cells #[.slice A0 nf c0, .slice A1 n c1] 25) := ⟨_, rfl⟩
 have hbB : Below w.heap.size w wB := by rw [hwB]; exact q60 (Below.refl _ _) _
 have hgB : wB.heap[w.heap.size]? = some (.cells #[.slice A0 nf c0, .slice A1 n c1] 25 (0, 0)) := by rw [hwB]; exact heap_alloc_new _ _
 obtain ⟨b, hb⟩ : ∃ b, b = w.heap.size := ⟨_, rfl⟩
 rw [← hb] at hgB
 have hm0 : wB.cell? ⟨b, 0, none⟩ = some (.slice A0 nf c0) := (q66 hgB 0).trans rfl
 have hm1 : wB.cell? ⟨b, 1, none⟩ = some (.slice A1 n c1) := (q66 hgB 1).trans rfl
 have hvB := hv wB hbB
 have HFL := Lib.hid hFl
 have HRF := Lib.hid hRf
 have HST := Lib.hid hSt
 have HRS := Lib.hid hRs
 have HVL := Lib.hid hvl
 have HBB := Lib.hid hbB
 have HWB := Lib.hid hwB
 have HB := Lib.hid hb
 have HC := Lib.hid (And.intro hm0 hm1)
 clear hM hv hFl hRf hSt hRs hvl hn hnf hu hwB hbB hgB hb hm0 hm1 hr hc
 go_enter Try.func5, Try.ntmps5
 go_upto_region 1 with (fail)
 rw [← HWB.out, ← show b = _ from HB.out]
 have hm0 := HC.out.1
 have hm1 := HC.out.2
 go_wp2_with fail
 refine hvB.mono ?_
 rintro e w2 ⟨rfl, hb2⟩
 have HB2 := Lib.hid (q63 HBB.out HBB.out.size hb2)
 have hm0 := q76 hb2 hm0
 have hm1 := q76 hb2 hm1
 clear hvB hb2
 cases v
 case true =>
  go_wp2
  go_ret
  exact ⟨rfl, HB2.out⟩
 have hn1 : n ≤ 1000 := by have := HVL.out rfl; omega
 by_cases hu2 : (u : Int) > 200
 ·go_wp2
  go_ret
  exact ⟨rfl, HB2.out⟩
 have HM2 := Lib.hid (And.intro hm0 hm1)
 clear hm0 hm1
 go_wp2_with fail
 go_loopg [9] n (fun gg s9 wr => ∃ i : Nat, s9 = .int .i64 i ∧ i ≤ n ∧ n - i ≤ gg ∧ Hid (Below w2.heap.size w2 wr))
 case atStart => exact ⟨0, rfl, Nat.zero_le _, by omega, Lib.hid (Below.refl _ _)⟩
 case round =>
  obtain ⟨i, rfl, hin, hig, Y⟩ := hrel
  obtain ⟨wO, rfl⟩ : ∃ wO, wO = wr := ⟨_, rfl⟩
  have hm0 := q76 Y.out HM2.out.1
  have hm1 := q76 Y.out HM2.out.2
  have HYB := Lib.hid (q63 HB2.out HB2.out.size Y.out)
  obtain ⟨rz, hrz⟩ : ∃ rz, rz = flagR l id st := ⟨_, rfl⟩
  have hfz := HFL.out hn1 id st
  have hgz := HRF.out hn1 id st
  rw [← hrz] at hfz hgz
  have HFZ : Hid (∀ W, Below wO.heap.size wO W → Calls Try.prog 13 #[.agg #[.slice A0 nf c0, .slice A1 n c1], .string id, .int .i64 st] W (TI rz W)) := Lib.hid (fun W hb => hfz W (q63 HYB.out HYB.out.size hb))
  have HGZ : Hid (∀ W, Below wO.heap.size wO W → Calls Try.prog 14 #[.agg #[.slice A0 nf c0, .slice A1 n c1], .string id, .int .i64 st] W (TI rz W)) := Lib.hid (fun W hb => hgz W (q63 HYB.out HYB.out.size hb))
  clear hrz hfz hgz
  by_cases hlt : i < n
  case neg =>
   obtain rfl : n = i := by omega
   have hlz : ¬ (n : Int) < (n : Int) := by omega
   have HSZ : Hid (∀ W, Below wO.heap.size wO W → Calls Try.prog 15 #[.agg #[.slice A0 nf c0, .slice A1 n c1], .slice A u c] W (StatesPost W n up)) := Lib.hid (fun W hb => HST.out hn1 W (q63 HYB.out HYB.out.size hb))
   have HQZ : Hid (∀ W, Below wO.heap.size wO W → Calls Try.prog 16 #[.agg #[.slice A0 nf c0, .slice A1 n c1], .slice A u c] W (StatesPost W n up)) := Lib.hid (fun W hb => HRS.out hn1 W (q63 HYB.out HYB.out.size hb))
   clear hlz
   have hlz : ¬ (n : Int) < (n : Int) := by omega
   go_wp2
   have hS : (((wO.drew).cell? ⟨b, 0, none⟩ = some (.slice A0 nf c0)) ∧ ((wO.drew).cell? ⟨b, 1, none⟩ = some (.slice A1 n c1))) ∧ Below wO.heap.size wO wO.drew := ⟨⟨hm0, hm1⟩, q61 (Below.refl _ _)⟩
   refine sD_ [] (fun w' => ((w'.cell? ⟨b, 0, none⟩ = some (.slice A0 nf c0)) ∧ (w'.cell? ⟨b, 1, none⟩ = some (.slice A1 n c1))) ∧ Below wO.heap.size wO w') 22 hS (fun hHeld => ?_)
   clear hS
   obtain ⟨wD, hwD⟩ : ∃ wD, wD = wO.drew := ⟨_, rfl⟩
   rw [← hwD] at hHeld ⊢
   clear hwD
   refine tk_ 0 (some 43) hHeld ?_ (hy := by rintro w' ⟨⟨s0, s1⟩, -⟩; go_simp; with_reducible rfl)
   refine pu_ 1 (some 44) ?_
   refine pu_ 2 (some 45) ?_
   refine tk_ 4 (some 47) hHeld ?_ (hy := by rintro w' ⟨⟨s0, s1⟩, -⟩; go_simp; with_reducible rfl)
   refine pu_ 5 (some 48) ?_
   refine pu_ 6 (some 49) ?_
   refine ca_ 3 (some 46) Try.func13 #[.agg #[.slice A0 nf c0, .slice A1 n c1], .string id, .int .i64 st] ?_
   refine (HFZ.out wD hHeld.2).mono ?_
   rintro e d1_ ⟨rfl, hb⟩
   refine ⟨_, rfl, ⟨⟨q76 hb hHeld.1.1, q76 hb hHeld.1.2⟩, q75 hb hHeld.2⟩, fun hHeld => ⟨_, rfl, nz_ (some 46) ?_⟩⟩
   clear hb
   refine ca_ 7 (some 50) Try.func14 #[.agg #[.slice A0 nf c0, .slice A1 n c1], .string id, .int .i64 st] ?_
   refine (HGZ.out d1_ hHeld.2).mono ?_
   rintro e d2_ ⟨rfl, hb⟩
   refine ⟨_, rfl, ⟨⟨q76 hb hHeld.1.1, q76 hb hHeld.1.2⟩, q75 hb hHeld.2⟩, fun hHeld => ⟨_, rfl, nz_ (some 50) ?_⟩⟩
   clear hb
   refine pu_ 8 (some 51) ?_
   refine pu_ 9 (some 52) ?_
   refine tk_ 10 (some 53) hHeld ?_ (hy := by rintro w' ⟨⟨s0, s1⟩, -⟩; go_simp; with_reducible rfl)
   refine pu_ 11 (some 54) ?_
   refine tk_ 13 (some 56) hHeld ?_ (hy := by rintro w' ⟨⟨s0, s1⟩, -⟩; go_simp; with_reducible rfl)
   refine pu_ 14 (some 57) ?_
   refine ca_ 12 (some 55) Try.func15 #[.agg #[.slice A0 nf c0, .slice A1 n c1], .slice A u c] ?_
   refine (HSZ.out d2_ hHeld.2).mono ?_
   rintro e d3_ ⟨A5, c5, rfl, hR5, hb⟩
   refine ⟨_, rfl, ⟨⟨q76 hb hHeld.1.1, q76 hb hHeld.1.2⟩, q75 hb hHeld.2⟩, fun hHeld => ⟨_, rfl, nz_ (some 55) ?_⟩⟩
   have HR5 := Lib.hid hR5
   clear hR5
   clear hb
   refine ca_ 15 (some 58) Try.func16 #[.agg #[.slice A0 nf c0, .slice A1 n c1], .slice A u c] ?_
   refine (HQZ.out d3_ hHeld.2).mono ?_
   rintro e d4_ ⟨A6, c6, rfl, hR6, hb⟩
   refine ⟨_, rfl, ⟨⟨q76 hb hHeld.1.1, q76 hb hHeld.1.2⟩, q75 hb hHeld.2⟩, fun hHeld => ⟨_, rfl, nz_ (some 58) ?_⟩⟩
   have HR6 := Lib.hid hR6
   clear hR6
   have HR5 := Lib.hid (Kd.R_below HR5.out hb)
   clear hb
   refine ca_ 16 (some 59) Try.func12 #[.slice A5 n c5, .slice A6 n c6] ?_
   refine (same_call d4_ n up _ _ A5 c5 A6 c6 hn1 HR5.out HR6.out).mono ?_
   rintro e d5_ ⟨rfl, hb⟩
   refine ⟨_, rfl, ⟨⟨q76 hb hHeld.1.1, q76 hb hHeld.1.2⟩, q75 hb hHeld.2⟩, fun hHeld => ⟨_, rfl, nz_ (some 59) ?_⟩⟩
   have HR5 := Lib.hid (Kd.R_below HR5.out hb)
   have HR6 := Lib.hid (Kd.R_below HR6.out hb)
   clear hb
   refine pu_ 17 (some 60) ?_
   refine pu_ 18 (some 61) ?_
   refine ca_ 19 (some 62) Try.func11 #[] ?_
   refine (known_call d5_).mono ?_
   rintro e d6_ ⟨rfl, hb⟩
   refine ⟨_, rfl, ⟨⟨q76 hb hHeld.1.1, q76 hb hHeld.1.2⟩, q75 hb hHeld.2⟩, fun hHeld => ⟨_, rfl, nz_ (some 62) ?_⟩⟩
   have HR5 := Lib.hid (Kd.R_below HR5.out hb)
   have HR6 := Lib.hid (Kd.R_below HR6.out hb)
   clear hb
   refine pu_ 20 (some 63) ?_
   refine pu_ 21 (some 8) ?_
   refine dn_ ?_
   have HF := Lib.hid (q63 HYB.out HYB.out.size hHeld.2)
   clear hHeld
   go_wp2
   go_ret
   exact ⟨rfl, HF.out⟩
  have hlz : (i : Int) < (n : Int) := by omega
  have hil : i < l.length := by have := HN.out; omega
  obtain ⟨ad, A5, c5, A6, c6, e, x0, x1, x2, x3, x4, x5, x6, l5, g5, l6, g6⟩ := at_T41 (Kd.C_below HMD.out.1.2.2.1 HYB.out) (i : Int) (by omega) (by omega)
  simp only [Int.toNat_natCast] at x0
  generalize (q84 l (i : Int)).f0 = idx at x0
  cases e
  clear x1 x2 x3 x4 x5 x6 l5 g5 l6 g6 HFZ HGZ
  obtain ⟨rz, hrz⟩ : ∃ rz, rz = flagR l idx st := ⟨_, rfl⟩
  have hfz := HFL.out hn1 idx st
  have hgz := HRF.out hn1 idx st
  rw [← hrz] at hfz hgz
  have HFZ : Hid (∀ W, Below wO.heap.size wO W → Calls Try.prog 13 #[.agg #[.slice A0 nf c0, .slice (some ad) n c1], .string idx, .int .i64 st] W (TI rz W)) := Lib.hid (fun W hb => hfz W (q63 HYB.out HYB.out.size hb))
  have HGZ : Hid (∀ W, Below wO.heap.size wO W → Calls Try.prog 14 #[.agg #[.slice A0 nf c0, .slice (some ad) n c1], .string idx, .int .i64 st] W (TI rz W)) := Lib.hid (fun W hb => hgz W (q63 HYB.out HYB.out.size hb))
  clear hrz hfz hgz
  go_wp2
  have hS : (((wO.drew).cell? ⟨b, 0, none⟩ = some (.slice A0 nf c0)) ∧ ((wO.drew).cell? ⟨b, 1, none⟩ = some (.slice (some ad) n c1)) ∧ ((wO.drew).cell? (ad.add (i * 7)) = some (.string idx))) ∧ Below wO.heap.size wO wO.drew := ⟨⟨hm0, hm1, x0⟩, q61 (Below.refl _ _)⟩
  refine sD_ [] (fun w' => ((w'.cell? ⟨b, 0, none⟩ = some (.slice A0 nf c0)) ∧ (w'.cell? ⟨b, 1, none⟩ = some (.slice (some ad) n c1)) ∧ (w'.cell? (ad.add (i * 7)) = some (.string idx))) ∧ Below wO.heap.size wO w') 19 hS (fun hHeld => ?_)
  clear hS
  obtain ⟨wD, hwD⟩ : ∃ wD, wD = wO.drew := ⟨_, rfl⟩
  rw [← hwD] at hHeld ⊢
  clear hwD
  refine tk_ 0 (some 24) hHeld ?_ (hy := by rintro w' ⟨⟨s0, s1, s2⟩, -⟩; go_simp; with_reducible rfl)
  refine pu_ 1 (some 25) ?_
  refine tk_ 2 (some 26) hHeld ?_ (hy := by rintro w' ⟨⟨s0, s1, s2⟩, -⟩; go_simp; with_reducible rfl)
  refine pu_ 3 (some 27) ?_
  refine pu_ 4 (some 28) ?_
  refine pu_ 5 (some 29) ?_
  refine tk_ 6 (some 30) hHeld ?_ (hy := by rintro w' ⟨⟨s0, s1, s2⟩, -⟩; go_simp; with_reducible rfl)
  refine pu_ 7 (some 31) ?_
  refine tk_ 9 (some 33) hHeld ?_ (hy := by rintro w' ⟨⟨s0, s1, s2⟩, -⟩; go_simp; with_reducible rfl)
  refine pu_ 10 (some 34) ?_
  refine tk_ 11 (some 35) hHeld ?_ (hy := by rintro w' ⟨⟨s0, s1, s2⟩, -⟩; go_simp; with_reducible rfl)
  refine pu_ 12 (some 36) ?_
  refine pu_ 13 (some 37) ?_
  refine pu_ 14 (some 38) ?_
  refine tk_ 15 (some 39) hHeld ?_ (hy := by rintro w' ⟨⟨s0, s1, s2⟩, -⟩; go_simp; with_reducible rfl)
  refine pu_ 16 (some 40) ?_
  refine ca_ 8 (some 32) Try.func13 #[.agg #[.slice A0 nf c0, .slice (some ad) n c1], .string idx, .int .i64 st] ?_
  refine (HFZ.out wD hHeld.2).mono ?_
  rintro e d7_ ⟨rfl, hb⟩
  refine ⟨_, rfl, ⟨⟨q76 hb hHeld.1.1, q76 hb hHeld.1.2.1, q76 hb hHeld.1.2.2⟩, q75 hb hHeld.2⟩, fun hHeld => ⟨_, rfl, nz_ (some 32) ?_⟩⟩
  clear hb
  refine ca_ 17 (some 41) Try.func14 #[.agg #[.slice A0 nf c0, .slice (some ad) n c1], .string idx, .int .i64 st] ?_
  refine (HGZ.out d7_ hHeld.2).mono ?_
  rintro e d8_ ⟨rfl, hb⟩
  refine ⟨_, rfl, ⟨⟨q76 hb hHeld.1.1, q76 hb hHeld.1.2.1, q76 hb hHeld.1.2.2⟩, q75 hb hHeld.2⟩, fun hHeld => ⟨_, rfl, nz_ (some 41) ?_⟩⟩
  clear hb
  refine pu_ 18 (some 42) ?_
  refine dn_ ?_
  have HF := Lib.hid (q63 Y.out Y.out.size hHeld.2)
  clear hHeld
  go_wp2
  go_roundg (n - (i + 1))
  case measure => omega
  case rel => exact ⟨i + 1, by go_num, by omega, Nat.le_refl _, HF⟩
end Go.Proofs.Yteddgedacjdjgaa.Pm
end
section
namespace Go.Proofs.Yteddgedacjdjgaa.Pm
open Go.RowKit Go.Proofs.YteddgedacjdjgaaW.PrintWords Go.Proofs.YteddgedacjdjgaaW.PrintLast Go.Proofs.YteddgedacjdjgaaW.PrintMore
attribute [local go_sem] max2_int min2_int max_two min_two max_three min_three max_four min_four   -- for this text's walks alone
set_option linter.unusedVariables false
set_option linter.unusedSimpArgs false
open OpenKd
section
variable {H : Type} {enc : TypeId × Value → H} {w : World}
set_option maxRecDepth 100000 in
theorem opens_bools : Opens enc Try.prog w 47 (Kd.slice 4 Kd.bool) (fun xs => xs.length ≤ 140737488351232) :=
 Opens.imp (opens_slice Try.underlying47 (by kernel_rfl) (opens_bool Try.underlying4 (by kernel_rfl))) (fun xs h => by have := h.1; rw [show Try.prog.bytesOf 4 = 1 by kernel_rfl] at this; omega)
set_option maxRecDepth 100000 in
theorem open_boolrow {b0 : Nat} {v : Value} {d : DataW H} {p : List MemPlace} (hv : Value.okWide Try.prog w .any b0 47 v) (h : DataW.Trod enc Try.prog w 0 (fun _ => true) true 47 v d p) (hl : Light Try.prog 47 d) :
 ∃ (A0 : Option Addr) (c0 : Nat) (l : List Bool), v = .slice A0 l.length c0 ∧ Kd.C Kd.bool w A0 l.length l ∧ l.length ≤ c0 ∧ l.length ≤ 140737488351232 := by
 obtain ⟨a, len, cap, rfl⟩ := Go.WideShapes.okWide_slice Try.underlying47 hv
 obtain ⟨fuel, hf⟩ := h
 obtain ⟨xs, hK, h1⟩ := opens_bools.go fuel _ _ hf hl
 obtain ⟨A0, c0, hz, q1, q2⟩ := hK
 simp [Value.cells] at hz
 obtain ⟨rfl, rfl, rfl⟩ := hz
 exact ⟨_, _, xs, rfl, q2, q1, h1⟩
end
end Go.Proofs.Yteddgedacjdjgaa.Pm
end
section
namespace Go.Proofs.Yteddgedacjdjgaa.xlateFlags
open Go.ChangeShapes Go.WideShapes Go.ChangeAt Go.RowKit Go.Proofs.YteddgedacjdjgaaW.PrintWords
open Go.ChangeMaps (open_string shut_string)
set_option linter.unusedVariables false
theorem own : ownKnob Try.prog.godebug = none := by kernel_rfl
theorem laidOut : laidOutB Try.prog = true := by kernel_rfl
set_option maxRecDepth 100000 in
theorem lifted (os : Os) (started : os.Started) (H : Type) (enc : TypeId × Value → H) :
 ReturnsInHanded {} Try.checked os 5 .any (Rows.xlateFlagsSpec.pre6 enc Try.prog Try.f5 Rows.xlateFlagsRow.domain false) (Rows.xlateFlagsSpec.post enc Try.prog Try.f5 false true false false) := by
 refine returnsInHanded_of_change_sized (C := Try.checked) own started (by kernel_rfl) Try.func5
  (ChangeSpec.witness6 (enc := enc) (C := Try.checked) false ⟨#[], #[.agg #[.slice none 0 0, .slice none 0 0], .string ByteArray.empty, .int .i64 0, .slice none 0 0], []⟩ 8 (by kernel_rfl) (by kernel_rfl) (by kernel_rfl) (by kernel_rfl)) ?_
 intro W base args ds gs before hval0 hW hcnd hsz0 _
 have hsz : (DataW.weightsEach Try.prog (Try.f5.params.toList ++ Rows.xlateFlagsSpec.plain.varTypes Try.prog) (ds ++ gs)).all (· ≤ reachBytes) = true := hsz0
 have hval : ∀ (j : Nat) t v, Try.f5.params[j]? = some t → args[j]? = some v → Value.okWide Try.prog W .any base t v := hval0
 have hW' := hW
 obtain ⟨p, q, hA0, hV, rfl, hfz, hnd⟩ := hW
 have hA : DataW.TrodAll enc Try.prog W 0 (fun _ => true) true Try.f5.params.toList args.toList ds p := hA0
 rw [Try.params5] at hA hval hsz
 obtain ⟨v0, vs0, d0, ds0, p0, q0, hargs, rfl, rfl, h0, r0⟩ := trodAll_cons hA
 obtain ⟨v1, vs1, d1, ds1, p1, q1, rfl, rfl, rfl, h1, r1⟩ := trodAll_cons r0
 obtain ⟨v2, vs2, d2, ds2, p2, q2, rfl, rfl, rfl, h2, r2⟩ := trodAll_cons r1
 obtain ⟨v3, vs3, d3, ds3, p3, q3, rfl, rfl, rfl, h3, r3⟩ := trodAll_cons r2
 obtain ⟨rfl, rfl, rfl⟩ := trodAll_nil r3
 obtain rfl : args = #[v0, v1, v2, v3] := by cases args; simp_all
 obtain ⟨rfl, rfl⟩ := trodVars_none hV
 have k0 := h0
 have lt0 : ∀ x ∈ p0, x.block < W.heap.size := by obtain ⟨m, hm⟩ := k0; exact DataW.trod_lt m _ _ _ hm
 obtain ⟨A0, c0, fs0, B0, e0, l0, rfl, rdf0, hcf0, rdl0, hcl0, hf0, hl0, hg0⟩ := Pm.open_model (hval 0 25 v0 rfl rfl) h0 (Pm.light_of hsz (j := 0) (t := 25) rfl rfl)
 obtain ⟨a1, rfl, rfl, rfl, y1⟩ := open_string Try.underlying9 (hval 1 9 v1 rfl rfl) h1
 have w1 : a1.size ≤ 140737488351232 := by
  have z := sized_string hsz (j := 1) (t := 9) rfl rfl
  rw [Array.length_toList] at z
  exact z
 obtain ⟨a2, rfl, rfl, rfl, w2⟩ := open_int Try.underlying3 (hval 2 3 v2 rfl rfl) h2
 have k3 := h3
 have lt3 : ∀ x ∈ p3, x.block < W.heap.size := by obtain ⟨m, hm⟩ := k3; exact DataW.trod_lt m _ _ _ hm
 obtain ⟨A3, c3, l3, rfl, rdl3, hcl3, hl3⟩ := Pm.open_boolrow (hval 3 47 v3 rfl rfl) h3 (Pm.light_of hsz (j := 3) (t := 47) rfl rfl)
 clear hA0 hval0 hsz0 hsz
 refine ((Pm.xlateFlags_any A0 c0 fs0 B0 e0 l0 a1 a2 A3 c3 l3 W ⟨⟨rdf0, hcf0, rdl0, hcl0⟩, hf0, hl0, hg0⟩ rdl3 hcl3)).mono fun e W' ⟨he, bel⟩ => ?_
 subst he
 exact ⟨_, rfl, _, _, _, [], _, [], hW', trodAll_mk1 (shut_bool Try.underlying4 _), (trodAll_cons_mk (Below.trod laidOut (by kernel_rfl) (of_decide_eq_true (by kernel_rfl)) k0 bel lt0) (trodAll_cons_mk (shut_string Try.underlying9 y1) (trodAll_cons_mk (shut_int Try.underlying3 w2) (trodAll_cons_mk (Below.trod laidOut (by kernel_rfl) (of_decide_eq_true (by kernel_rfl)) k3 bel lt3) trodAll_mk0)))), rfl, bel.frame _, fun h => by cases h⟩
theorem over : Rows.xlateFlagsRow.holds Try.pinned (OpenSpec.ofChange Rows.xlateFlagsSpec) :=
 OpenClaim.holds_of_wide 5 Try.f5 rfl rfl rfl rfl rfl rfl rfl ⟨rfl, rfl, rfl, rfl, rfl⟩ rfl rfl rfl rfl rfl (by kernel_rfl) Try.func5 (by kernel_rfl)
  (of_decide_eq_true (by kernel_rfl)) (by unfold Func.isWrapper; first | (rw [if_pos (by decide +kernel)]; kernel_rfl) | (rw [if_neg (by decide +kernel)]; exact ⟨rfl, rfl⟩))
  (fun os started H enc _ => lifted os started H enc)
theorem proved : Rows.XlateFlagsSaid := over
end Go.Proofs.Yteddgedacjdjgaa.xlateFlags
namespace Go.Proofs.Yteddgedacjdjgaa
theorem xlateFlags_holds : Rows.XlateFlagsSaid := xlateFlags.proved
end Go.Proofs.Yteddgedacjdjgaa
end
