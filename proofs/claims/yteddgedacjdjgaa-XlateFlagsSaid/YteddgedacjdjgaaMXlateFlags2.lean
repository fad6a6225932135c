/- Walks and plain laws on the way to the law XlateFlags: several texts of this workplace and of the kit's printer, merged; what is not used is struck, by a program. No condition. -/
import Derived.Test.YteddgedacjdjgaaMXlateFlags0
import Derived.Test.YteddgedacjdjgaaMXlateFlags1
import Derived.Lib.Hide
section
namespace Go.Proofs.Yteddgedacjdjgaa.Pm
open Go.RowKit Go.Proofs.YteddgedacjdjgaaW.PrintWords Go.Proofs.YteddgedacjdjgaaW.PrintLast Go.Proofs.YteddgedacjdjgaaW.PrintMore
attribute [local go_sem] max2_int min2_int max_two min_two max_three min_three max_four min_four   -- for this text's walks alone
set_option linter.unusedVariables false
set_option linter.unusedSimpArgs false
def q31.l0 : Nat → List ByteArray → ByteArray → Int → Option (Bool)
 | 0, _, _, _ => none
 | k + 1, x0, x1, x5 => if x5 < (x0.length : Int) then (if 0 ≤ x5 then (if (rdOf ByteArray.empty x0 x5).toList = x1.toList then (some true) else (q31.l0 k x0 x1 (wrap64 (x5 + 1)))) else (none)) else (some false)
def q31.f (k : Nat) (l0 : List ByteArray) (a1 : ByteArray) : Option (Bool) := q31.l0 k l0 a1 0
theorem q31.mono_l : ∀ k, (∀ y0 y1 y2, LeO (q31.l0 k y0 y1 y2) (q31.l0 (k + 1) y0 y1 y2))
 | 0 => fun _ _ _ r h => by simp [q31.l0] at h
 | k + 1 => by
  have ih0 := q31.mono_l k
  ·intro y0 y1 y2
   unfold q31.l0
   repeat' first
   | (with_reducible exact ih0 _ _ _)
   | (with_reducible exact LeO.refl _)
   | (with_reducible exact LeO.none _)
   | (with_reducible refine LeO.ite ?_ ?_)
   | (with_reducible refine LeO.bind ?_ (fun _ => ?_))
   | exact ih0 _ _ _
   | exact LeO.none _
   | refine LeO.ite ?_ ?_
   | refine LeO.bind ?_ (fun _ => ?_)
theorem q31.mono : ∀ a0 a1 k, LeO (q31.f k a0 a1) (q31.f (k + 1) a0 a1) := by
 intro a0 a1 k
 have ih0 := q31.mono_l k
 unfold q31.f
 repeat' first
  | (with_reducible exact ih0 _ _ _)
  | (with_reducible exact LeO.refl _)
  | (with_reducible exact LeO.none _)
  | (with_reducible refine LeO.ite ?_ ?_)
  | (with_reducible refine LeO.bind ?_ (fun _ => ?_))
  | exact ih0 _ _ _
  | exact LeO.none _
  | refine LeO.ite ?_ ?_
  | refine LeO.bind ?_ (fun _ => ?_)
def q25.l0 : Nat → Int → Int → List ByteArray → List (S41) → Option (Int)
 | 0, _, _, _, _ => none
 | k + 1, x1, x5, x112000, x112001 => if x1 > 0 then (if x5 ≤ (x112001.length : Int) then (if 0 ≤ x1 then (if x1 < (x112001.length : Int) then ((q24.f k x112000 x112001 ((q84 x112001 x1).f2)).bind fun t113 => (q25.l0 k t113 (wrap64 (x5 + 1)) x112000 x112001)) else (none)) else (none)) else (if x1 < 0 then (some (-1)) else (if x5 > (x112001.length : Int) then (some (-1)) else (some x5)))) else (if x1 < 0 then (some (-1)) else (if x5 > (x112001.length : Int) then (some (-1)) else (some x5)))
def q25.f (k : Nat) (l0_0 : List ByteArray) (l0_1 : List (S41)) (a1 : Int) : Option (Int) := q25.l0 k a1 0 l0_0 l0_1
theorem q25.mono_l : ∀ k, (∀ y0 y1 y2 y3, LeO (q25.l0 k y0 y1 y2 y3) (q25.l0 (k + 1) y0 y1 y2 y3))
 | 0 => fun _ _ _ _ r h => by simp [q25.l0] at h
 | k + 1 => by
  have ih0 := q25.mono_l k
  ·intro y0 y1 y2 y3
   unfold q25.l0
   repeat' first
   | (with_reducible exact ih0 _ _ _ _)
   | (with_reducible exact q24.mono _ _ _ _)
   | (with_reducible exact LeO.refl _)
   | (with_reducible exact LeO.none _)
   | (with_reducible refine LeO.ite ?_ ?_)
   | (with_reducible refine LeO.bind ?_ (fun _ => ?_))
   | exact ih0 _ _ _ _
   | exact q24.mono _ _ _ _
   | exact LeO.none _
   | refine LeO.ite ?_ ?_
   | refine LeO.bind ?_ (fun _ => ?_)
theorem q25.mono : ∀ a0 a1 a2 k, LeO (q25.f k a0 a1 a2) (q25.f (k + 1) a0 a1 a2) := by
 intro a0 a1 a2 k
 have ih0 := q25.mono_l k
 unfold q25.f
 repeat' first
  | (with_reducible exact ih0 _ _ _ _)
  | (with_reducible exact q24.mono _ _ _ _)
  | (with_reducible exact LeO.refl _)
  | (with_reducible exact LeO.none _)
  | (with_reducible refine LeO.ite ?_ ?_)
  | (with_reducible refine LeO.bind ?_ (fun _ => ?_))
  | exact ih0 _ _ _ _
  | exact q24.mono _ _ _ _
  | exact LeO.none _
  | refine LeO.ite ?_ ?_
  | refine LeO.bind ?_ (fun _ => ?_)
mutual
def q19.l0 : Nat → Int → ByteArray → Int → List ByteArray → List (S41) → Option (Bool)
 | 0, _, _, _, _, _ => none
 | k + 1, x1, x2, x7, x108000, x108001 => if x1 ≥ 0 then (q19.j1 k x1 x2 x7 (decide (x7 ≤ (x108001.length : Int))) x108000 x108001) else (q19.j1 k x1 x2 x7 false x108000 x108001)
def q19.j1 : Nat → Int → ByteArray → Int → Bool → List ByteArray → List (S41) → Option (Bool)
 | 0, _, _, _, _, _, _ => none
 | k + 1, x1, x2, x7, x16, x108000, x108001 => if x16 = true then (if 0 ≤ x1 then (if x1 < (x108001.length : Int) then (if ((q84 x108001 x1).f0).toList = x2.toList then (some true) else ((q24.f k x108000 x108001 ((q84 x108001 x1).f2)).bind fun t110 => (q19.l0 k t110 x2 (wrap64 (x7 + 1)) x108000 x108001))) else (none)) else (none)) else (some false)
end
def q19.f (k : Nat) (l0_0 : List ByteArray) (l0_1 : List (S41)) (a1 : Int) (a2 : ByteArray) : Option (Bool) := q19.l0 k a1 a2 0 l0_0 l0_1
theorem q19.mono_l : ∀ k, (∀ y0 y1 y2 y3 y4, LeO (q19.l0 k y0 y1 y2 y3 y4) (q19.l0 (k + 1) y0 y1 y2 y3 y4)) ∧ (∀ y0 y1 y2 y3 y4 y5, LeO (q19.j1 k y0 y1 y2 y3 y4 y5) (q19.j1 (k + 1) y0 y1 y2 y3 y4 y5))
 | 0 => ⟨fun _ _ _ _ _ r h => by simp [q19.l0] at h, fun _ _ _ _ _ _ r h => by simp [q19.j1] at h⟩
 | k + 1 => by
  obtain ⟨ih0, ih1⟩ := q19.mono_l k
  refine ⟨?_, ?_⟩
  intro y0 y1 y2 y3 y4
  unfold q19.l0
  rotate_left
  intro y0 y1 y2 y3 y4 y5
  unfold q19.j1
  rotate_left
  all_goals repeat' first
   | (with_reducible exact ih0 _ _ _ _ _)
   | (with_reducible exact ih1 _ _ _ _ _ _)
   | (with_reducible exact q24.mono _ _ _ _)
   | (with_reducible exact LeO.refl _)
   | (with_reducible exact LeO.none _)
   | (with_reducible refine LeO.ite ?_ ?_)
   | (with_reducible refine LeO.bind ?_ (fun _ => ?_))
   | exact ih0 _ _ _ _ _
   | exact ih1 _ _ _ _ _ _
   | exact q24.mono _ _ _ _
   | exact LeO.none _
   | refine LeO.ite ?_ ?_
   | refine LeO.bind ?_ (fun _ => ?_)
theorem q19.mono : ∀ a0 a1 a2 a3 k, LeO (q19.f k a0 a1 a2 a3) (q19.f (k + 1) a0 a1 a2 a3) := by
 intro a0 a1 a2 a3 k
 obtain ⟨ih0, ih1⟩ := q19.mono_l k
 unfold q19.f
 repeat' first
  | (with_reducible exact ih0 _ _ _ _ _)
  | (with_reducible exact ih1 _ _ _ _ _ _)
  | (with_reducible exact q24.mono _ _ _ _)
  | (with_reducible exact LeO.refl _)
  | (with_reducible exact LeO.none _)
  | (with_reducible refine LeO.ite ?_ ?_)
  | (with_reducible refine LeO.bind ?_ (fun _ => ?_))
  | exact ih0 _ _ _ _ _
  | exact ih1 _ _ _ _ _ _
  | exact q24.mono _ _ _ _
  | exact LeO.none _
  | refine LeO.ite ?_ ?_
  | refine LeO.bind ?_ (fun _ => ?_)
mutual
def q29.j0 : Nat → Int → Bool → List ByteArray → List (S41) → ByteArray → Int → ByteArray → Bool → Int → List (S45) → List (S45) → Option (Bool)
 | 0, _, _, _, _, _, _, _, _, _, _, _ => none
 | k + 1, x1, x34, x115000, x115001, x117000, x117001, x117002, x117003, x117004, x117005, x117006 => if x34 = true then (some false) else (if x117001 = 5 then (if x117004 ≥ 1 then (q29.j1 k x1 (decide (x117004 ≤ 100)) x115000 x115001 x117000 x117001 x117002 x117003 x117004 x117005 x117006) else (q29.j1 k x1 false x115000 x115001 x117000 x117001 x117002 x117003 x117004 x117005 x117006)) else (q29.j1 k x1 (x117004 == 0) x115000 x115001 x117000 x117001 x117002 x117003 x117004 x117005 x117006))
def q29.j1 : Nat → Int → Bool → List ByteArray → List (S41) → ByteArray → Int → ByteArray → Bool → Int → List (S45) → List (S45) → Option (Bool)
 | 0, _, _, _, _, _, _, _, _, _, _, _ => none
 | k + 1, x1, x6, x115000, x115001, x117000, x117001, x117002, x117003, x117004, x117005, x117006 => if x6 = true then (if x117001 ≥ 4 then (if x117003 = true then (q29.j2 k x1 true x115000 x115001 x117000 x117001 x117002 x117003 x117004 x117005 x117006) else (q29.j2 k x1 (decide ((x117005.length : Int) > 0)) x115000 x115001 x117000 x117001 x117002 x117003 x117004 x117005 x117006)) else (q29.j2 k x1 false x115000 x115001 x117000 x117001 x117002 x117003 x117004 x117005 x117006)) else (q29.j2 k x1 true x115000 x115001 x117000 x117001 x117002 x117003 x117004 x117005 x117006)
def q29.j2 : Nat → Int → Bool → List ByteArray → List (S41) → ByteArray → Int → ByteArray → Bool → Int → List (S45) → List (S45) → Option (Bool)
 | 0, _, _, _, _, _, _, _, _, _, _, _ => none
 | k + 1, x1, x65, x115000, x115001, x117000, x117001, x117002, x117003, x117004, x117005, x117006 => if x65 = true then (some false) else (if x1 = 0 then (if x117001 = 1 then (if x117002.toList = ([] : List UInt8) then (if x117003 = true then (some false) else (if (x117005.length : Int) = 0 then (some ((x117006.length : Int) == 0)) else (some false))) else (some false)) else (some false)) else ((q24.f k x115000 x115001 x117002).bind fun t119 => (if x117002.toList = ([] : List UInt8) then (some false) else (if t119 ≥ 0 then (if t119 < x1 then (if 0 ≤ t119 then (if t119 < (x115001.length : Int) then (if ((q84 x115001 t119).f1) = 1 then ((q19.f k x115000 x115001 (wrap64 (x1 - 1)) x117002).bind fun t121 => (if t121 = true then ((q25.f k x115000 x115001 x1).bind fun t122 => (if t122 ≥ 1 then ((q25.f k x115000 x115001 x1).bind fun t123 => (some (decide (t123 ≤ 5)))) else (some false))) else (some false))) else (some false)) else (none)) else (none)) else (some false)) else (some false)))))
end
def q29.f (k : Nat) (l0_0 : List ByteArray) (l0_1 : List (S41)) (a1 : Int) : Option (Bool) := if 0 ≤ a1 then (if a1 < (l0_1.length : Int) then ((q38.f k ((q84 l0_1 a1).f0)).bind fun t117 => (if t117 = true then ((q24.f k l0_0 l0_1 ((q84 l0_1 a1).f0)).bind fun t118 => (if t118 = a1 then (if ((q84 l0_1 a1).f1) < 1 then (q29.j0 k a1 true l0_0 l0_1 ((q84 l0_1 a1).f0) ((q84 l0_1 a1).f1) ((q84 l0_1 a1).f2) ((q84 l0_1 a1).f3) ((q84 l0_1 a1).f4) ((q84 l0_1 a1).f5) ((q84 l0_1 a1).f6)) else (q29.j0 k a1 (decide (((q84 l0_1 a1).f1) > 5)) l0_0 l0_1 ((q84 l0_1 a1).f0) ((q84 l0_1 a1).f1) ((q84 l0_1 a1).f2) ((q84 l0_1 a1).f3) ((q84 l0_1 a1).f4) ((q84 l0_1 a1).f5) ((q84 l0_1 a1).f6))) else (q29.j0 k a1 true l0_0 l0_1 ((q84 l0_1 a1).f0) ((q84 l0_1 a1).f1) ((q84 l0_1 a1).f2) ((q84 l0_1 a1).f3) ((q84 l0_1 a1).f4) ((q84 l0_1 a1).f5) ((q84 l0_1 a1).f6)))) else (q29.j0 k a1 true l0_0 l0_1 ((q84 l0_1 a1).f0) ((q84 l0_1 a1).f1) ((q84 l0_1 a1).f2) ((q84 l0_1 a1).f3) ((q84 l0_1 a1).f4) ((q84 l0_1 a1).f5) ((q84 l0_1 a1).f6)))) else (none)) else (none)
theorem q29.mono_l : ∀ k, (∀ y0 y1 y2 y3 y4 y5 y6 y7 y8 y9 y10, LeO (q29.j0 k y0 y1 y2 y3 y4 y5 y6 y7 y8 y9 y10) (q29.j0 (k + 1) y0 y1 y2 y3 y4 y5 y6 y7 y8 y9 y10)) ∧ (∀ y0 y1 y2 y3 y4 y5 y6 y7 y8 y9 y10, LeO (q29.j1 k y0 y1 y2 y3 y4 y5 y6 y7 y8 y9 y10) (q29.j1 (k + 1) y0 y1 y2 y3 y4 y5 y6 y7 y8 y9 y10)) ∧ (∀ y0 y1 y2 y3 y4 y5 y6 y7 y8 y9 y10, LeO (q29.j2 k y0 y1 y2 y3 y4 y5 y6 y7 y8 y9 y10) (q29.j2 (k + 1) y0 y1 y2 y3 y4 y5 y6 y7 y8 y9 y10))
 | 0 => ⟨fun _ _ _ _ _ _ _ _ _ _ _ r h => by simp [q29.j0] at h, fun _ _ _ _ _ _ _ _ _ _ _ r h => by simp [q29.j1] at h, fun _ _ _ _ _ _ _ _ _ _ _ r h => by simp [q29.j2] at h⟩
 | k + 1 => by
  obtain ⟨ih0, ih1, ih2⟩ := q29.mono_l k
  refine ⟨?_, ?_, ?_⟩
  intro y0 y1 y2 y3 y4 y5 y6 y7 y8 y9 y10
  unfold q29.j0
  rotate_left
  intro y0 y1 y2 y3 y4 y5 y6 y7 y8 y9 y10
  unfold q29.j1
  rotate_left
  intro y0 y1 y2 y3 y4 y5 y6 y7 y8 y9 y10
  unfold q29.j2
  rotate_left
  all_goals repeat' first
   | (with_reducible exact ih0 _ _ _ _ _ _ _ _ _ _ _)
   | (with_reducible exact ih1 _ _ _ _ _ _ _ _ _ _ _)
   | (with_reducible exact ih2 _ _ _ _ _ _ _ _ _ _ _)
   | (with_reducible exact q38.mono _ _)
   | (with_reducible exact q25.mono _ _ _ _)
   | (with_reducible exact q24.mono _ _ _ _)
   | (with_reducible exact q19.mono _ _ _ _ _)
   | (with_reducible exact LeO.refl _)
   | (with_reducible exact LeO.none _)
   | (with_reducible refine LeO.ite ?_ ?_)
   | (with_reducible refine LeO.bind ?_ (fun _ => ?_))
   | exact ih0 _ _ _ _ _ _ _ _ _ _ _
   | exact ih1 _ _ _ _ _ _ _ _ _ _ _
   | exact ih2 _ _ _ _ _ _ _ _ _ _ _
   | exact q38.mono _ _
   | exact q25.mono _ _ _ _
   | exact q24.mono _ _ _ _
   | exact q19.mono _ _ _ _ _
   | exact LeO.none _
   | refine LeO.ite ?_ ?_
   | refine LeO.bind ?_ (fun _ => ?_)
theorem q29.mono : ∀ a0 a1 a2 k, LeO (q29.f k a0 a1 a2) (q29.f (k + 1) a0 a1 a2) := by
 intro a0 a1 a2 k
 obtain ⟨ih0, ih1, ih2⟩ := q29.mono_l k
 unfold q29.f
 repeat' first
  | (with_reducible exact ih0 _ _ _ _ _ _ _ _ _ _ _)
  | (with_reducible exact ih1 _ _ _ _ _ _ _ _ _ _ _)
  | (with_reducible exact ih2 _ _ _ _ _ _ _ _ _ _ _)
  | (with_reducible exact q38.mono _ _)
  | (with_reducible exact q25.mono _ _ _ _)
  | (with_reducible exact q24.mono _ _ _ _)
  | (with_reducible exact q19.mono _ _ _ _ _)
  | (with_reducible exact LeO.refl _)
  | (with_reducible exact LeO.none _)
  | (with_reducible refine LeO.ite ?_ ?_)
  | (with_reducible refine LeO.bind ?_ (fun _ => ?_))
  | exact ih0 _ _ _ _ _ _ _ _ _ _ _
  | exact ih1 _ _ _ _ _ _ _ _ _ _ _
  | exact ih2 _ _ _ _ _ _ _ _ _ _ _
  | exact q38.mono _ _
  | exact q25.mono _ _ _ _
  | exact q24.mono _ _ _ _
  | exact q19.mono _ _ _ _ _
  | exact LeO.none _
  | refine LeO.ite ?_ ?_
  | refine LeO.bind ?_ (fun _ => ?_)
mutual
def q23.j0 : Nat → Int → Int → Bool → Option (Bool)
 | 0, _, _, _ => none
 | k + 1, x0, x1, x10 => if x10 = true then (some false) else (if x1 = 1 then (q23.j1 k x0 x1 (x1 == 1)) else (q23.j1 k x0 x1 (x1 == 5)))
def q23.j1 : Nat → Int → Int → Bool → Option (Bool)
 | 0, _, _, _ => none
 | k + 1, x0, x11, x12 => if x12 = true then (some true) else (if x11 = 2 then (q23.j2 k x0 x11 (x11 == 2)) else (q23.j2 k x0 x11 (x11 == 3)))
def q23.j2 : Nat → Int → Int → Bool → Option (Bool)
 | 0, _, _, _ => none
 | k + 1, x0, x11, x15 => if x15 = true then (some (decide (x0 ≤ 2))) else (if x11 = 4 then (some (decide (x0 > 2))) else (some false))
end
def q23.f (k : Nat) (a0 : Int) (a1 : Int) : Option (Bool) := if a0 < 1 then (q23.j0 k a0 a1 true) else (q23.j0 k a0 a1 (decide (a0 > 5)))
theorem q23.mono_l : ∀ k, (∀ y0 y1 y2, LeO (q23.j0 k y0 y1 y2) (q23.j0 (k + 1) y0 y1 y2)) ∧ (∀ y0 y1 y2, LeO (q23.j1 k y0 y1 y2) (q23.j1 (k + 1) y0 y1 y2)) ∧ (∀ y0 y1 y2, LeO (q23.j2 k y0 y1 y2) (q23.j2 (k + 1) y0 y1 y2))
 | 0 => ⟨fun _ _ _ r h => by simp [q23.j0] at h, fun _ _ _ r h => by simp [q23.j1] at h, fun _ _ _ r h => by simp [q23.j2] at h⟩
 | k + 1 => by
  obtain ⟨ih0, ih1, ih2⟩ := q23.mono_l k
  refine ⟨?_, ?_, ?_⟩
  intro y0 y1 y2
  unfold q23.j0
  rotate_left
  intro y0 y1 y2
  unfold q23.j1
  rotate_left
  intro y0 y1 y2
  unfold q23.j2
  rotate_left
  all_goals repeat' first
   | (with_reducible exact ih0 _ _ _)
   | (with_reducible exact ih1 _ _ _)
   | (with_reducible exact ih2 _ _ _)
   | (with_reducible exact LeO.refl _)
   | (with_reducible exact LeO.none _)
   | (with_reducible refine LeO.ite ?_ ?_)
   | (with_reducible refine LeO.bind ?_ (fun _ => ?_))
   | exact ih0 _ _ _
   | exact ih1 _ _ _
   | exact ih2 _ _ _
   | exact LeO.none _
   | refine LeO.ite ?_ ?_
   | refine LeO.bind ?_ (fun _ => ?_)
theorem q23.mono : ∀ a0 a1 k, LeO (q23.f k a0 a1) (q23.f (k + 1) a0 a1) := by
 intro a0 a1 k
 obtain ⟨ih0, ih1, ih2⟩ := q23.mono_l k
 unfold q23.f
 repeat' first
  | (with_reducible exact ih0 _ _ _)
  | (with_reducible exact ih1 _ _ _)
  | (with_reducible exact ih2 _ _ _)
  | (with_reducible exact LeO.refl _)
  | (with_reducible exact LeO.none _)
  | (with_reducible refine LeO.ite ?_ ?_)
  | (with_reducible refine LeO.bind ?_ (fun _ => ?_))
  | exact ih0 _ _ _
  | exact ih1 _ _ _
  | exact ih2 _ _ _
  | exact LeO.none _
  | refine LeO.ite ?_ ?_
  | refine LeO.bind ?_ (fun _ => ?_)
def q37.l0 : Nat → ByteArray → List ByteArray → Int → Option (Int)
 | 0, _, _, _ => none
 | k + 1, x0, x3, x4 => if x4 < (x3.length : Int) then (if 0 ≤ x4 then (if (rdOf ByteArray.empty x3 x4).toList = x0.toList then (some x4) else (q37.l0 k x0 x3 (wrap64 (x4 + 1)))) else (none)) else (some (-1))
def q37.f (k : Nat) (a0 : ByteArray) : Option (Int) := q37.l0 k a0 (([(⟨#[60]⟩ : ByteArray), (⟨#[60, 61]⟩ : ByteArray), (⟨#[61]⟩ : ByteArray), (⟨#[33, 61]⟩ : ByteArray), (⟨#[62, 61]⟩ : ByteArray), (⟨#[62]⟩ : ByteArray)] : List ByteArray)) 0
theorem q37.mono_l : ∀ k, (∀ y0 y1 y2, LeO (q37.l0 k y0 y1 y2) (q37.l0 (k + 1) y0 y1 y2))
 | 0 => fun _ _ _ r h => by simp [q37.l0] at h
 | k + 1 => by
  have ih0 := q37.mono_l k
  ·intro y0 y1 y2
   unfold q37.l0
   repeat' first
   | (with_reducible exact ih0 _ _ _)
   | (with_reducible exact LeO.refl _)
   | (with_reducible exact LeO.none _)
   | (with_reducible refine LeO.ite ?_ ?_)
   | (with_reducible refine LeO.bind ?_ (fun _ => ?_))
   | exact ih0 _ _ _
   | exact LeO.none _
   | refine LeO.ite ?_ ?_
   | refine LeO.bind ?_ (fun _ => ?_)
theorem q37.mono : ∀ a0 k, LeO (q37.f k a0) (q37.f (k + 1) a0) := by
 intro a0 k
 have ih0 := q37.mono_l k
 unfold q37.f
 repeat' first
  | (with_reducible exact ih0 _ _ _)
  | (with_reducible exact LeO.refl _)
  | (with_reducible exact LeO.none _)
  | (with_reducible refine LeO.ite ?_ ?_)
  | (with_reducible refine LeO.bind ?_ (fun _ => ?_))
  | exact ih0 _ _ _
  | exact LeO.none _
  | refine LeO.ite ?_ ?_
  | refine LeO.bind ?_ (fun _ => ?_)
end Go.Proofs.Yteddgedacjdjgaa.Pm
end
section
namespace Go.Proofs.Yteddgedacjdjgaa.Pm
open Go.RowKit Go.Proofs.YteddgedacjdjgaaW.PrintWords Go.Proofs.YteddgedacjdjgaaW.PrintLast Go.Proofs.YteddgedacjdjgaaW.PrintMore
attribute [local go_sem] max2_int min2_int max_two min_two max_three min_three max_four min_four   -- for this text's walks alone
set_option linter.unusedVariables false
set_option linter.unusedSimpArgs false
attribute [local go_sem high] eqA101
mutual
def q22.j0 : Nat → Bool → List ByteArray → List (S41) → List (S101) → List (S90) → Option (Bool)
 | 0, _, _, _, _, _ => none
 | k + 1, x29, x129000, x129001, x130000, x130001 => if x29 = true then (some false) else (q22.l0 k 0 x129000 x129001 x130000 x130001)
def q22.l0 : Nat → Int → List ByteArray → List (S41) → List (S101) → List (S90) → Option (Bool)
 | 0, _, _, _, _, _ => none
 | k + 1, x5, x129000, x129001, x130000, x130001 => if x5 < (x130000.length : Int) then (if 0 ≤ x5 then ((q24.f k x129000 x129001 ((q79 x130000 x5).f0)).bind fun t131 => (if t131 < 0 then (q22.j2 k x5 true x129000 x129001 x130000 x130001) else (if 0 ≤ t131 then (if t131 < (x129001.length : Int) then ((q23.f k ((q84 x129001 t131).f1) ((q79 x130000 x5).f1)).bind fun t134 => (q22.j2 k x5 (!t134) x129000 x129001 x130000 x130001)) else (none)) else (none)))) else (none)) else (q22.l2 k 0 x129000 x129001 x130000 x130001)
def q22.j2 : Nat → Int → Bool → List ByteArray → List (S41) → List (S101) → List (S90) → Option (Bool)
 | 0, _, _, _, _, _, _ => none
 | k + 1, x5, x62, x129000, x129001, x130000, x130001 => if x62 = true then (some false) else (q22.l1 k x5 0 x129000 x129001 x130000 x130001)
def q22.l1 : Nat → Int → Int → List ByteArray → List (S41) → List (S101) → List (S90) → Option (Bool)
 | 0, _, _, _, _, _, _ => none
 | k + 1, x5, x7, x129000, x129001, x130000, x130001 => if x7 < x5 then (if 0 ≤ x7 then (if x7 < (x130000.length : Int) then (if 0 ≤ x5 then (if x5 < (x130000.length : Int) then (if ((((q79 x130000 x7).f0).toList) == (((q79 x130000 x5).f0).toList) && (((q79 x130000 x7).f1) == ((q79 x130000 x5).f1))) = true then (some false) else (q22.l1 k x5 (wrap64 (x7 + 1)) x129000 x129001 x130000 x130001)) else (none)) else (none)) else (none)) else (none)) else (q22.l0 k (wrap64 (x5 + 1)) x129000 x129001 x130000 x130001)
def q22.l2 : Nat → Int → List ByteArray → List (S41) → List (S101) → List (S90) → Option (Bool)
 | 0, _, _, _, _, _ => none
 | k + 1, x8, x129000, x129001, x130000, x130001 => if x8 < (x130001.length : Int) then (if 0 ≤ x8 then ((q31.f k x129000 ((q87 x130001 x8).f0)).bind fun t139 => (if t139 = true then ((q37.f k ((q87 x130001 x8).f1)).bind fun t140 => (if t140 < 0 then (some false) else (if ((q87 x130001 x8).f2) < (-1000000) then (some false) else (if ((q87 x130001 x8).f2) > 1000000 then (some false) else (q22.l2 k (wrap64 (x8 + 1)) x129000 x129001 x130000 x130001))))) else (some false))) else (none)) else (some true)
end
def q22.f (k : Nat) (l0_0 : List ByteArray) (l0_1 : List (S41)) (l1_0 : List (S101)) (l1_1 : List (S90)) : Option (Bool) := if (l1_0.length : Int) > 3 then (q22.j0 k true l0_0 l0_1 l1_0 l1_1) else (if (l1_1.length : Int) > 2 then (q22.j0 k true l0_0 l0_1 l1_0 l1_1) else (q22.j0 k ((wrap64 ((l1_0.length : Int) + (l1_1.length : Int))) == 0) l0_0 l0_1 l1_0 l1_1))
theorem q22.mono_l : ∀ k, (∀ y0 y1 y2 y3 y4, LeO (q22.j0 k y0 y1 y2 y3 y4) (q22.j0 (k + 1) y0 y1 y2 y3 y4)) ∧ (∀ y0 y1 y2 y3 y4, LeO (q22.l0 k y0 y1 y2 y3 y4) (q22.l0 (k + 1) y0 y1 y2 y3 y4)) ∧ (∀ y0 y1 y2 y3 y4 y5, LeO (q22.j2 k y0 y1 y2 y3 y4 y5) (q22.j2 (k + 1) y0 y1 y2 y3 y4 y5)) ∧ (∀ y0 y1 y2 y3 y4 y5, LeO (q22.l1 k y0 y1 y2 y3 y4 y5) (q22.l1 (k + 1) y0 y1 y2 y3 y4 y5)) ∧ (∀ y0 y1 y2 y3 y4, LeO (q22.l2 k y0 y1 y2 y3 y4) (q22.l2 (k + 1) y0 y1 y2 y3 y4))
 | 0 => ⟨fun _ _ _ _ _ r h => by simp [q22.j0] at h, fun _ _ _ _ _ r h => by simp [q22.l0] at h, fun _ _ _ _ _ _ r h => by simp [q22.j2] at h, fun _ _ _ _ _ _ r h => by simp [q22.l1] at h, fun _ _ _ _ _ r h => by simp [q22.l2] at h⟩
 | k + 1 => by
  obtain ⟨ih0, ih1, ih2, ih3, ih4⟩ := q22.mono_l k
  refine ⟨?_, ?_, ?_, ?_, ?_⟩
  intro y0 y1 y2 y3 y4
  unfold q22.j0
  rotate_left
  intro y0 y1 y2 y3 y4
  unfold q22.l0
  rotate_left
  intro y0 y1 y2 y3 y4 y5
  unfold q22.j2
  rotate_left
  intro y0 y1 y2 y3 y4 y5
  unfold q22.l1
  rotate_left
  intro y0 y1 y2 y3 y4
  unfold q22.l2
  rotate_left
  all_goals repeat' first
   | (with_reducible exact ih0 _ _ _ _ _)
   | (with_reducible exact ih1 _ _ _ _ _)
   | (with_reducible exact ih2 _ _ _ _ _ _)
   | (with_reducible exact ih3 _ _ _ _ _ _)
   | (with_reducible exact ih4 _ _ _ _ _)
   | (with_reducible exact q31.mono _ _ _)
   | (with_reducible exact q23.mono _ _ _)
   | (with_reducible exact q37.mono _ _)
   | (with_reducible exact q24.mono _ _ _ _)
   | (with_reducible exact LeO.refl _)
   | (with_reducible exact LeO.none _)
   | (with_reducible refine LeO.ite ?_ ?_)
   | (with_reducible refine LeO.bind ?_ (fun _ => ?_))
   | exact ih0 _ _ _ _ _
   | exact ih1 _ _ _ _ _
   | exact ih2 _ _ _ _ _ _
   | exact ih3 _ _ _ _ _ _
   | exact ih4 _ _ _ _ _
   | exact q31.mono _ _ _
   | exact q23.mono _ _ _
   | exact q37.mono _ _
   | exact q24.mono _ _ _ _
   | exact LeO.none _
   | refine LeO.ite ?_ ?_
   | refine LeO.bind ?_ (fun _ => ?_)
theorem q22.mono : ∀ a0 a1 a2 a3 k, LeO (q22.f k a0 a1 a2 a3) (q22.f (k + 1) a0 a1 a2 a3) := by
 intro a0 a1 a2 a3 k
 obtain ⟨ih0, ih1, ih2, ih3, ih4⟩ := q22.mono_l k
 unfold q22.f
 repeat' first
  | (with_reducible exact ih0 _ _ _ _ _)
  | (with_reducible exact ih1 _ _ _ _ _)
  | (with_reducible exact ih2 _ _ _ _ _ _)
  | (with_reducible exact ih3 _ _ _ _ _ _)
  | (with_reducible exact ih4 _ _ _ _ _)
  | (with_reducible exact q31.mono _ _ _)
  | (with_reducible exact q23.mono _ _ _)
  | (with_reducible exact q37.mono _ _)
  | (with_reducible exact q24.mono _ _ _ _)
  | (with_reducible exact LeO.refl _)
  | (with_reducible exact LeO.none _)
  | (with_reducible refine LeO.ite ?_ ?_)
  | (with_reducible refine LeO.bind ?_ (fun _ => ?_))
  | exact ih0 _ _ _ _ _
  | exact ih1 _ _ _ _ _
  | exact ih2 _ _ _ _ _ _
  | exact ih3 _ _ _ _ _ _
  | exact ih4 _ _ _ _ _
  | exact q31.mono _ _ _
  | exact q23.mono _ _ _
  | exact q37.mono _ _
  | exact q24.mono _ _ _ _
  | exact LeO.none _
  | refine LeO.ite ?_ ?_
  | refine LeO.bind ?_ (fun _ => ?_)
end Go.Proofs.Yteddgedacjdjgaa.Pm
end
section
namespace Go.Proofs.Yteddgedacjdjgaa.Pm
open Go.RowKit Go.Proofs.YteddgedacjdjgaaW.PrintWords Go.Proofs.YteddgedacjdjgaaW.PrintLast Go.Proofs.YteddgedacjdjgaaW.PrintMore
attribute [local go_sem] max2_int min2_int max_two min_two max_three min_three max_four min_four   -- for this text's walks alone
set_option linter.unusedVariables false
set_option linter.unusedSimpArgs false
def q16.l0 : Nat → List (S45) → Int → List ByteArray → List (S41) → Option (Bool)
 | 0, _, _, _, _ => none
 | k + 1, x1, x5, x142000, x142001 => if x5 < (x1.length : Int) then (if 0 ≤ x5 then ((q22.f k x142000 x142001 ((q85 x1 x5).f0) ((q85 x1 x5).f1)).bind fun t143 => (if t143 = true then (q16.l0 k x1 (wrap64 (x5 + 1)) x142000 x142001) else (some false))) else (none)) else (some (decide ((x1.length : Int) ≤ 3)))
def q16.f (k : Nat) (l0_0 : List ByteArray) (l0_1 : List (S41)) (l1 : List (S45)) : Option (Bool) := q16.l0 k l1 0 l0_0 l0_1
theorem q16.mono_l : ∀ k, (∀ y0 y1 y2 y3, LeO (q16.l0 k y0 y1 y2 y3) (q16.l0 (k + 1) y0 y1 y2 y3))
 | 0 => fun _ _ _ _ r h => by simp [q16.l0] at h
 | k + 1 => by
  have ih0 := q16.mono_l k
  ·intro y0 y1 y2 y3
   unfold q16.l0
   repeat' first
   | (with_reducible exact ih0 _ _ _ _)
   | (with_reducible exact q22.mono _ _ _ _ _)
   | (with_reducible exact LeO.refl _)
   | (with_reducible exact LeO.none _)
   | (with_reducible refine LeO.ite ?_ ?_)
   | (with_reducible refine LeO.bind ?_ (fun _ => ?_))
   | exact ih0 _ _ _ _
   | exact q22.mono _ _ _ _ _
   | exact LeO.none _
   | refine LeO.ite ?_ ?_
   | refine LeO.bind ?_ (fun _ => ?_)
theorem q16.mono : ∀ a0 a1 a2 k, LeO (q16.f k a0 a1 a2) (q16.f (k + 1) a0 a1 a2) := by
 intro a0 a1 a2 k
 have ih0 := q16.mono_l k
 unfold q16.f
 repeat' first
  | (with_reducible exact ih0 _ _ _ _)
  | (with_reducible exact q22.mono _ _ _ _ _)
  | (with_reducible exact LeO.refl _)
  | (with_reducible exact LeO.none _)
  | (with_reducible refine LeO.ite ?_ ?_)
  | (with_reducible refine LeO.bind ?_ (fun _ => ?_))
  | exact ih0 _ _ _ _
  | exact q22.mono _ _ _ _ _
  | exact LeO.none _
  | refine LeO.ite ?_ ?_
  | refine LeO.bind ?_ (fun _ => ?_)
mutual
def q35.j0 : Nat → Bool → List ByteArray → List (S41) → Option (Bool)
 | 0, _, _, _ => none
 | k + 1, x21, x145000, x145001 => if x21 = true then (some false) else (q35.l0 k 0 x145000 x145001)
def q35.l0 : Nat → Int → List ByteArray → List (S41) → Option (Bool)
 | 0, _, _, _ => none
 | k + 1, x3, x145000, x145001 => if x3 < (x145000.length : Int) then (if 0 ≤ x3 then ((q38.f k (rdOf ByteArray.empty x145000 x3)).bind fun t146 => (if t146 = true then (if x3 ≤ (x145000.length : Int) then ((q31.f k (x145000.take (x3 : Int).toNat) (rdOf ByteArray.empty x145000 x3)).bind fun t149 => (if t149 = true then (some false) else (q35.l0 k (wrap64 (x3 + 1)) x145000 x145001))) else (none)) else (some false))) else (none)) else (q35.l1 k 0 x145000 x145001)
def q35.l1 : Nat → Int → List ByteArray → List (S41) → Option (Bool)
 | 0, _, _, _ => none
 | k + 1, x4, x145000, x145001 => if x4 < (x145001.length : Int) then ((q29.f k x145000 x145001 x4).bind fun t150 => (if t150 = true then (q35.l1 k (wrap64 (x4 + 1)) x145000 x145001) else (some false))) else (q35.l2 k 0 x145000 x145001)
def q35.l2 : Nat → Int → List ByteArray → List (S41) → Option (Bool)
 | 0, _, _, _ => none
 | k + 1, x5, x145000, x145001 => if x5 < (x145001.length : Int) then (if 0 ≤ x5 then ((q16.f k x145000 x145001 ((q84 x145001 x5).f5)).bind fun t152 => (if t152 = true then ((q16.f k x145000 x145001 ((q84 x145001 x5).f6)).bind fun t154 => (if t154 = true then (q35.l2 k (wrap64 (x5 + 1)) x145000 x145001) else (some false))) else (some false))) else (none)) else (some true)
end
def q35.f (k : Nat) (l0_0 : List ByteArray) (l0_1 : List (S41)) : Option (Bool) := if (l0_0.length : Int) > 6 then (q35.j0 k true l0_0 l0_1) else (if (l0_1.length : Int) < 1 then (q35.j0 k true l0_0 l0_1) else (q35.j0 k (decide ((l0_1.length : Int) > 16)) l0_0 l0_1))
theorem q35.mono_l : ∀ k, (∀ y0 y1 y2, LeO (q35.j0 k y0 y1 y2) (q35.j0 (k + 1) y0 y1 y2)) ∧ (∀ y0 y1 y2, LeO (q35.l0 k y0 y1 y2) (q35.l0 (k + 1) y0 y1 y2)) ∧ (∀ y0 y1 y2, LeO (q35.l1 k y0 y1 y2) (q35.l1 (k + 1) y0 y1 y2)) ∧ (∀ y0 y1 y2, LeO (q35.l2 k y0 y1 y2) (q35.l2 (k + 1) y0 y1 y2))
 | 0 => ⟨fun _ _ _ r h => by simp [q35.j0] at h, fun _ _ _ r h => by simp [q35.l0] at h, fun _ _ _ r h => by simp [q35.l1] at h, fun _ _ _ r h => by simp [q35.l2] at h⟩
 | k + 1 => by
  obtain ⟨ih0, ih1, ih2, ih3⟩ := q35.mono_l k
  refine ⟨?_, ?_, ?_, ?_⟩
  intro y0 y1 y2
  unfold q35.j0
  rotate_left
  intro y0 y1 y2
  unfold q35.l0
  rotate_left
  intro y0 y1 y2
  unfold q35.l1
  rotate_left
  intro y0 y1 y2
  unfold q35.l2
  rotate_left
  all_goals repeat' first
   | (with_reducible exact ih0 _ _ _)
   | (with_reducible exact ih1 _ _ _)
   | (with_reducible exact ih2 _ _ _)
   | (with_reducible exact ih3 _ _ _)
   | (with_reducible exact q38.mono _ _)
   | (with_reducible exact q31.mono _ _ _)
   | (with_reducible exact q29.mono _ _ _ _)
   | (with_reducible exact q16.mono _ _ _ _)
   | (with_reducible exact LeO.refl _)
   | (with_reducible exact LeO.none _)
   | (with_reducible refine LeO.ite ?_ ?_)
   | (with_reducible refine LeO.bind ?_ (fun _ => ?_))
   | exact ih0 _ _ _
   | exact ih1 _ _ _
   | exact ih2 _ _ _
   | exact ih3 _ _ _
   | exact q38.mono _ _
   | exact q31.mono _ _ _
   | exact q29.mono _ _ _ _
   | exact q16.mono _ _ _ _
   | exact LeO.none _
   | refine LeO.ite ?_ ?_
   | refine LeO.bind ?_ (fun _ => ?_)
theorem q35.mono : ∀ a0 a1 k, LeO (q35.f k a0 a1) (q35.f (k + 1) a0 a1) := by
 intro a0 a1 k
 obtain ⟨ih0, ih1, ih2, ih3⟩ := q35.mono_l k
 unfold q35.f
 repeat' first
  | (with_reducible exact ih0 _ _ _)
  | (with_reducible exact ih1 _ _ _)
  | (with_reducible exact ih2 _ _ _)
  | (with_reducible exact ih3 _ _ _)
  | (with_reducible exact q38.mono _ _)
  | (with_reducible exact q31.mono _ _ _)
  | (with_reducible exact q29.mono _ _ _ _)
  | (with_reducible exact q16.mono _ _ _ _)
  | (with_reducible exact LeO.refl _)
  | (with_reducible exact LeO.none _)
  | (with_reducible refine LeO.ite ?_ ?_)
  | (with_reducible refine LeO.bind ?_ (fun _ => ?_))
  | exact ih0 _ _ _
  | exact ih1 _ _ _
  | exact ih2 _ _ _
  | exact ih3 _ _ _
  | exact q38.mono _ _
  | exact q31.mono _ _ _
  | exact q29.mono _ _ _ _
  | exact q16.mono _ _ _ _
  | exact LeO.none _
  | refine LeO.ite ?_ ?_
  | refine LeO.bind ?_ (fun _ => ?_)
def q55.l0 : Nat → List ByteArray → List (S41) → Int → Int → Option (List ByteArray)
 | 0, _, _, _, _ => none
 | k + 1, x3, x7, x8, x9 => if x9 < x8 then (if 0 ≤ x9 then (if x9 < (x7.length : Int) then (if x3.length < 8796093022208 then (q55.l0 k (x3 ++ [(q84 x7 x9).f0]) x7 x8 (wrap64 (x9 + 1))) else (none)) else (none)) else (none)) else (some x3)
def q55.f (k : Nat) (l0_0 : List ByteArray) (l0_1 : List (S41)) : Option (List ByteArray) := q55.l0 k ([] : List ByteArray) l0_1 (l0_1.length : Int) 0
theorem q55.mono_l : ∀ k, (∀ y0 y1 y2 y3, LeO (q55.l0 k y0 y1 y2 y3) (q55.l0 (k + 1) y0 y1 y2 y3))
 | 0 => fun _ _ _ _ r h => by simp [q55.l0] at h
 | k + 1 => by
  have ih0 := q55.mono_l k
  ·intro y0 y1 y2 y3
   unfold q55.l0
   repeat' first
   | (with_reducible exact ih0 _ _ _ _)
   | (with_reducible exact LeO.refl _)
   | (with_reducible exact LeO.none _)
   | (with_reducible refine LeO.ite ?_ ?_)
   | (with_reducible refine LeO.bind ?_ (fun _ => ?_))
   | exact ih0 _ _ _ _
   | exact LeO.none _
   | refine LeO.ite ?_ ?_
   | refine LeO.bind ?_ (fun _ => ?_)
theorem q55.mono : ∀ a0 a1 k, LeO (q55.f k a0 a1) (q55.f (k + 1) a0 a1) := by
 intro a0 a1 k
 have ih0 := q55.mono_l k
 unfold q55.f
 repeat' first
  | (with_reducible exact ih0 _ _ _ _)
  | (with_reducible exact LeO.refl _)
  | (with_reducible exact LeO.none _)
  | (with_reducible refine LeO.ite ?_ ?_)
  | (with_reducible refine LeO.bind ?_ (fun _ => ?_))
  | exact ih0 _ _ _ _
  | exact LeO.none _
  | refine LeO.ite ?_ ?_
  | refine LeO.bind ?_ (fun _ => ?_)
set_option maxHeartbeats 8000000 in
set_option maxRecDepth 100000 in
theorem q55.calls (k : Nat) (A0_0 : Option Addr) (c0_0 : Nat) (l0_0 : List ByteArray) (A0_1 : Option Addr) (c0_1 : Nat) (l0_1 : List (S41)) (r : List ByteArray) (w : World) (hr0_0 : Kd.C Kd.string w A0_0 l0_0.length l0_0) (hc0_0 : l0_0.length ≤ c0_0) (hr0_1 : Kd.C k41 w A0_1 l0_1.length l0_1) (hc0_1 : l0_1.length ≤ c0_1) (h : q55.f k l0_0 l0_1 = some r) :
 Calls Try.prog 56 #[.agg #[.slice A0_0 l0_0.length c0_0, .slice A0_1 l0_1.length c0_1]] w fun e w' => ∃ v0_ : Value, e = .returned (v0_) ∧ Kd.R Kd.string 9 w' w.heap.size (fun _ => True) v0_ r ∧ Below w.heap.size w w' := by
 have hu25 := Try.underlying25
 have hu41 := Try.underlying41
 have HR0_0 := q59.mk hr0_0
 have HC0_0 := q59.mk hc0_0
 clear hr0_0 hc0_0
 have HR0_1 := q59.mk hr0_1
 have HC0_1 := q59.mk hc0_1
 clear hr0_1 hc0_1
 have HB := q59.mk (Below.refl w.heap.size w)
 have H : (q55.l0 k ([] : List ByteArray) l0_1 (l0_1.length : Int) 0) = some r := h
 clear h
 have H' := q59.mk H
 clear H
 go_enter Try.func56, Try.ntmps56
 go_wp2_with (first | ((with_reducible refine q74 (N := 1) rfl ?_); refine bx_ 1 #[.slice A0_0 l0_0.length c0_0, .slice A0_1 l0_1.length c0_1] 25 ?_; intro gb213 hg w2 hbox hb; have BK213 := q59.mk (hbox); have GW213 := zz_ (w := w) hg; have GE213 := zz_ (w := w) hg; replace HB := hb_ HB hb;  clear hb hbox hg; obtain ⟨hcz3_0, hcz3_1, hfz3_0, hfz3_1⟩ := bs2_ BK213))
 go_loopg [3, 9] k (fun kq v3 v9 w' => ∃ (x3_1 : List ByteArray) (x9_1 : Int), v9 = .int .i64 x9_1 ∧ q59 (q55.l0 kq x3_1 l0_1 (l0_1.length : Int) x9_1 = some r) ∧ q59 (kq ≤ k) ∧ q59 (Kd.R Kd.string 9 w' w.heap.size (fun _ => True) v3 x3_1) ∧ q59 (w'.heap[gb213]? = some (.cells #[(.slice A0_0 l0_0.length c0_0), (.slice A0_1 l0_1.length c0_1)] 25 (0, 0))) ∧ q59 (Below w.heap.size w w'))
 case atStart => exact ⟨(([] : List ByteArray)), (0), rf_, H', ⟨Nat.le_refl _⟩, ⟨by first | exact Kd.R_nil _ _ _ _ _ | exact Kd.N_nil _ _ _ _ _ | exact Kd.V_nil _ _ _ _ _ | exact Kd.Q_nil _ _ _ _ _ | exact Kd.S_nil _ _ _ _ _⟩, ⟨gx_ BK213⟩, ⟨hf_⟩⟩
 case round =>
  clear H'
  (try clear hcz3_0); (try clear hcz3_1); (try clear hfz3_0); (try clear hfz3_1)
  obtain ⟨x3_1, x9_1, rfl, HA, HK1, HO_3, BK213, HB⟩ := hrel
  cases gk with
  | zero => exact absurd HA.out (by simp [q55.l0])
  | succ k1 =>
   have H := HA.out
   clear HA
   simp only [q55.l0] at H
   by_cases c4 : x9_1 < (l0_1.length : Int)
   ·rw [if_pos c4] at H
    replace c4 := decide_eq_true c4
    by_cases c5 : 0 ≤ x9_1
    ·rw [if_pos c5] at H
     replace c5 := decide_eq_true c5
     by_cases c6 : x9_1 < (l0_1.length : Int)
     ·rw [if_pos c6] at H
      replace c6 := decide_eq_true c6
      by_cases c7 : x3_1.length < 8796093022208
      ·rw [if_pos c7] at H
       have LMc7 := q59.mk c7
       clear c7
       obtain ⟨y216, hy216⟩ : ∃ y_ : List ByteArray, y_ = (x3_1 ++ [(q84 l0_1 x9_1).f0]) := ⟨_, rfl⟩
       rw [← hy216] at H
       have Ny216 := q59.mk hy216
       clear hy216
       have H' := q59.mk H
       clear H
       obtain ⟨ad214, A214_5, c214_5, A214_6, c214_6, e214, hx214_0, hx214_1, hx214_2, hx214_3, hx214_4, hx214_5, hx214_6, HC214_5, HR214_5, HC214_6, HR214_6, p214, q214⟩ := au_T41 HR0_1 HB (x9_1)
       cases e214
       go_wp2_with (first | ((with_reducible refine q74 (N := 5) rfl ?_); refine bx_ 5 #[.string (⟨#[]⟩ : ByteArray), .int .i64 0, .string (⟨#[]⟩ : ByteArray), .bool false, .int .i64 0, .slice none 0 0, .slice none 0 0] 41 ?_; intro gb215 hg w8 hbox hb; replace HO_3 := q59.mk (Kd.R_below (ra_ HO_3.out) hb); have BK215 := q59.mk (hbox); have GW215 := zz_ (w := w) hg; have GE215 := zz_ (w := w) hg; replace HB := hb_ HB hb; have NB213_215 := ne1_ hg BK213; have NB215_213 := ne2_ hg BK213; replace BK213 := bb_ BK213 hb;  clear hb hbox hg; have hnb9 := NB215_213.out; have hnc9 := NB213_215.out; obtain ⟨hcz10_0, hcz10_1, hcz10_2, hcz10_3, hcz10_4, hcz10_5, hcz10_6, hfz10_0, hfz10_1, hfz10_2, hfz10_3, hfz10_4, hfz10_5, hfz10_6⟩ := bs7_ BK215) | ((with_reducible refine q72 (b := .append) (xs := #[.tmp 13, .tmp 16]) rfl ?_); at_builtin; refine Kd.R_append Kd.string (w0 := w) w.heap.size rfl (.tmp 13) (.tmp 16) 22 9 (.string ⟨#[]⟩) 16 rfl Try.underlying22 info9 rfl (by decide) (by omega) u3 x3_1 ((q84 l0_1 x9_1).f0) [.string ((q84 l0_1 x9_1).f0)] (fun _ => True) (fun _ => False) rfl (by first | (go_simp; done) | (go_simp; rfl)) ?aP (fun _ hk => hk.elim) ?aF ?aO ?aB ?aS ?aL ?_; (case aP => exact rfl); (case aB => exact hf_); (case aF => exact (fun _ _ => trivial)); (case aO => exact (ra_ (Kd.R_mono (Kd.R_far (p := ⟨gb215, 6, none⟩) (Kd.R_far (p := ⟨gb215, 5, none⟩) (Kd.R_far (p := ⟨gb215, 4, none⟩) (Kd.R_far (p := ⟨gb215, 3, none⟩) (Kd.R_far (p := ⟨gb215, 2, none⟩) (Kd.R_far (p := ⟨gb215, 1, none⟩) (Kd.R_far (p := ⟨gb215, 0, none⟩) (Kd.R_types HO_3.out BK215.out (by decide)) (fun _ hk => hk.2) (.string ((q84 l0_1 x9_1).f0))) (fun _ hk => hk.2) (.int .i64 ((q84 l0_1 x9_1).f1))) (fun _ hk => hk.2) (.string ((q84 l0_1 x9_1).f2))) (fun _ hk => hk.2) (.bool ((q84 l0_1 x9_1).f3))) (fun _ hk => hk.2) (.int .i64 ((q84 l0_1 x9_1).f4))) (fun _ hk => hk.2) (.slice A214_5 ((q84 l0_1 x9_1).f5).length c214_5)) (fun _ hk => hk.2) (.slice A214_6 ((q84 l0_1 x9_1).f6).length c214_6)) (fun _ hk => trivial)))); (case aS => exact (q62 hf_)); (case aL => have := LMc7.out; omega); intro v217 w11 ho hb hg hat; rw [← Ny216.out] at ho; have n0_ := q59.mk (blk_grown (g := gb213) (o := .cells #[.slice A0_0 l0_0.length c0_0, .slice (some ad214) l0_1.length c0_1] 25 (0, 0)) (by (with_reducible repeat (first | refine q68 ?_ _ | refine q67 ?_ | refine q64 ?_ _)); refine q69 ?_ NB213_215.out _; (with_reducible repeat (first | refine q68 ?_ _ | refine q67 ?_ | refine q64 ?_ _)); refine q69 ?_ NB213_215.out _; (with_reducible repeat (first | refine q68 ?_ _ | refine q67 ?_ | refine q64 ?_ _)); refine q69 ?_ NB213_215.out _; (with_reducible repeat (first | refine q68 ?_ _ | refine q67 ?_ | refine q64 ?_ _)); refine q69 ?_ NB213_215.out _; (with_reducible repeat (first | refine q68 ?_ _ | refine q67 ?_ | refine q64 ?_ _)); refine q69 ?_ NB213_215.out _; (with_reducible repeat (first | refine q68 ?_ _ | refine q67 ?_ | refine q64 ?_ _)); refine q69 ?_ NB213_215.out _; (with_reducible repeat (first | refine q68 ?_ _ | refine q67 ?_ | refine q64 ?_ _)); refine q69 ?_ NB213_215.out _; (with_reducible repeat (first | refine q68 ?_ _ | refine q67 ?_ | refine q64 ?_ _)); exact BK213.out) hg (Kd.R_ne HO_3.out BK213.out (by decide))); have n1_ := q59.mk (blk_grown (g := gb215) (o := .cells #[.string ((q84 l0_1 x9_1).f0), .int .i64 ((q84 l0_1 x9_1).f1), .string ((q84 l0_1 x9_1).f2), .bool ((q84 l0_1 x9_1).f3), .int .i64 ((q84 l0_1 x9_1).f4), .slice A214_5 ((q84 l0_1 x9_1).f5).length c214_5, .slice A214_6 ((q84 l0_1 x9_1).f6).length c214_6] 41 (0, 0)) (by (with_reducible repeat (first | refine q68 ?_ _ | refine q67 ?_ | refine q64 ?_ _)); refine q71 (cs := #[.string ((q84 l0_1 x9_1).f0), .int .i64 ((q84 l0_1 x9_1).f1), .string ((q84 l0_1 x9_1).f2), .bool ((q84 l0_1 x9_1).f3), .int .i64 ((q84 l0_1 x9_1).f4), .slice A214_5 ((q84 l0_1 x9_1).f5).length c214_5, .slice none 0 0]) ?_ 6 _ rfl; (with_reducible repeat (first | refine q68 ?_ _ | refine q67 ?_ | refine q64 ?_ _)); refine q71 (cs := #[.string ((q84 l0_1 x9_1).f0), .int .i64 ((q84 l0_1 x9_1).f1), .string ((q84 l0_1 x9_1).f2), .bool ((q84 l0_1 x9_1).f3), .int .i64 ((q84 l0_1 x9_1).f4), .slice none 0 0, .slice none 0 0]) ?_ 5 _ rfl; (with_reducible repeat (first | refine q68 ?_ _ | refine q67 ?_ | refine q64 ?_ _)); refine q71 (cs := #[.string ((q84 l0_1 x9_1).f0), .int .i64 ((q84 l0_1 x9_1).f1), .string ((q84 l0_1 x9_1).f2), .bool ((q84 l0_1 x9_1).f3), .int .i64 0, .slice none 0 0, .slice none 0 0]) ?_ 4 _ rfl; (with_reducible repeat (first | refine q68 ?_ _ | refine q67 ?_ | refine q64 ?_ _)); refine q71 (cs := #[.string ((q84 l0_1 x9_1).f0), .int .i64 ((q84 l0_1 x9_1).f1), .string ((q84 l0_1 x9_1).f2), .bool false, .int .i64 0, .slice none 0 0, .slice none 0 0]) ?_ 3 _ rfl; (with_reducible repeat (first | refine q68 ?_ _ | refine q67 ?_ | refine q64 ?_ _)); refine q71 (cs := #[.string ((q84 l0_1 x9_1).f0), .int .i64 ((q84 l0_1 x9_1).f1), .string (⟨#[]⟩ : ByteArray), .bool false, .int .i64 0, .slice none 0 0, .slice none 0 0]) ?_ 2 _ rfl; (with_reducible repeat (first | refine q68 ?_ _ | refine q67 ?_ | refine q64 ?_ _)); refine q71 (cs := #[.string ((q84 l0_1 x9_1).f0), .int .i64 0, .string (⟨#[]⟩ : ByteArray), .bool false, .int .i64 0, .slice none 0 0, .slice none 0 0]) ?_ 1 _ rfl; (with_reducible repeat (first | refine q68 ?_ _ | refine q67 ?_ | refine q64 ?_ _)); refine q71 (cs := #[.string (⟨#[]⟩ : ByteArray), .int .i64 0, .string (⟨#[]⟩ : ByteArray), .bool false, .int .i64 0, .slice none 0 0, .slice none 0 0]) ?_ 0 _ rfl; (with_reducible repeat (first | refine q68 ?_ _ | refine q67 ?_ | refine q64 ?_ _)); exact BK215.out) hg (Kd.R_ne HO_3.out BK215.out (by decide))); have n2_ := q59.mk (hb); have n3_ := q59.mk (ho); clear BK213; clear BK215; clear HB; clear HO_3; have BK213 := n0_; have BK215 := n1_; have HB := n2_; have HO218 := n3_; clear n0_ n1_ n2_ n3_; clear ho hb hg hat))
       go_roundg k1
       case measure => have := HK1.out; omega
       case rel => exact ⟨(y216), (wrap64 (x9_1 + 1)), rf_, H', ⟨by have := HK1.out; omega⟩, ⟨ra_ HO218.out⟩, ⟨gx_ BK213⟩, ⟨hf_⟩⟩
      ·rw [if_neg c7] at H
       exact absurd H (by simp)
     ·rw [if_neg c6] at H
      exact absurd H (by simp)
    ·rw [if_neg c5] at H
     exact absurd H (by simp)
   ·rw [if_neg c4] at H
    replace c4 := decide_eq_false c4
    obtain rfl := Option.some.inj H
    go_wp2
    go_ret
    exact ⟨_, by first | rfl | (simp [errW_none, errW_some] <;> rfl) | (simp [*, errW_none, errW_some] <;> rfl), by (with_reducible repeat (first | apply Kd.R_alloc | apply Kd.R_drewN | apply Kd.R_drew)); exact HO_3.out, by repeat (first | (with_reducible first | exact HB.out | apply q60 | apply q78 | apply q61 | refine below_set ?_ GE213.out) | exact HB.out)⟩
def q41.j0 : Nat → Bool → ByteArray → Int → ByteArray → Bool → Int → List (S45) → List (S45) → Option (Bool)
 | 0, _, _, _, _, _, _, _, _ => none
 | k + 1, x29, x205000, x205001, x205002, x205003, x205004, x205005, x205006 => if x29 = true then (some false) else (if x205001 = 5 then (if x205001 = 4 then (if x205004 ≥ 1 then (if x205004 ≤ 100 then (if x205003 = true then (some (!true)) else (some (!(decide ((x205005.length : Int) > 0))))) else (some false)) else (some false)) else (if x205004 ≥ 1 then (if x205004 ≤ 100 then (if x205003 = true then (some (!true)) else (some (!(decide ((x205005.length : Int) > 0))))) else (some false)) else (some false))) else (if x205001 = 4 then (if x205004 ≥ 0 then (if x205004 ≤ 0 then (if x205003 = true then (some (!true)) else (some (!(decide ((x205005.length : Int) > 0))))) else (some false)) else (some false)) else (if x205004 ≥ 0 then (if x205004 ≤ 0 then (some (!false)) else (some false)) else (some false))))
def q41.f (k : Nat) (l0_0 : List ByteArray) (l0_1 : List (S41)) (a1_0 : ByteArray) (a1_1 : Int) (a1_2 : ByteArray) (a1_3 : Bool) (a1_4 : Int) (l1_5 : List (S45)) (l1_6 : List (S45)) : Option (Bool) := if a1_1 < 1 then (q41.j0 k true a1_0 a1_1 a1_2 a1_3 a1_4 l1_5 l1_6) else (if a1_1 > 5 then (q41.j0 k true a1_0 a1_1 a1_2 a1_3 a1_4 l1_5 l1_6) else ((q18.f l0_0 l0_1 l1_5).bind fun t205 => (if t205 = true then ((q18.f l0_0 l0_1 l1_6).bind fun t206 => (q41.j0 k (!t206) a1_0 a1_1 a1_2 a1_3 a1_4 l1_5 l1_6)) else (q41.j0 k true a1_0 a1_1 a1_2 a1_3 a1_4 l1_5 l1_6))))
theorem q41.mono_l : ∀ k, (∀ y0 y1 y2 y3 y4 y5 y6 y7, LeO (q41.j0 k y0 y1 y2 y3 y4 y5 y6 y7) (q41.j0 (k + 1) y0 y1 y2 y3 y4 y5 y6 y7))
 | 0 => fun _ _ _ _ _ _ _ _ r h => by simp [q41.j0] at h
 | k + 1 => by
  have ih0 := q41.mono_l k
  ·intro y0 y1 y2 y3 y4 y5 y6 y7
   unfold q41.j0
   repeat' first
   | (with_reducible exact ih0 _ _ _ _ _ _ _ _)
   | (with_reducible exact LeO.refl _)
   | (with_reducible exact LeO.none _)
   | (with_reducible refine LeO.ite ?_ ?_)
   | (with_reducible refine LeO.bind ?_ (fun _ => ?_))
   | exact ih0 _ _ _ _ _ _ _ _
   | exact LeO.none _
   | refine LeO.ite ?_ ?_
   | refine LeO.bind ?_ (fun _ => ?_)
theorem q41.mono : ∀ a0 a1 a2 a3 a4 a5 a6 a7 a8 k, LeO (q41.f k a0 a1 a2 a3 a4 a5 a6 a7 a8) (q41.f (k + 1) a0 a1 a2 a3 a4 a5 a6 a7 a8) := by
 intro a0 a1 a2 a3 a4 a5 a6 a7 a8 k
 have ih0 := q41.mono_l k
 unfold q41.f
 repeat' first
  | (with_reducible exact ih0 _ _ _ _ _ _ _ _)
  | (with_reducible exact LeO.refl _)
  | (with_reducible exact LeO.none _)
  | (with_reducible refine LeO.ite ?_ ?_)
  | (with_reducible refine LeO.bind ?_ (fun _ => ?_))
  | exact ih0 _ _ _ _ _ _ _ _
  | exact LeO.none _
  | refine LeO.ite ?_ ?_
  | refine LeO.bind ?_ (fun _ => ?_)
set_option maxHeartbeats 8000000 in
set_option maxRecDepth 100000 in
theorem q41.calls (k : Nat) (A0_0 : Option Addr) (c0_0 : Nat) (l0_0 : List ByteArray) (A0_1 : Option Addr) (c0_1 : Nat) (l0_1 : List (S41)) (a1_0 : ByteArray) (a1_1 : Int) (a1_2 : ByteArray) (a1_3 : Bool) (a1_4 : Int) (A1_5 : Option Addr) (c1_5 : Nat) (l1_5 : List (S45)) (A1_6 : Option Addr) (c1_6 : Nat) (l1_6 : List (S45)) (r : Bool) (w : World) (hr0_0 : Kd.C Kd.string w A0_0 l0_0.length l0_0) (hc0_0 : l0_0.length ≤ c0_0) (hr0_1 : Kd.C k41 w A0_1 l0_1.length l0_1) (hc0_1 : l0_1.length ≤ c0_1) (hr1_5 : Kd.C k45 w A1_5 l1_5.length l1_5) (hc1_5 : l1_5.length ≤ c1_5) (hr1_6 : Kd.C k45 w A1_6 l1_6.length l1_6) (hc1_6 : l1_6.length ≤ c1_6) (h : q41.f k l0_0 l0_1 a1_0 a1_1 a1_2 a1_3 a1_4 l1_5 l1_6 = some r) :
 Calls Try.prog 61 #[.agg #[.slice A0_0 l0_0.length c0_0, .slice A0_1 l0_1.length c0_1], .agg #[.string a1_0, .int .i64 a1_1, .string a1_2, .bool a1_3, .int .i64 a1_4, .slice A1_5 l1_5.length c1_5, .slice A1_6 l1_6.length c1_6]] w fun e w' => e = .returned (.bool r) ∧ Below w.heap.size w w' := by
 have hu25 := Try.underlying25
 have hu41 := Try.underlying41
 have HR0_0 := q59.mk hr0_0
 have HC0_0 := q59.mk hc0_0
 clear hr0_0 hc0_0
 have HR0_1 := q59.mk hr0_1
 have HC0_1 := q59.mk hc0_1
 clear hr0_1 hc0_1
 have HR1_5 := q59.mk hr1_5
 have HC1_5 := q59.mk hc1_5
 clear hr1_5 hc1_5
 have HR1_6 := q59.mk hr1_6
 have HC1_6 := q59.mk hc1_6
 clear hr1_6 hc1_6
 have HB := q59.mk (Below.refl w.heap.size w)
 unfold q41.f at h
 have H := h
 clear h
 have HC3 := q59.mk H
 clear H
 go_enter Try.func61, Try.ntmps61
 go_upto_region 1 with (first | ((with_reducible refine q74 (N := 2) rfl ?_); (try (refine gate_guard (by rfl) ?_; dsimp only)); refine bx_ 2 #[.slice A0_0 l0_0.length c0_0, .slice A0_1 l0_1.length c0_1] 25 ?_; intro gb203 hg w4 hbox hb; have BK203 := q59.mk (hbox); have GW203 := zz_ (w := w) hg; have GE203 := zz_ (w := w) hg; replace HB := hb_ HB hb;  clear hb hbox hg) | ((with_reducible refine q74 (N := 3) rfl ?_); (try (refine gate_guard (by rfl) ?_; dsimp only)); refine bx_ 3 #[.string a1_0, .int .i64 a1_1, .string a1_2, .bool a1_3, .int .i64 a1_4, .slice A1_5 l1_5.length c1_5, .slice A1_6 l1_6.length c1_6] 41 ?_; intro gb204 hg w5 hbox hb; have BK204 := q59.mk (hbox); have GW204 := zz_ (w := w) hg; have GE204 := zz_ (w := w) hg; replace HB := hb_ HB hb; have NB203_204 := ne1_ hg BK203; have NB204_203 := ne2_ hg BK203; replace BK203 := bb_ BK203 hb;  clear hb hbox hg))
 (try simp only [Act.put, List.setIfInBounds_toArray, List.set_cons_zero, List.set_cons_succ])
 go_cut [29] (fun v29 wc => ∃ (kq : Nat) (x29_2 : Bool), v29 = .bool x29_2 ∧ q59 (q41.j0 kq x29_2 a1_0 a1_1 a1_2 a1_3 a1_4 l1_5 l1_6 = some r) ∧ q59 (kq ≤ k) ∧ q59 (wc.heap[gb203]? = some (.cells #[(.slice A0_0 l0_0.length c0_0), (.slice A0_1 l0_1.length c0_1)] 25 (0, 0))) ∧ q59 (wc.heap[gb204]? = some (.cells #[.string a1_0, .int .i64 a1_1, .string a1_2, .bool a1_3, .int .i64 a1_4, (.slice A1_5 l1_5.length c1_5), (.slice A1_6 l1_6.length c1_6)] 41 (0, 0))) ∧ q59 (Below w.heap.size w wc))
 case first =>
  have H := HC3.out
  clear HC3
  by_cases c6 : a1_1 < 1
  ·rw [if_pos c6] at H
   have c6b0 := decide_eq_true c6
   clear c6
   (first | rw [c6b0] | (simp only [i64_w, i32_w]; rw [c6b0]) | skip)
   have H' := q59.mk H
   clear H
   have hnb7 := NB204_203.out
   have hnc7 := NB203_204.out
   obtain ⟨hcz8_0, hcz8_1, hcz8_2, hcz8_3, hcz8_4, hcz8_5, hcz8_6, hfz8_0, hfz8_1, hfz8_2, hfz8_3, hfz8_4, hfz8_5, hfz8_6⟩ := bs7_ BK204
   go_wp2
   go_meet
   case rel => exact ⟨_, (true), rf_, H', ⟨by first | omega | exact Nat.le_refl _⟩, ⟨gx_ BK203⟩, ⟨gx_ BK204⟩, ⟨hf_⟩⟩
  ·rw [if_neg c6] at H
   have c6b0 := decide_eq_false c6
   clear c6
   (first | rw [c6b0] | (simp only [i64_w, i32_w]; rw [c6b0]) | skip)
   by_cases c9 : a1_1 > 5
   ·rw [if_pos c9] at H
    replace c9 := decide_eq_true c9
    have H' := q59.mk H
    clear H
    have hnb10 := NB204_203.out
    have hnc10 := NB203_204.out
    obtain ⟨hcz11_0, hcz11_1, hcz11_2, hcz11_3, hcz11_4, hcz11_5, hcz11_6, hfz11_0, hfz11_1, hfz11_2, hfz11_3, hfz11_4, hfz11_5, hfz11_6⟩ := bs7_ BK204
    go_wp2
    go_meet
    case rel => exact ⟨_, (true), rf_, H', ⟨by first | omega | exact Nat.le_refl _⟩, ⟨gx_ BK203⟩, ⟨gx_ BK204⟩, ⟨hf_⟩⟩
   ·rw [if_neg c9] at H
    replace c9 := decide_eq_false c9
    replace H := Option.bind_eq_some_iff.mp H
    obtain ⟨t205, A120, H⟩ := H
    have A12 := q59.mk A120
    clear A120
    by_cases c13 : t205 = true
    ·subst c13
     have H1 : ((q18.f l0_0 l0_1 l1_6).bind fun t206 => (q41.j0 k (!t206) a1_0 a1_1 a1_2 a1_3 a1_4 l1_5 l1_6)) = some r := by rw [if_pos rfl] at H; exact H
     clear H
     have H := H1
     clear H1
     replace H := Option.bind_eq_some_iff.mp H
     obtain ⟨t206, A140, H⟩ := H
     have A14 := q59.mk A140
     clear A140
     have H' := q59.mk H
     clear H
     have hnb15 := NB204_203.out
     have hnc15 := NB203_204.out
     obtain ⟨hcz16_0, hcz16_1, hcz16_2, hcz16_3, hcz16_4, hcz16_5, hcz16_6, hfz16_0, hfz16_1, hfz16_2, hfz16_3, hfz16_4, hfz16_5, hfz16_6⟩ := bs7_ BK204
     obtain ⟨hcz17_0, hcz17_1, hfz17_0, hfz17_1⟩ := bs2_ BK203
     go_wp2_with (first | (go_at_call 87; (with_reducible refine (q18.calls _ _ l0_0 _ _ l0_1 _ _ l1_5 true _ ?side1 ?side2 ?side3 ?side4 ?side5 ?side6 A12.out).mono ?_); (case side1 => exact kc_ HR0_0 HB); (case side2 => exact HC0_0.out); (case side3 => exact kc_ HR0_1 HB); (case side4 => exact HC0_1.out); (case side5 => exact kc_ HR1_5 HB); (case side6 => exact HC1_5.out); rintro e w18 ⟨rfl, hb⟩; replace BK203 := bb_ BK203 hb; replace BK204 := bb_ BK204 hb; replace HB := hb_ HB hb;  (try clear hb); obtain ⟨hcz19_0, hcz19_1, hfz19_0, hfz19_1⟩ := bs2_ BK203; obtain ⟨hcz20_0, hcz20_1, hcz20_2, hcz20_3, hcz20_4, hcz20_5, hcz20_6, hfz20_0, hfz20_1, hfz20_2, hfz20_3, hfz20_4, hfz20_5, hfz20_6⟩ := bs7_ BK204) | (go_at_call 87; (with_reducible refine (q18.calls _ _ l0_0 _ _ l0_1 _ _ l1_6 t206 _ ?side1 ?side2 ?side3 ?side4 ?side5 ?side6 A14.out).mono ?_); (case side1 => exact kc_ HR0_0 HB); (case side2 => exact HC0_0.out); (case side3 => exact kc_ HR0_1 HB); (case side4 => exact HC0_1.out); (case side5 => exact kc_ HR1_6 HB); (case side6 => exact HC1_6.out); rintro e w21 ⟨rfl, hb⟩; replace BK203 := bb_ BK203 hb; replace BK204 := bb_ BK204 hb; replace HB := hb_ HB hb;  (try clear hb)))
     go_meet
     case rel => exact ⟨_, (!t206), rf_, H', ⟨by first | omega | exact Nat.le_refl _⟩, ⟨gx_ BK203⟩, ⟨gx_ BK204⟩, ⟨hf_⟩⟩
    ·replace c13 := Bool.eq_false_iff.mpr c13
     subst c13
     have H1 : (q41.j0 k true a1_0 a1_1 a1_2 a1_3 a1_4 l1_5 l1_6) = some r := by rw [if_neg (show ¬ (false = true) by decide)] at H; exact H
     clear H
     have H := H1
     clear H1
     have H' := q59.mk H
     clear H
     have hnb22 := NB204_203.out
     have hnc22 := NB203_204.out
     obtain ⟨hcz23_0, hcz23_1, hcz23_2, hcz23_3, hcz23_4, hcz23_5, hcz23_6, hfz23_0, hfz23_1, hfz23_2, hfz23_3, hfz23_4, hfz23_5, hfz23_6⟩ := bs7_ BK204
     obtain ⟨hcz24_0, hcz24_1, hfz24_0, hfz24_1⟩ := bs2_ BK203
     go_wp2_with (first | (go_at_call 87; (with_reducible refine (q18.calls _ _ l0_0 _ _ l0_1 _ _ l1_5 false _ ?side1 ?side2 ?side3 ?side4 ?side5 ?side6 A12.out).mono ?_); (case side1 => exact kc_ HR0_0 HB); (case side2 => exact HC0_0.out); (case side3 => exact kc_ HR0_1 HB); (case side4 => exact HC0_1.out); (case side5 => exact kc_ HR1_5 HB); (case side6 => exact HC1_5.out); rintro e w25 ⟨rfl, hb⟩; replace BK203 := bb_ BK203 hb; replace BK204 := bb_ BK204 hb; replace HB := hb_ HB hb;  (try clear hb)))
     go_meet
     case rel => exact ⟨_, (true), rf_, H', ⟨by first | omega | exact Nat.le_refl _⟩, ⟨gx_ BK203⟩, ⟨gx_ BK204⟩, ⟨hf_⟩⟩
 case rest =>
  clear HC3
  obtain ⟨kq, x29_2, rfl, HA, HJ2, BK203, BK204, HB⟩ := hcut
  cases kq with
  | zero => exact absurd HA.out (by simp [q41.j0])
  | succ kj2 =>
   have H := HA.out
   clear HA
   simp only [q41.j0] at H
   by_cases c26 : x29_2 = true
   ·subst c26
    have H1 : (some false) = some r := by rw [if_pos rfl] at H; exact H
    clear H
    have H := H1
    clear H1
    obtain rfl := Option.some.inj H
    go_wp2
    go_ret
    exact ⟨er_, hf_⟩
   ·replace c26 := Bool.eq_false_iff.mpr c26
    subst c26
    have H1 : (if a1_1 = 5 then (if a1_1 = 4 then (if a1_4 ≥ 1 then (if a1_4 ≤ 100 then (if a1_3 = true then (some (!true)) else (some (!(decide ((l1_5.length : Int) > 0))))) else (some false)) else (some false)) else (if a1_4 ≥ 1 then (if a1_4 ≤ 100 then (if a1_3 = true then (some (!true)) else (some (!(decide ((l1_5.length : Int) > 0))))) else (some false)) else (some false))) else (if a1_1 = 4 then (if a1_4 ≥ 0 then (if a1_4 ≤ 0 then (if a1_3 = true then (some (!true)) else (some (!(decide ((l1_5.length : Int) > 0))))) else (some false)) else (some false)) else (if a1_4 ≥ 0 then (if a1_4 ≤ 0 then (some (!false)) else (some false)) else (some false)))) = some r := by rw [if_neg (show ¬ (false = true) by decide)] at H; exact H
    clear H
    have H := H1
    clear H1
    by_cases c27 : a1_1 = 5
    ·rw [if_pos c27] at H
     have c27b0 : (a1_1 == 5) = true := beq_iff_eq.mpr c27
     have c27b1 : (a1_1 != 5) = false := bne_eq_false_iff_eq.mpr c27
     clear c27
     by_cases c28 : a1_1 = 4
     ·rw [if_pos c28] at H
      have c28b0 : (a1_1 == 4) = true := beq_iff_eq.mpr c28
      have c28b1 : (a1_1 != 4) = false := bne_eq_false_iff_eq.mpr c28
      clear c28
      by_cases c29 : a1_4 ≥ 1
      ·rw [if_pos c29] at H
       replace c29 := decide_eq_true c29
       by_cases c30 : a1_4 ≤ 100
       ·rw [if_pos c30] at H
        replace c30 := decide_eq_true c30
        by_cases c31 : a1_3 = true
        ·subst c31
         have H1 : (some (!true)) = some r := by rw [if_pos rfl] at H; exact H
         clear H
         have H := H1
         clear H1
         obtain rfl := Option.some.inj H
         have hnb32 := NB204_203.out
         have hnc32 := NB203_204.out
         obtain ⟨hcz33_0, hcz33_1, hcz33_2, hcz33_3, hcz33_4, hcz33_5, hcz33_6, hfz33_0, hfz33_1, hfz33_2, hfz33_3, hfz33_4, hfz33_5, hfz33_6⟩ := bs7_ BK204
         go_wp2
         go_ret
         exact ⟨er_, hf_⟩
        ·replace c31 := Bool.eq_false_iff.mpr c31
         subst c31
         have H1 : (some (!(decide ((l1_5.length : Int) > 0)))) = some r := by rw [if_neg (show ¬ (false = true) by decide)] at H; exact H
         clear H
         have H := H1
         clear H1
         obtain rfl := Option.some.inj H
         have hnb34 := NB204_203.out
         have hnc34 := NB203_204.out
         obtain ⟨hcz35_0, hcz35_1, hcz35_2, hcz35_3, hcz35_4, hcz35_5, hcz35_6, hfz35_0, hfz35_1, hfz35_2, hfz35_3, hfz35_4, hfz35_5, hfz35_6⟩ := bs7_ BK204
         go_wp2
         go_ret
         exact ⟨er_, hf_⟩
       ·rw [if_neg c30] at H
        replace c30 := decide_eq_false c30
        obtain rfl := Option.some.inj H
        have hnb36 := NB204_203.out
        have hnc36 := NB203_204.out
        obtain ⟨hcz37_0, hcz37_1, hcz37_2, hcz37_3, hcz37_4, hcz37_5, hcz37_6, hfz37_0, hfz37_1, hfz37_2, hfz37_3, hfz37_4, hfz37_5, hfz37_6⟩ := bs7_ BK204
        go_wp2
        go_ret
        exact ⟨er_, hf_⟩
      ·rw [if_neg c29] at H
       replace c29 := decide_eq_false c29
       obtain rfl := Option.some.inj H
       have hnb38 := NB204_203.out
       have hnc38 := NB203_204.out
       obtain ⟨hcz39_0, hcz39_1, hcz39_2, hcz39_3, hcz39_4, hcz39_5, hcz39_6, hfz39_0, hfz39_1, hfz39_2, hfz39_3, hfz39_4, hfz39_5, hfz39_6⟩ := bs7_ BK204
       go_wp2
       go_ret
       exact ⟨er_, hf_⟩
     ·rw [if_neg c28] at H
      have c28b0 : (a1_1 == 4) = false := beq_eq_false_iff_ne.mpr c28
      have c28b1 : (a1_1 != 4) = true := bne_iff_ne.mpr c28
      by_cases c40 : a1_4 ≥ 1
      ·rw [if_pos c40] at H
       replace c40 := decide_eq_true c40
       by_cases c41 : a1_4 ≤ 100
       ·rw [if_pos c41] at H
        replace c41 := decide_eq_true c41
        by_cases c42 : a1_3 = true
        ·subst c42
         have H1 : (some (!true)) = some r := by rw [if_pos rfl] at H; exact H
         clear H
         have H := H1
         clear H1
         obtain rfl := Option.some.inj H
         have hnb43 := NB204_203.out
         have hnc43 := NB203_204.out
         obtain ⟨hcz44_0, hcz44_1, hcz44_2, hcz44_3, hcz44_4, hcz44_5, hcz44_6, hfz44_0, hfz44_1, hfz44_2, hfz44_3, hfz44_4, hfz44_5, hfz44_6⟩ := bs7_ BK204
         go_wp2
         go_ret
         exact ⟨er_, hf_⟩
        ·replace c42 := Bool.eq_false_iff.mpr c42
         subst c42
         have H1 : (some (!(decide ((l1_5.length : Int) > 0)))) = some r := by rw [if_neg (show ¬ (false = true) by decide)] at H; exact H
         clear H
         have H := H1
         clear H1
         obtain rfl := Option.some.inj H
         have hnb45 := NB204_203.out
         have hnc45 := NB203_204.out
         obtain ⟨hcz46_0, hcz46_1, hcz46_2, hcz46_3, hcz46_4, hcz46_5, hcz46_6, hfz46_0, hfz46_1, hfz46_2, hfz46_3, hfz46_4, hfz46_5, hfz46_6⟩ := bs7_ BK204
         go_wp2
         go_ret
         exact ⟨er_, hf_⟩
       ·rw [if_neg c41] at H
        replace c41 := decide_eq_false c41
        obtain rfl := Option.some.inj H
        have hnb47 := NB204_203.out
        have hnc47 := NB203_204.out
        obtain ⟨hcz48_0, hcz48_1, hcz48_2, hcz48_3, hcz48_4, hcz48_5, hcz48_6, hfz48_0, hfz48_1, hfz48_2, hfz48_3, hfz48_4, hfz48_5, hfz48_6⟩ := bs7_ BK204
        go_wp2
        go_ret
        exact ⟨er_, hf_⟩
      ·rw [if_neg c40] at H
       replace c40 := decide_eq_false c40
       obtain rfl := Option.some.inj H
       have hnb49 := NB204_203.out
       have hnc49 := NB203_204.out
       obtain ⟨hcz50_0, hcz50_1, hcz50_2, hcz50_3, hcz50_4, hcz50_5, hcz50_6, hfz50_0, hfz50_1, hfz50_2, hfz50_3, hfz50_4, hfz50_5, hfz50_6⟩ := bs7_ BK204
       go_wp2
       go_ret
       exact ⟨er_, hf_⟩
    ·rw [if_neg c27] at H
     have c27b0 : (a1_1 == 5) = false := beq_eq_false_iff_ne.mpr c27
     have c27b1 : (a1_1 != 5) = true := bne_iff_ne.mpr c27
     by_cases c51 : a1_1 = 4
     ·rw [if_pos c51] at H
      have c51b0 : (a1_1 == 4) = true := beq_iff_eq.mpr c51
      have c51b1 : (a1_1 != 4) = false := bne_eq_false_iff_eq.mpr c51
      clear c51
      by_cases c52 : a1_4 ≥ 0
      ·rw [if_pos c52] at H
       replace c52 := decide_eq_true c52
       by_cases c53 : a1_4 ≤ 0
       ·rw [if_pos c53] at H
        replace c53 := decide_eq_true c53
        by_cases c54 : a1_3 = true
        ·subst c54
         have H1 : (some (!true)) = some r := by rw [if_pos rfl] at H; exact H
         clear H
         have H := H1
         clear H1
         obtain rfl := Option.some.inj H
         have hnb55 := NB204_203.out
         have hnc55 := NB203_204.out
         obtain ⟨hcz56_0, hcz56_1, hcz56_2, hcz56_3, hcz56_4, hcz56_5, hcz56_6, hfz56_0, hfz56_1, hfz56_2, hfz56_3, hfz56_4, hfz56_5, hfz56_6⟩ := bs7_ BK204
         go_wp2
         go_ret
         exact ⟨er_, hf_⟩
        ·replace c54 := Bool.eq_false_iff.mpr c54
         subst c54
         have H1 : (some (!(decide ((l1_5.length : Int) > 0)))) = some r := by rw [if_neg (show ¬ (false = true) by decide)] at H; exact H
         clear H
         have H := H1
         clear H1
         obtain rfl := Option.some.inj H
         have hnb57 := NB204_203.out
         have hnc57 := NB203_204.out
         obtain ⟨hcz58_0, hcz58_1, hcz58_2, hcz58_3, hcz58_4, hcz58_5, hcz58_6, hfz58_0, hfz58_1, hfz58_2, hfz58_3, hfz58_4, hfz58_5, hfz58_6⟩ := bs7_ BK204
         go_wp2
         go_ret
         exact ⟨er_, hf_⟩
       ·rw [if_neg c53] at H
        replace c53 := decide_eq_false c53
        obtain rfl := Option.some.inj H
        have hnb59 := NB204_203.out
        have hnc59 := NB203_204.out
        obtain ⟨hcz60_0, hcz60_1, hcz60_2, hcz60_3, hcz60_4, hcz60_5, hcz60_6, hfz60_0, hfz60_1, hfz60_2, hfz60_3, hfz60_4, hfz60_5, hfz60_6⟩ := bs7_ BK204
        go_wp2
        go_ret
        exact ⟨er_, hf_⟩
      ·rw [if_neg c52] at H
       replace c52 := decide_eq_false c52
       obtain rfl := Option.some.inj H
       have hnb61 := NB204_203.out
       have hnc61 := NB203_204.out
       obtain ⟨hcz62_0, hcz62_1, hcz62_2, hcz62_3, hcz62_4, hcz62_5, hcz62_6, hfz62_0, hfz62_1, hfz62_2, hfz62_3, hfz62_4, hfz62_5, hfz62_6⟩ := bs7_ BK204
       go_wp2
       go_ret
       exact ⟨er_, hf_⟩
     ·rw [if_neg c51] at H
      have c51b0 : (a1_1 == 4) = false := beq_eq_false_iff_ne.mpr c51
      have c51b1 : (a1_1 != 4) = true := bne_iff_ne.mpr c51
      by_cases c63 : a1_4 ≥ 0
      ·rw [if_pos c63] at H
       replace c63 := decide_eq_true c63
       by_cases c64 : a1_4 ≤ 0
       ·rw [if_pos c64] at H
        replace c64 := decide_eq_true c64
        obtain rfl := Option.some.inj H
        have hnb65 := NB204_203.out
        have hnc65 := NB203_204.out
        obtain ⟨hcz66_0, hcz66_1, hcz66_2, hcz66_3, hcz66_4, hcz66_5, hcz66_6, hfz66_0, hfz66_1, hfz66_2, hfz66_3, hfz66_4, hfz66_5, hfz66_6⟩ := bs7_ BK204
        go_wp2
        go_ret
        exact ⟨er_, hf_⟩
       ·rw [if_neg c64] at H
        replace c64 := decide_eq_false c64
        obtain rfl := Option.some.inj H
        have hnb67 := NB204_203.out
        have hnc67 := NB203_204.out
        obtain ⟨hcz68_0, hcz68_1, hcz68_2, hcz68_3, hcz68_4, hcz68_5, hcz68_6, hfz68_0, hfz68_1, hfz68_2, hfz68_3, hfz68_4, hfz68_5, hfz68_6⟩ := bs7_ BK204
        go_wp2
        go_ret
        exact ⟨er_, hf_⟩
      ·rw [if_neg c63] at H
       replace c63 := decide_eq_false c63
       obtain rfl := Option.some.inj H
       have hnb69 := NB204_203.out
       have hnc69 := NB203_204.out
       obtain ⟨hcz70_0, hcz70_1, hcz70_2, hcz70_3, hcz70_4, hcz70_5, hcz70_6, hfz70_0, hfz70_1, hfz70_2, hfz70_3, hfz70_4, hfz70_5, hfz70_6⟩ := bs7_ BK204
       go_wp2
       go_ret
       exact ⟨er_, hf_⟩
def q39.f (a0_0 : ByteArray) (a0_1 : Int) (a0_2 : ByteArray) (a0_3 : Bool) (a0_4 : Int) (l0_5 : List (S45)) (l0_6 : List (S45)) : Option (Bool) := if a0_1 = 1 then (if a0_2.toList = ([] : List UInt8) then (if a0_3 = true then (some false) else (some ((wrap64 ((l0_5.length : Int) + (l0_6.length : Int))) == 0))) else (some false)) else (some false)
set_option maxHeartbeats 8000000 in
set_option maxRecDepth 100000 in
theorem q39.calls (a0_0 : ByteArray) (a0_1 : Int) (a0_2 : ByteArray) (a0_3 : Bool) (a0_4 : Int) (A0_5 : Option Addr) (c0_5 : Nat) (l0_5 : List (S45)) (A0_6 : Option Addr) (c0_6 : Nat) (l0_6 : List (S45)) (r : Bool) (w : World) (hr0_5 : Kd.C k45 w A0_5 l0_5.length l0_5) (hc0_5 : l0_5.length ≤ c0_5) (hr0_6 : Kd.C k45 w A0_6 l0_6.length l0_6) (hc0_6 : l0_6.length ≤ c0_6) (h : q39.f a0_0 a0_1 a0_2 a0_3 a0_4 l0_5 l0_6 = some r) :
 Calls Try.prog 57 #[.agg #[.string a0_0, .int .i64 a0_1, .string a0_2, .bool a0_3, .int .i64 a0_4, .slice A0_5 l0_5.length c0_5, .slice A0_6 l0_6.length c0_6]] w fun e w' => e = .returned (.bool r) ∧ Below w.heap.size w w' := by
 have hu41 := Try.underlying41
 have HR0_5 := q59.mk hr0_5
 have HC0_5 := q59.mk hc0_5
 clear hr0_5 hc0_5
 have HR0_6 := q59.mk hr0_6
 have HC0_6 := q59.mk hc0_6
 clear hr0_6 hc0_6
 have HB := q59.mk (Below.refl w.heap.size w)
 unfold q39.f at h
 have H := h
 clear h
 by_cases c2 : a0_1 = 1
 ·rw [if_pos c2] at H
  have c2b0 : (a0_1 == 1) = true := beq_iff_eq.mpr c2
  have c2b1 : (a0_1 != 1) = false := bne_eq_false_iff_eq.mpr c2
  clear c2
  by_cases c3 : a0_2.toList = ([] : List UInt8)
  ·rw [if_pos c3] at H
   have c3b0 : (a0_2.toList == ([] : List UInt8)) = true := beq_iff_eq.mpr c3
   have c3b1 : (a0_2.toList != ([] : List UInt8)) = false := bne_eq_false_iff_eq.mpr c3
   clear c3
   by_cases c4 : a0_3 = true
   ·subst c4
    have H1 : (some false) = some r := by rw [if_pos rfl] at H; exact H
    clear H
    have H := H1
    clear H1
    obtain rfl := Option.some.inj H
    go_enter Try.func57, Try.ntmps57
    go_wp2_with (first | ((with_reducible refine q74 (N := 1) rfl ?_); (try (refine gate_guard (by rfl) ?_; dsimp only)); refine bx_ 1 #[.string a0_0, .int .i64 a0_1, .string a0_2, .bool true, .int .i64 a0_4, .slice A0_5 l0_5.length c0_5, .slice A0_6 l0_6.length c0_6] 41 ?_; intro gb212 hg w5 hbox hb; have BK212 := q59.mk (hbox); have GW212 := zz_ (w := w) hg; have GE212 := zz_ (w := w) hg; replace HB := hb_ HB hb;  clear hb hbox hg; obtain ⟨hcz6_0, hcz6_1, hcz6_2, hcz6_3, hcz6_4, hcz6_5, hcz6_6, hfz6_0, hfz6_1, hfz6_2, hfz6_3, hfz6_4, hfz6_5, hfz6_6⟩ := bs7_ BK212))
    go_ret
    exact ⟨er_, hf_⟩
   ·replace c4 := Bool.eq_false_iff.mpr c4
    subst c4
    have H1 : (some ((wrap64 ((l0_5.length : Int) + (l0_6.length : Int))) == 0)) = some r := by rw [if_neg (show ¬ (false = true) by decide)] at H; exact H
    clear H
    have H := H1
    clear H1
    obtain rfl := Option.some.inj H
    go_enter Try.func57, Try.ntmps57
    go_wp2_with (first | ((with_reducible refine q74 (N := 1) rfl ?_); (try (refine gate_guard (by rfl) ?_; dsimp only)); refine bx_ 1 #[.string a0_0, .int .i64 a0_1, .string a0_2, .bool false, .int .i64 a0_4, .slice A0_5 l0_5.length c0_5, .slice A0_6 l0_6.length c0_6] 41 ?_; intro gb212 hg w7 hbox hb; have BK212 := q59.mk (hbox); have GW212 := zz_ (w := w) hg; have GE212 := zz_ (w := w) hg; replace HB := hb_ HB hb;  clear hb hbox hg; obtain ⟨hcz8_0, hcz8_1, hcz8_2, hcz8_3, hcz8_4, hcz8_5, hcz8_6, hfz8_0, hfz8_1, hfz8_2, hfz8_3, hfz8_4, hfz8_5, hfz8_6⟩ := bs7_ BK212))
    go_ret
    exact ⟨er_, hf_⟩
  ·rw [if_neg c3] at H
   have c3b0 : (a0_2.toList == ([] : List UInt8)) = false := beq_eq_false_iff_ne.mpr c3
   have c3b1 : (a0_2.toList != ([] : List UInt8)) = true := bne_iff_ne.mpr c3
   obtain rfl := Option.some.inj H
   go_enter Try.func57, Try.ntmps57
   go_wp2_with (first | ((with_reducible refine q74 (N := 1) rfl ?_); (try (refine gate_guard (by rfl) ?_; dsimp only)); refine bx_ 1 #[.string a0_0, .int .i64 a0_1, .string a0_2, .bool a0_3, .int .i64 a0_4, .slice A0_5 l0_5.length c0_5, .slice A0_6 l0_6.length c0_6] 41 ?_; intro gb212 hg w9 hbox hb; have BK212 := q59.mk (hbox); have GW212 := zz_ (w := w) hg; have GE212 := zz_ (w := w) hg; replace HB := hb_ HB hb;  clear hb hbox hg; obtain ⟨hcz10_0, hcz10_1, hcz10_2, hcz10_3, hcz10_4, hcz10_5, hcz10_6, hfz10_0, hfz10_1, hfz10_2, hfz10_3, hfz10_4, hfz10_5, hfz10_6⟩ := bs7_ BK212))
   go_ret
   exact ⟨er_, hf_⟩
 ·rw [if_neg c2] at H
  have c2b0 : (a0_1 == 1) = false := beq_eq_false_iff_ne.mpr c2
  have c2b1 : (a0_1 != 1) = true := bne_iff_ne.mpr c2
  obtain rfl := Option.some.inj H
  go_enter Try.func57, Try.ntmps57
  go_wp2_with (first | ((with_reducible refine q74 (N := 1) rfl ?_); (try (refine gate_guard (by rfl) ?_; dsimp only)); refine bx_ 1 #[.string a0_0, .int .i64 a0_1, .string a0_2, .bool a0_3, .int .i64 a0_4, .slice A0_5 l0_5.length c0_5, .slice A0_6 l0_6.length c0_6] 41 ?_; intro gb212 hg w11 hbox hb; have BK212 := q59.mk (hbox); have GW212 := zz_ (w := w) hg; have GE212 := zz_ (w := w) hg; replace HB := hb_ HB hb;  clear hb hbox hg; obtain ⟨hcz12_0, hcz12_1, hcz12_2, hcz12_3, hcz12_4, hcz12_5, hcz12_6, hfz12_0, hfz12_1, hfz12_2, hfz12_3, hfz12_4, hfz12_5, hfz12_6⟩ := bs7_ BK212))
  go_ret
  exact ⟨er_, hf_⟩
def q36.f (a0 : Int) : Option (Bool) := if a0 ≥ 97 then (if a0 ≤ 122 then (some true) else (if a0 ≥ 65 then (if a0 ≤ 90 then (some true) else (some (a0 == 95))) else (some (a0 == 95)))) else (if a0 ≥ 65 then (if a0 ≤ 90 then (some true) else (some (a0 == 95))) else (some (a0 == 95)))
set_option maxHeartbeats 8000000 in
set_option maxRecDepth 100000 in
theorem q36.calls (a0 : Int) (r : Bool) (w : World) (h : q36.f a0 = some r) :
 Calls Try.prog 92 #[.int .u8 a0] w fun e w' => e = .returned (.bool r) ∧ Drawn0 w w' := by
 unfold q36.f at h
 have H := h
 clear h
 by_cases c2 : a0 ≥ 97
 ·rw [if_pos c2] at H
  replace c2 := decide_eq_true c2
  by_cases c3 : a0 ≤ 122
  ·rw [if_pos c3] at H
   replace c3 := decide_eq_true c3
   obtain rfl := Option.some.inj H
   go_enter Try.func92, Try.ntmps92
   go_wp2
   go_ret
   exact ⟨by first | rfl | (simp; done) | (simp [*]; done), by repeat (first | exact Drawn0.refl _ | apply Drawn0.step)⟩
  ·rw [if_neg c3] at H
   replace c3 := decide_eq_false c3
   by_cases c4 : a0 ≥ 65
   ·rw [if_pos c4] at H
    replace c4 := decide_eq_true c4
    by_cases c5 : a0 ≤ 90
    ·rw [if_pos c5] at H
     replace c5 := decide_eq_true c5
     obtain rfl := Option.some.inj H
     go_enter Try.func92, Try.ntmps92
     go_wp2
     go_ret
     exact ⟨by first | rfl | (simp; done) | (simp [*]; done), by repeat (first | exact Drawn0.refl _ | apply Drawn0.step)⟩
    ·rw [if_neg c5] at H
     replace c5 := decide_eq_false c5
     obtain rfl := Option.some.inj H
     go_enter Try.func92, Try.ntmps92
     go_wp2
     go_ret
     exact ⟨by first | rfl | (simp; done) | (simp [*]; done), by repeat (first | exact Drawn0.refl _ | apply Drawn0.step)⟩
   ·rw [if_neg c4] at H
    replace c4 := decide_eq_false c4
    obtain rfl := Option.some.inj H
    go_enter Try.func92, Try.ntmps92
    go_wp2
    go_ret
    exact ⟨by first | rfl | (simp; done) | (simp [*]; done), by repeat (first | exact Drawn0.refl _ | apply Drawn0.step)⟩
 ·rw [if_neg c2] at H
  replace c2 := decide_eq_false c2
  by_cases c6 : a0 ≥ 65
  ·rw [if_pos c6] at H
   replace c6 := decide_eq_true c6
   by_cases c7 : a0 ≤ 90
   ·rw [if_pos c7] at H
    replace c7 := decide_eq_true c7
    obtain rfl := Option.some.inj H
    go_enter Try.func92, Try.ntmps92
    go_wp2
    go_ret
    exact ⟨by first | rfl | (simp; done) | (simp [*]; done), by repeat (first | exact Drawn0.refl _ | apply Drawn0.step)⟩
   ·rw [if_neg c7] at H
    replace c7 := decide_eq_false c7
    obtain rfl := Option.some.inj H
    go_enter Try.func92, Try.ntmps92
    go_wp2
    go_ret
    exact ⟨by first | rfl | (simp; done) | (simp [*]; done), by repeat (first | exact Drawn0.refl _ | apply Drawn0.step)⟩
  ·rw [if_neg c6] at H
   replace c6 := decide_eq_false c6
   obtain rfl := Option.some.inj H
   go_enter Try.func92, Try.ntmps92
   go_wp2
   go_ret
   exact ⟨by first | rfl | (simp; done) | (simp [*]; done), by repeat (first | exact Drawn0.refl _ | apply Drawn0.step)⟩
def q44.f (a0 : Int) : Option (Bool) := (q36.f a0).bind fun t211 => (if t211 = true then (some true) else (if a0 ≥ 48 then (if a0 ≤ 57 then (some true) else (if a0 = 45 then (some true) else (some (a0 == 46)))) else (if a0 = 45 then (some true) else (some (a0 == 46)))))
set_option maxHeartbeats 8000000 in
set_option maxRecDepth 100000 in
theorem q44.calls (a0 : Int) (r : Bool) (w : World) (h : q44.f a0 = some r) :
 Calls Try.prog 93 #[.int .u8 a0] w fun e w' => e = .returned (.bool r) ∧ Drawn0 w w' := by
 unfold q44.f at h
 have H := h
 clear h
 replace H := Option.bind_eq_some_iff.mp H
 obtain ⟨t211, A20, H⟩ := H
 have A2 := q59.mk A20
 clear A20
 by_cases c3 : t211 = true
 ·subst c3
  have H1 : (some true) = some r := by rw [if_pos rfl] at H; exact H
  clear H
  have H := H1
  clear H1
  obtain rfl := Option.some.inj H
  go_enter Try.func93, Try.ntmps93
  go_wp2_with (first | ((with_reducible refine q73 (f := 92) rfl ?_); refine gl_ (some 4) Try.func92 #[.int .u8 a0] ?_; (with_reducible refine (q36.calls a0 true _ A2.out).mono ?_); rintro e w' ⟨rfl, ⟨nd, rfl⟩⟩; refine ⟨_, rfl, ?_⟩))
  go_ret
  exact ⟨by first | rfl | (simp; done) | (simp [*]; done), by repeat (first | exact Drawn0.refl _ | apply Drawn0.step)⟩
 ·replace c3 := Bool.eq_false_iff.mpr c3
  subst c3
  have H1 : (if a0 ≥ 48 then (if a0 ≤ 57 then (some true) else (if a0 = 45 then (some true) else (some (a0 == 46)))) else (if a0 = 45 then (some true) else (some (a0 == 46)))) = some r := by rw [if_neg (show ¬ (false = true) by decide)] at H; exact H
  clear H
  have H := H1
  clear H1
  by_cases c4 : a0 ≥ 48
  ·rw [if_pos c4] at H
   replace c4 := decide_eq_true c4
   by_cases c5 : a0 ≤ 57
   ·rw [if_pos c5] at H
    replace c5 := decide_eq_true c5
    obtain rfl := Option.some.inj H
    go_enter Try.func93, Try.ntmps93
    go_wp2_with (first | ((with_reducible refine q73 (f := 92) rfl ?_); refine gl_ (some 4) Try.func92 #[.int .u8 a0] ?_; (with_reducible refine (q36.calls a0 false _ A2.out).mono ?_); rintro e w' ⟨rfl, ⟨nd, rfl⟩⟩; refine ⟨_, rfl, ?_⟩))
    go_ret
    exact ⟨by first | rfl | (simp; done) | (simp [*]; done), by repeat (first | exact Drawn0.refl _ | apply Drawn0.step)⟩
   ·rw [if_neg c5] at H
    replace c5 := decide_eq_false c5
    by_cases c6 : a0 = 45
    ·rw [if_pos c6] at H
     have c6b0 : (a0 == 45) = true := beq_iff_eq.mpr c6
     have c6b1 : (a0 != 45) = false := bne_eq_false_iff_eq.mpr c6
     clear c6
     obtain rfl := Option.some.inj H
     go_enter Try.func93, Try.ntmps93
     go_wp2_with (first | ((with_reducible refine q73 (f := 92) rfl ?_); refine gl_ (some 4) Try.func92 #[.int .u8 a0] ?_; (with_reducible refine (q36.calls a0 false _ A2.out).mono ?_); rintro e w' ⟨rfl, ⟨nd, rfl⟩⟩; refine ⟨_, rfl, ?_⟩))
     go_ret
     exact ⟨by first | rfl | (simp; done) | (simp [*]; done), by repeat (first | exact Drawn0.refl _ | apply Drawn0.step)⟩
    ·rw [if_neg c6] at H
     have c6b0 : (a0 == 45) = false := beq_eq_false_iff_ne.mpr c6
     have c6b1 : (a0 != 45) = true := bne_iff_ne.mpr c6
     obtain rfl := Option.some.inj H
     go_enter Try.func93, Try.ntmps93
     go_wp2_with (first | ((with_reducible refine q73 (f := 92) rfl ?_); refine gl_ (some 4) Try.func92 #[.int .u8 a0] ?_; (with_reducible refine (q36.calls a0 false _ A2.out).mono ?_); rintro e w' ⟨rfl, ⟨nd, rfl⟩⟩; refine ⟨_, rfl, ?_⟩))
     go_ret
     exact ⟨by first | rfl | (simp; done) | (simp [*]; done), by repeat (first | exact Drawn0.refl _ | apply Drawn0.step)⟩
  ·rw [if_neg c4] at H
   replace c4 := decide_eq_false c4
   by_cases c7 : a0 = 45
   ·rw [if_pos c7] at H
    have c7b0 : (a0 == 45) = true := beq_iff_eq.mpr c7
    have c7b1 : (a0 != 45) = false := bne_eq_false_iff_eq.mpr c7
    clear c7
    obtain rfl := Option.some.inj H
    go_enter Try.func93, Try.ntmps93
    go_wp2_with (first | ((with_reducible refine q73 (f := 92) rfl ?_); refine gl_ (some 4) Try.func92 #[.int .u8 a0] ?_; (with_reducible refine (q36.calls a0 false _ A2.out).mono ?_); rintro e w' ⟨rfl, ⟨nd, rfl⟩⟩; refine ⟨_, rfl, ?_⟩))
    go_ret
    exact ⟨by first | rfl | (simp; done) | (simp [*]; done), by repeat (first | exact Drawn0.refl _ | apply Drawn0.step)⟩
   ·rw [if_neg c7] at H
    have c7b0 : (a0 == 45) = false := beq_eq_false_iff_ne.mpr c7
    have c7b1 : (a0 != 45) = true := bne_iff_ne.mpr c7
    obtain rfl := Option.some.inj H
    go_enter Try.func93, Try.ntmps93
    go_wp2_with (first | ((with_reducible refine q73 (f := 92) rfl ?_); refine gl_ (some 4) Try.func92 #[.int .u8 a0] ?_; (with_reducible refine (q36.calls a0 false _ A2.out).mono ?_); rintro e w' ⟨rfl, ⟨nd, rfl⟩⟩; refine ⟨_, rfl, ?_⟩))
    go_ret
    exact ⟨by first | rfl | (simp; done) | (simp [*]; done), by repeat (first | exact Drawn0.refl _ | apply Drawn0.step)⟩
def letterB (a : Int) : Bool := decide ((97 ≤ a ∧ a ≤ 122) ∨ (65 ≤ a ∧ a ≤ 90) ∨ a = 95)
def moreB (a : Int) : Bool := letterB a || decide ((48 ≤ a ∧ a ≤ 57) ∨ a = 45 ∨ a = 46)
theorem letter_eq (a : Int) : q36.f a = some (letterB a) := by
 unfold q36.f letterB
 by_cases h1 : a ≥ 97 <;> by_cases h2 : a ≤ 122 <;> by_cases h3 : a ≥ 65 <;> by_cases h4 : a ≤ 90 <;> simp [h1, h2, h3, h4] <;> first | omega | (by_cases h5 : a = 95 <;> simp [h5] <;> omega)
theorem more_eq (a : Int) : q44.f a = some (moreB a) := by
  unfold q44.f moreB
  rw [letter_eq, Option.bind_some]
  cases letterB a with
  | true => simp
  | false =>
    by_cases h1 : a ≥ 48 <;> by_cases h2 : a ≤ 57 <;> by_cases h3 : a = 45 <;> simp [h1, h2, h3] <;> first | omega | (by_cases h5 : a = 46 <;> simp [h5] <;> omega)
def byteAt (s : ByteArray) (i : Nat) : Int := ((s.data.toList.getD i 0).toNat : Int)
def nameB (s : ByteArray) : Bool := decide (1 ≤ s.size ∧ s.size ≤ 12) && letterB (byteAt s 0) && (List.range s.size).all (fun i => moreB (byteAt s i))
def q58.f (a0 : ByteArray) : Option Bool := some (nameB a0)
theorem empty_size (s : ByteArray) : s.toList.isEmpty = decide (s.size = 0) := by
 rw [ByteArray.toList_eq, ← data_length]
 cases s.data.toList with
 | nil => rfl
 | cons x l => simp
theorem byteAt_get (s : ByteArray) (h : 0 < s.size) : ((s[0]'h).toNat : Int) = byteAt s 0 := by
 simp only [byteAt, List.getD_eq_getElem?_getD]
 rw [List.getElem?_eq_getElem (by simpa using h)]
 rfl
set_option maxHeartbeats 4000000 in
set_option maxRecDepth 100000 in
theorem q58.calls (a0 : ByteArray) (r : Bool) (w : World) (h : q58.f a0 = some r) :
    Calls Try.prog 84 #[.string a0] w fun e w' => e = .returned (.bool r) ∧ Below w.heap.size w w' := by
  obtain rfl := Option.some.inj h
  clear h
  by_cases h0 : a0.size = 0
  · have e1 : a0.toList.isEmpty = true := by rw [empty_size]; exact decide_eq_true h0
    have e2 : nameB a0 = false := by simp [nameB, h0]
    rw [e2]
    clear e2 h0
    go_enter Try.func84, Try.ntmps84
    go_wp2
    go_ret
    exact ⟨rfl, Below.refl _ _⟩
  have e1 : a0.toList.isEmpty = false := by rw [empty_size]; exact decide_eq_false h0
  by_cases h12 : 12 < a0.size
  · have e2 : nameB a0 = false := by simp [nameB]; omega
    rw [e2]
    clear e2 h0
    have h12' : (12 : Int) < a0.size := by omega
    go_enter Try.func84, Try.ntmps84
    go_wp2
    go_ret
    exact ⟨rfl, Below.refl _ _⟩
  have h12' : ¬ (12 : Int) < a0.size := by omega
  have hp : 0 < a0.size := by omega
  have hp' : (0 : Int) < a0.size := by omega
  have hl := fun (W : World) => q36.calls (byteAt a0 0) _ W (letter_eq _)
  have HL := Lib.hid hl
  clear hl
  have hb0 := byteAt_get a0 hp
  cases hq : letterB (byteAt a0 0) with
  | false =>
    have e2 : nameB a0 = false := by simp [nameB, hq]
    have hl := HL.out w
    rw [hq] at hl
    rw [e2]
    clear e2 hq h0 HL
    go_enter Try.func84, Try.ntmps84
    go_wp2_with (go_at_call 92; refine hl.mono ?_; rintro e w' ⟨rfl, ⟨nd, rfl⟩⟩)
    go_ret
    exact ⟨rfl, q78 (Below.refl _ _) _⟩
  | true =>
    have hl := HL.out w
    rw [hq] at hl
    have hconv := fun (W : World) => Lib.run_convert_string_bytes (P := Try.prog) W 9 119 5 a0 Try.underlying9 Try.underlying119 Try.underlying5
    obtain ⟨n, hn⟩ : ∃ n, n = a0.size := ⟨_, rfl⟩
    obtain ⟨T, hT⟩ : ∃ T, T = nameB a0 := ⟨_, rfl⟩
    have HT : Hid (T = (List.range n).all (fun i => moreB (byteAt a0 i))) := Lib.hid (by rw [hT, hn]; simp [nameB, hq]; omega)
    rw [← hT]
    clear hT hq
    have HN := Lib.hid hn
    clear hn
    go_enter Try.func84, Try.ntmps84
    go_wp2_with (go_at_call 92; refine hl.mono ?_; rintro e w' ⟨rfl, ⟨nd, rfl⟩⟩)
    have hs := Lib.bytesWorld_size (w.drewN nd) 5 a0
    obtain ⟨W1, hW1⟩ : ∃ W1, W1 = Lib.bytesWorld (w.drewN nd) 5 a0 := ⟨_, rfl⟩
    have B1 : Below w.heap.size w W1 := by
      rw [hW1]
      refine ⟨rfl, rfl, rfl, ?_, fun i hi => ?_⟩
      · rw [hs]; simp
      · exact Lib.bytesWorld_at_old (w.drewN nd) _ a0 i hi
    have C1 : ∀ j, j < n → W1.cell? ⟨w.heap.size, j, none⟩ = some (.int .u8 (byteAt a0 j)) := by
      intro j hj
      rw [hW1]
      exact Lib.bytesWorld_cell (w.drewN nd) 5 a0 j (by rw [← HN.out]; exact hj)
    have hlt1 : w.heap.size < W1.heap.size := by rw [hW1, hs]; simp
    rw [← hW1]
    rw [← HN.out] at h12' ⊢
    have hn12 : n ≤ 12 := by omega
    have BB := Lib.hid (And.intro B1 C1)
    clear hs hW1 B1 C1 hl hconv HL hb0 h12 hp hp' h0
    generalize grownCap (w.drewN nd) n 0 5 = cap
    go_loopg [21] n (fun gg s21 wr => ∃ kk : Nat, kk ≤ n ∧ n - kk ≤ gg ∧ s21 = .int .i64 kk ∧ Aside (Below W1.heap.size W1 wr) ∧ Aside (∀ j, j < kk → moreB (byteAt a0 j) = true))
    case atStart => exact ⟨0, Nat.zero_le _, by omega, rfl, Below.refl _ _, fun j hj => absurd hj (Nat.not_lt_zero _)⟩
    case round =>
      obtain ⟨kk, hkk, hg, rfl, BW, A⟩ := hrel
      have BE : Below w.heap.size w wr := q63 BB.out.1 BB.out.1.size BW.out
      have BEH := Lib.hid BE
      clear BE
      by_cases hlt : kk < n
      · have hltz : (kk : Int) < (n : Int) := by omega
        have hk12 : (kk : Int) ≤ 12 := by omega
        have hx : wr.cell? ⟨w.heap.size, kk, none⟩ = some (.int .u8 (byteAt a0 kk)) := (BW.out.cell hlt1).trans (BB.out.2 kk hlt)
        have hm := q44.calls (byteAt a0 kk) _ wr (more_eq _)
        cases hq : moreB (byteAt a0 kk) with
        | false =>
          rw [hq] at hm
          have e2 : T = false := by
            rw [HT.out, List.all_eq_false]
            exact ⟨kk, List.mem_range.2 hlt, by rw [hq]; simp⟩
          have HE := Lib.hid e2
          clear e2 hq
          go_wp2_with (go_at_call 93; refine hm.mono ?_; rintro e w' ⟨rfl, ⟨nd2, rfl⟩⟩)
          go_ret
          exact ⟨by rw [HE.out]; rfl, q78 BEH.out _⟩
        | true =>
          rw [hq] at hm
          have HQ := Lib.hid hq
          clear hq
          go_wp2_with (go_at_call 93; refine hm.mono ?_; rintro e w' ⟨rfl, ⟨nd2, rfl⟩⟩)
          go_roundg (n - (kk + 1))
          case measure => omega
          case rel =>
            refine ⟨kk + 1, by omega, by omega, by go_num, (show Aside _ from q78 BW.out _), (show Aside _ from fun j hj => ?_)⟩
            by_cases e : j = kk
            · subst e; exact HQ.out
            · exact A.out j (by omega)
      · have hltz : ¬ (kk : Int) < (n : Int) := by omega
        obtain rfl : kk = n := by omega
        have e2 : T = true := by
          rw [HT.out, List.all_eq_true]
          intro j hj
          exact A.out j (List.mem_range.1 hj)
        have HE := Lib.hid e2
        clear e2
        go_wp2
        go_ret
        exact ⟨by rw [HE.out]; rfl, BEH.out⟩
def nameOk (l : List ByteArray) (i : Nat) : Bool := nameB (rdOf ByteArray.empty l (i : Int)) && !memB (l.take i) (rdOf ByteArray.empty l (i : Int))
def namesB (l : List ByteArray) : Bool := (List.range l.length).all (nameOk l)
def q32.f (l0 : List ByteArray) : Option Bool := some (namesB l0)
set_option maxHeartbeats 8000000 in
set_option maxRecDepth 100000 in
theorem q32.calls (A0 : Option Addr) (c0 : Nat) (l0 : List ByteArray) (r : Bool) (w : World) (hr0 : Kd.C Kd.string w A0 l0.length l0) (hc0 : l0.length ≤ c0) (h : q32.f l0 = some r) :
    Calls Try.prog 55 #[.slice A0 l0.length c0] w fun e w' => e = .returned (.bool r) ∧ Below w.heap.size w w' := by
  obtain rfl := Option.some.inj h
  clear h
  have HR := Lib.hid hr0
  have hbig : l0.length ≤ 9223372036854775807 := hr0.2.1
  clear hr0
  obtain ⟨n, hn⟩ : ∃ n, n = l0.length := ⟨_, rfl⟩
  have HN := Lib.hid hn
  rw [← hn] at hc0 hbig ⊢
  clear hn
  go_enter Try.func55, Try.ntmps55
  go_wp2
  go_loopg [7] n (fun gg s7 wr => ∃ i : Nat, s7 = .int .i64 i ∧ i ≤ n ∧ n - i ≤ gg ∧ Hid (Below w.heap.size w wr ∧ ∀ j, j < i → nameOk l0 j = true))
  case atStart => exact ⟨0, rfl, Nat.zero_le _, by omega, Lib.hid ⟨Below.refl _ _, fun j hj => by omega⟩⟩
  case round =>
    obtain ⟨i, rfl, hin, hig, X⟩ := hrel
    by_cases hlt : i < n
    case neg =>
      have hltz : ¬ (i : Int) < (n : Int) := by omega
      obtain rfl : i = n := by omega
      have he : namesB l0 = true := by unfold namesB; rw [List.all_eq_true, ← HN.out]; intro j hj; exact X.out.2 j (List.mem_range.1 hj)
      have HE := Lib.hid he
      clear he
      go_wp2
      go_ret
      exact ⟨by rw [HE.out]; rfl, X.out.1⟩
    have hltz : (i : Int) < (n : Int) := by omega
    obtain ⟨ad, e, hx⟩ := Kd.at_string HR.out (i : Int) (by omega) (by have := HN.out; omega)
    cases e
    simp only [Int.toNat_natCast] at hx
    replace hx := q76 X.out.1 hx
    obtain ⟨x, hxx⟩ : ∃ x, x = rdOf ByteArray.empty l0 (i : Int) := ⟨_, rfl⟩
    rw [← hxx] at hx
    have hok : nameOk l0 i = (nameB x && !memB (l0.take i) x) := by rw [hxx]; rfl
    have HOK := Lib.hid hok
    clear hxx hok
    have hnm := q58.calls x _ wr rfl
    have hic : i ≤ c0 := by omega
    have hic2 : (i : Int) ≤ (c0 : Int) := by omega
    have hi0 : (0 : Int) ≤ (i : Int) := by omega
    cases hq : nameB x with
    | false =>
      have he : namesB l0 = false := by unfold namesB; exact List.all_eq_false.2 ⟨i, List.mem_range.2 (by have := HN.out; omega), by rw [HOK.out, hq]; simp⟩
      have HE := Lib.hid he
      rw [hq] at hnm
      clear he hq
      go_wp2_with (go_at_call 84; refine hnm.mono ?_; rintro e w' ⟨rfl, hb'⟩)
      go_ret
      exact ⟨by rw [HE.out]; rfl, q75 hb' X.out.1⟩
    | true =>
      rw [hq] at hnm HOK
      clear hq
      go_wp2_with fail
      go_at_call 84
      refine hnm.mono ?_
      rintro e w' ⟨rfl, hb'⟩
      have el : (l0.take i).length = i := by rw [List.length_take]; have := HN.out; omega
      have hct := q7.calls (n + 1) (some ad) c0 (l0.take i) x _ w' (Kd.C_below (Kd.C_below (Kd.C_take HR.out (show i ≤ l0.length by have := HN.out; omega)) X.out.1) hb') (by rw [el]; omega) (contains_eq (l0.take i) x (by rw [el]; omega) (n + 1) (by rw [el]; omega))
      rw [el] at hct
      have HB := Lib.hid (q75 hb' X.out.1)
      clear hb' el hnm
      cases hq2 : memB (l0.take i) x with
      | true =>
        have he : namesB l0 = false := by unfold namesB; exact List.all_eq_false.2 ⟨i, List.mem_range.2 (by have := HN.out; omega), by rw [HOK.out, hq2]; simp⟩
        have HE := Lib.hid he
        rw [hq2] at hct
        clear he hq2
        go_wp2_with (go_at_call 85; refine hct.mono ?_; rintro e w2 ⟨rfl, ⟨nd, rfl⟩⟩)
        go_ret
        exact ⟨by rw [HE.out]; rfl, q78 HB.out _⟩
      | false =>
        rw [hq2] at hct HOK
        clear hq2
        go_wp2_with (go_at_call 85; refine hct.mono ?_; rintro e w2 ⟨rfl, ⟨nd, rfl⟩⟩)
        go_roundg (n - (i + 1))
        case measure => omega
        case rel =>
          refine ⟨i + 1, by go_num, by omega, by omega, Lib.hid ⟨q78 HB.out _, fun j hj => ?_⟩⟩
          by_cases e : j = i
          · subst e; rw [HOK.out]; rfl
          · exact X.out.2 j (by omega)
def idxP (s : ByteArray) (y : ByteArray) : Bool := s.toList == y.toList
theorem index_at (l : List ByteArray) (s : ByteArray) (hn : l.length ≤ 9223372036854775807) (d : Nat) : ∀ (i k : Nat), i + d = l.length → d < k → (∀ j, j < i → idxP s (l.getD j ByteArray.empty) = false) → q8.l0 k l s l.length i = some (fidx (idxP s) l) := by
  induction d with
  | zero =>
    intro i k hi hk hno
    obtain ⟨k, rfl⟩ : ∃ m, k = m + 1 := ⟨k - 1, by omega⟩
    simp only [q8.l0]
    rw [if_neg (by omega), fidx_miss (idxP s) l ByteArray.empty (fun j hj => hno j (by omega))]
  | succ d ih =>
    intro i k hi hk hno
    obtain ⟨k, rfl⟩ : ∃ m, k = m + 1 := ⟨k - 1, by omega⟩
    have hlt : i < l.length := by omega
    have hg : l.getD i ByteArray.empty = l[i] := by rw [List.getD_eq_getElem?_getD, List.getElem?_eq_getElem hlt]; rfl
    simp only [q8.l0]
    rw [if_pos (by omega), if_pos (by omega), if_pos (by omega), rdOf_get _ _ _ hlt]
    by_cases he : s.toList = l[i].toList
    · rw [if_pos he, fidx_hit (idxP s) l i ByteArray.empty hlt (by rw [hg]; simpa [idxP] using he) hno]
    · rw [if_neg he, wrap_lt (n := (l.length : Int)) (by omega) (by omega) (by omega)]
      refine ih (i + 1) k (by omega) (by omega) (fun j hj => ?_)
      by_cases e : j = i
      · subst e; rw [hg]; simpa [idxP] using he
      · exact hno j (by omega)
theorem index_eq (l : List ByteArray) (s : ByteArray) (hn : l.length ≤ 9223372036854775807) (k : Nat) (hk : l.length < k) : q8.f k l s = some (fidx (idxP s) l) :=
 index_at l s hn l.length 0 k (by omega) hk (fun j hj => by omega)
def stkStep (l : List (S41)) (i : Nat) (st : List ByteArray) : Option (List ByteArray) :=
 if i = 0 then some (st ++ [(q84 l i).f0]) else
  let t := st.take (fidx (idxP (q84 l i).f2) st + 1).toNat
  if t.length = 0 ∨ 5 < t.length ∨ (q84 l (q77 l (q84 l i).f2)).f1 ≠ 1 then none else some (t ++ [(q84 l i).f0])
def stk (l : List (S41)) : Nat → Option (List ByteArray)
 | 0 => some []
 | i + 1 => (stk l i).bind (stkStep l i)
def standsB (l : List (S41)) : Bool := (stk l l.length).isSome
def q40.f (l0_0 : List ByteArray) (l0_1 : List (S41)) : Option Bool := some (standsB l0_1)
theorem stk_none (l : List (S41)) (i : Nat) (h : stk l i = none) : ∀ d, stk l (i + d) = none := by
 intro d
 induction d with
 | zero => exact h
 | succ d ih => show (stk l (i + d)).bind _ = none; rw [ih]; rfl
theorem stk_false (l : List (S41)) (i : Nat) (hi : i < l.length) (st : List ByteArray) (h : stk l i = some st) (h2 : stkStep l i st = none) : standsB l = false := by
 have h3 : stk l (i + 1) = none := by show (stk l i).bind _ = none; rw [h]; exact h2
 have h4 := stk_none l (i + 1) h3 (l.length - (i + 1))
 rw [show i + 1 + (l.length - (i + 1)) = l.length by omega] at h4
 unfold standsB
 rw [h4]; rfl
theorem stkStep_length (l : List (S41)) (i : Nat) (st st' : List ByteArray) (h : stkStep l i st = some st') (hs : i = 0 → st = []) : 0 < st'.length ∧ st'.length ≤ 6 := by
 unfold stkStep at h
 split at h
 ·rename_i h0
  obtain rfl := Option.some.inj h
  rw [hs h0]; simp
 ·simp only at h
  split at h
  ·cases h
  ·rename_i h1
   obtain rfl := Option.some.inj h
   simp only [List.length_append, List.length_singleton]
   omega
theorem stkStep_mem (l : List (S41)) (i : Nat) (hi : i < l.length) (st st' : List ByteArray) (h : stkStep l i st = some st') (hm : ∀ s ∈ st, ∃ y ∈ l, y.f0 = s) : ∀ s ∈ st', ∃ y ∈ l, y.f0 = s := by
 have hx : q84 l (i : Int) ∈ l := by
  simp [q84, List.getD_eq_getElem?_getD, List.getElem?_eq_getElem hi]
 unfold stkStep at h
 split at h
 ·obtain rfl := Option.some.inj h
  intro s hs
  rcases List.mem_append.1 hs with hs | hs
  ·exact hm s hs
  ·rw [List.mem_singleton.1 hs]; exact ⟨_, hx, rfl⟩
 ·simp only at h
  split at h
  ·cases h
  ·obtain rfl := Option.some.inj h
   intro s hs
   rcases List.mem_append.1 hs with hs | hs
   ·exact hm s (List.mem_of_mem_take hs)
   ·rw [List.mem_singleton.1 hs]; exact ⟨_, hx, rfl⟩
theorem stk_facts (l : List (S41)) (i : Nat) (hi : i ≤ l.length) (st : List ByteArray) (h : stk l i = some st) : st.length ≤ 6 ∧ (0 < i → 0 < st.length) ∧ (i = 0 → st = []) ∧ ∀ s ∈ st, ∃ y ∈ l, y.f0 = s := by
  induction i generalizing st with
  | zero =>
    obtain rfl := Option.some.inj h
    exact ⟨by simp, by omega, fun _ => rfl, by simp⟩
  | succ i ih =>
    have h' : (stk l i).bind (stkStep l i) = some st := h
    obtain ⟨s0, hs0, h2⟩ := Option.bind_eq_some_iff.1 h'
    obtain ⟨_, _, h0, hm⟩ := ih (by omega) s0 hs0
    have hl := stkStep_length l i s0 st h2 h0
    exact ⟨hl.2, fun _ => hl.1, by omega, stkStep_mem l i (by omega) s0 st h2 hm⟩
theorem place_mem (l : List (S41)) (id : ByteArray) (h : ∃ y ∈ l, y.f0.toList = id.toList) : 0 ≤ q77 l id := by
 obtain ⟨y, hy, he⟩ := h
 have ha := fidx_any (q45.p id) l
 have h2 : l.any (q45.p id) = true := List.any_eq_true.2 ⟨y, hy, by simpa [q45.p] using he⟩
 rw [h2] at ha
 exact of_decide_eq_true ha
theorem stk_hit (l : List (S41)) (s : ByteArray) (st : List ByteArray) (hm : ∀ s ∈ st, ∃ y ∈ l, y.f0 = s) (j : Nat) (hj : fidx (idxP s) st = j) : j < st.length ∧ 0 ≤ q77 l s := by
  have hlt := fidx_lt (idxP s) st
  have hjl : j < st.length := by omega
  refine ⟨hjl, place_mem l s ?_⟩
  unfold fidx at hj
  cases h : st.findIdx? (idxP s) with
  | none => rw [h] at hj; simp only at hj; omega
  | some q =>
    obtain ⟨hq, hp, _⟩ := List.findIdx?_eq_some_iff_getElem.1 h
    obtain ⟨y, hy, he⟩ := hm st[q] (List.getElem_mem hq)
    exact ⟨y, hy, by rw [he]; unfold idxP at hp; exact (by simpa using hp : s.toList = st[q].toList).symm⟩
theorem info_str : (Try.prog.info? 9).map (fun i => (i.zero, i.size, i.bytes)) = some (some (.string ⟨#[]⟩), 1, 16) := by kernel_rfl
theorem append_full (B : Nat) (W : World) (A : Option Addr) (st : List ByteArray) (x : ByteArray) (hC : Kd.C Kd.string W A st.length st) (hs : st.length ≤ 6) (hB : B ≤ W.heap.size) :
    ∃ v' w', (Builtin.append_ #[22, 22] 22 #[.slice A st.length st.length, .slice (some ⟨W.heap.size, 0, none⟩) 1 1]).run Try.prog (W.alloc (.cells #[.string x] 9)) = .ok v' w' ∧ Kd.R Kd.string 9 w' B (fun _ => True) v' (st ++ [x]) ∧ Below W.heap.size W w' := by
  obtain ⟨i0, hi0, hz0, hz1, hz2⟩ := info_parts info_str
  have hnew : ∀ (j : Nat) (u : Value), [Value.string x][j]? = some u → (W.alloc (.cells #[.string x] 9)).cell? ((⟨W.heap.size, 0, none⟩ : Addr).add j) = some u := World.news_of_block (cs := #[.string x]) (t := 9) (fr := (0, 0)) (heap_alloc_new W _)
  have hsz : (W.alloc (.cells #[.string x] 9)).heap.size = W.heap.size + 1 := by simp
  have hba := q60 (Below.refl W.heap.size W) (.cells #[.string x] 9)
  cases A with
  | none =>
    have h0 : st.length = 0 := by
      rcases Nat.eq_zero_or_pos st.length with h0 | h0
      · exact h0
      · obtain ⟨ad, h, _⟩ := hC.2.2 h0
        cases h
    obtain rfl := List.eq_nil_of_length_eq_zero h0
    obtain ⟨v', w', hr, ho, hg, _, hat⟩ := run_append_own_at (P := Try.prog) (w := W.alloc (.cells #[.string x] 9)) B 22 22 9 i0 (.string ⟨#[]⟩) 1 16 Try.underlying22 hi0 hz0 hz1 hz2 rfl (by decide) (.slice none 0 0) 0 [] (World.ownsRow_nil _ _ _ _) ⟨W.heap.size, 0, none⟩ 1 1 [.string x] rfl hnew (by simp [Value.oneCell']) (by simp [maxLen]) (by omega) (by omega)
    refine ⟨v', w', hr, Kd.R_of_own (by simpa [encs] using ho) (fun _ _ => trivial), ?_⟩
    exact hba.grown hg (by omega) (by simp [Value.ownBlock])
  | some ad =>
    have hold : ∀ (j : Nat) (u : Value), (encs Value.string st)[j]? = some u → (W.alloc (.cells #[.string x] 9)).cell? (ad.add j) = some u := by
      intro j u hj
      have hjl : j < st.length := by simpa [encs] using (List.getElem?_eq_some_iff.1 hj).1
      obtain ⟨ad', c, e, _, hK, hcc⟩ := Kd.C_get hC ByteArray.empty (j : Int) (by omega) (by omega)
      cases e
      obtain rfl : c = [.string (st.getD j ByteArray.empty)] := hK
      have h1 := hcc 0 _ rfl
      have hu : u = .string (st.getD j ByteArray.empty) := by
        simp [encs, List.getElem?_map, List.getElem?_eq_getElem hjl] at hj
        rw [List.getD_eq_getElem?_getD, List.getElem?_eq_getElem hjl]
        exact hj.symm
      rw [hu]
      exact q76 hba (by simpa [Kd.string, Kd.scalar] using h1)
    obtain ⟨v', w', hr, ho, hg⟩ := run_append_arg_grows (P := Try.prog) (w := W.alloc (.cells #[.string x] 9)) 22 22 9 i0 (.string ⟨#[]⟩) 1 16 Try.underlying22 hi0 hz0 hz1 hz2 rfl (by decide) ad st.length st.length (encs Value.string st) (by simp [encs]) hold ⟨W.heap.size, 0, none⟩ 1 1 [.string x] rfl hnew (by omega) (by simp [maxLen]; omega) (by omega)
    refine ⟨v', w', hr, Kd.R_of_own (own_weaken (by simpa [encs] using ho) (by omega)) (fun _ _ => trivial), ?_⟩
    exact hba.grown hg (by omega) (by simp)
theorem app_event {P : Program} {o : Oper} {a : Act} {W w1 : World} {s x : Operand} {t : TypeId} {v u v1 : Value} (ho : o.op = .call { callee := .builtin .append, args := #[s, x], argTypes := #[t, t] }) (hs : a.eval s = v) (hx : a.eval x = u) (hr : (Builtin.append_ #[t, t] o.type #[v, u]).run P W = .ok v1 w1) : (execOp a.eval o).run P W = .ok (.value v1) w1 := by
 unfold execOp
 simp only [ho, resolve, invoke, builtin, Sem.run_bind, Sem.run_pure, Result.andThen_ok, List.map_toArray, List.map_cons, List.map_nil, hs, hx, hr]
theorem fidx_neg {α : Type} (p : α → Bool) (l : List α) (h : fidx p l < 0) : fidx p l = -1 := by
 unfold fidx at h ⊢
 cases e : l.findIdx? p with
 | none => rfl
 | some i => rw [e] at h; simp only at h; omega
set_option maxHeartbeats 16000000 in
set_option maxRecDepth 100000 in
theorem q40.calls (A0_0 : Option Addr) (c0_0 : Nat) (l0_0 : List ByteArray) (A0_1 : Option Addr) (c0_1 : Nat) (l0_1 : List (S41)) (r : Bool) (w : World) (hr0_0 : Kd.C Kd.string w A0_0 l0_0.length l0_0) (hc0_0 : l0_0.length ≤ c0_0) (hr0_1 : Kd.C k41 w A0_1 l0_1.length l0_1) (hc0_1 : l0_1.length ≤ c0_1) (h : q40.f l0_0 l0_1 = some r) :
 Calls Try.prog 58 #[.agg #[.slice A0_0 l0_0.length c0_0, .slice A0_1 l0_1.length c0_1]] w fun e w' => e = .returned (.bool r) ∧ Below w.heap.size w w' := by
 obtain rfl := Option.some.inj h
 clear h
 have hu36 := Try.underlying25
 have hu32 := Try.underlying41
 have HR := Lib.hid (And.intro hr0_0 hr0_1)
 have hbig : l0_1.length ≤ 9223372036854775807 := hr0_1.2.1
 clear hr0_0 hr0_1
 obtain ⟨n, hn⟩ : ∃ n, n = l0_1.length := ⟨_, rfl⟩
 have HN := Lib.hid hn
 rw [← hn] at hc0_1 hbig ⊢
 clear hn
 go_enter Try.func58, Try.ntmps58
 go_wp2
 obtain ⟨W1, hW1⟩ : ∃ W1, W1 = w.alloc (.cells #[.slice A0_0 l0_0.length c0_0, .slice A0_1 n c0_1] 25) := ⟨_, rfl⟩
 have hb1 : Below w.heap.size w W1 := by rw [hW1]; exact q60 (Below.refl _ _) _
 have hm0 : W1.cell? ⟨w.heap.size, 0, none⟩ = some (.slice A0_0 l0_0.length c0_0) := by rw [hW1]; simp
 have hm1 : W1.cell? ⟨w.heap.size, 1, none⟩ = some (.slice A0_1 n c0_1) := by rw [hW1]; simp
 have hsz : W1.heap.size = w.heap.size + 1 := by rw [hW1]; simp
 rw [← hW1]
 have H1 := Lib.hid (And.intro hb1 (And.intro hm0 (And.intro hm1 hsz)))
 clear hW1 hb1 hm0 hm1 hsz
 go_loopg [3, 9] n (fun gg s3 s9 wr => ∃ (i : Nat) (v : Value) (st : List ByteArray), s9 = .int .i64 i ∧ s3 = v ∧ i ≤ n ∧ n - i ≤ gg ∧ Hid (stk l0_1 i = some st ∧ Kd.R Kd.string 9 wr W1.heap.size (fun _ => True) v st ∧ Below W1.heap.size W1 wr))
 case atStart => exact ⟨0, _, [], rfl, rfl, Nat.zero_le _, by omega, Lib.hid ⟨rfl, Kd.R_nil _ _ _ _ _, Below.refl _ _⟩⟩
 case round =>
  obtain ⟨i, v, st, rfl, rfl, hin, hig, X⟩ := hrel
  have hbw : Below w.heap.size w wr := q63 H1.out.1 H1.out.1.size X.out.2.2
  have HBW := Lib.hid hbw
  clear hbw
  by_cases hlt : i < n
  case neg =>
   have hltz : ¬ (i : Int) < (n : Int) := by omega
   obtain rfl : i = n := by omega
   have he : standsB l0_1 = true := by unfold standsB; rw [← HN.out, X.out.1]; rfl
   have HE := Lib.hid he
   clear he
   go_wp2
   go_ret
   exact ⟨by rw [HE.out]; rfl, HBW.out⟩
  have hltz : (i : Int) < (n : Int) := by omega
  obtain ⟨ad, B5, d5, B6, d6, e, hx0, hx1, hx2, hx3, hx4, hx5, hx6, _, _, _, _⟩ := at_T41 HR.out.2 (i : Int) (by omega) (by have := HN.out; omega)
  cases e
  simp only [Int.toNat_natCast] at hx0 hx1 hx2 hx3 hx4 hx5 hx6
  obtain ⟨x, hx⟩ : ∃ x, x = q84 l0_1 (i : Int) := ⟨_, rfl⟩
  rw [← hx] at hx0 hx1 hx2 hx3 hx4 hx5 hx6
  have HX := Lib.hid hx
  clear hx
  replace hx0 := q76 HBW.out hx0
  replace hx1 := q76 HBW.out hx1
  replace hx2 := q76 HBW.out hx2
  replace hx3 := q76 HBW.out hx3
  replace hx4 := q76 HBW.out hx4
  replace hx5 := q76 HBW.out hx5
  replace hx6 := q76 HBW.out hx6
  obtain ⟨st1, st2, st3, st4⟩ := stk_facts l0_1 i (by have := HN.out; omega) st X.out.1
  have HS := Lib.hid (And.intro st1 (And.intro st2 (And.intro st3 st4)))
  clear st1 st2 st3 st4
  obtain ⟨A, cc, rfl, hlc, hCst⟩ := Kd.R_reads X.out.2.1
  have HC := Lib.hid hCst
  clear hCst
  have hsl : (st.length : Int) ≤ 6 := by have := HS.out.1; omega
  -- the world behind the box of x, and what it holds
  have key : ∃ W2, W2 = wr.alloc (.cells #[.string x.f0, .int .i64 x.f1, .string x.f2, .bool x.f3, .int .i64 x.f4, .slice B5 x.f5.length d5, .slice B6 x.f6.length d6] 41) ∧ Below wr.heap.size wr W2 ∧ W2.cell? ⟨wr.heap.size, 0, none⟩ = some (.string x.f0) ∧ W2.cell? ⟨wr.heap.size, 2, none⟩ = some (.string x.f2) := ⟨_, rfl, q60 (Below.refl _ _) _, by simp, by simp⟩
  obtain ⟨W2, hW2, hb2, hid0, hp2⟩ := key
  have hlo : w.heap.size + 1 ≤ wr.heap.size := by have := X.out.2.2.size; have := H1.out.2.2.2; omega
  have hm0 : W2.cell? ⟨w.heap.size, 0, none⟩ = some (.slice A0_0 l0_0.length c0_0) := q76 hb2 ((X.out.2.2.cell (p := ⟨_, _, none⟩) (by simp only; have := H1.out.2.2.2; omega)).trans H1.out.2.1)
  have hm1 : W2.cell? ⟨w.heap.size, 1, none⟩ = some (.slice (some ad) n c0_1) := q76 hb2 ((X.out.2.2.cell (p := ⟨_, _, none⟩) (by simp only; have := H1.out.2.2.2; omega)).trans H1.out.2.2.1)
  have hbw2 : Below w.heap.size w W2 := q75 hb2 HBW.out
  have F2 := Lib.hid (And.intro hb2 (And.intro hm0 (And.intro hm1 (And.intro hbw2 (And.intro hid0 hp2)))))
  have HW2 := Lib.hid hW2
  clear hb2 hid0 hp2 hm0 hm1 hbw2 hW2
  by_cases hi0 : i = 0
  ·have hnp : ¬ 0 < i := by omega
   have HI := Lib.hid hi0
   clear hi0
   obtain ⟨m, hm⟩ : ∃ m, m = st.length := ⟨_, rfl⟩
   have HM := Lib.hid hm
   rw [← hm] at hlc hsl ⊢
   clear hm
   have hm6 : m ≤ cc := hlc
   have hmz : (0 : Int) ≤ (m : Int) := by omega
   have hmc : (m : Int) ≤ (cc : Int) := by omega
   go_wp2
   rw [← HW2.out]
   clear hx0 hx1 hx2 hx3 hx4 hx5 hx6
   obtain ⟨W5, hW5⟩ : ∃ W, W = W2 := ⟨_, rfl⟩
   have hid0 : W5.cell? ⟨wr.heap.size, 0, none⟩ = some (.string x.f0) := by rw [hW5]; exact F2.out.2.2.2.2.1
   have hb5 : Below wr.heap.size wr W5 := by rw [hW5]; exact F2.out.1
   rw [← hW5]
   clear hW5
   have happ := fun (W6 : World) (h6 : Below W5.heap.size W5 W6) => append_full W1.heap.size W6 A st x.f0 (Kd.C_below (Kd.C_below HC.out hb5) h6) (by have := HS.out.1; omega) (by have := X.out.2.2.size; have := hb5.size; have := h6.size; omega)
   rw [← HM.out] at happ
   refine st_ (fun w' => w'.cell? ⟨wr.heap.size, 0, none⟩ = some (.string x.f0) ∧ Below W5.heap.size W5 w') 11 ⟨hid0, q61 (Below.refl _ _)⟩ (fun hHeld => ?_)
   generalize W5.drew = W6 at hHeld ⊢
   refine pu_ 0 (some 43) ?_
   refine pu_ 1 (some 44) ?_
   refine pu_ 2 (some 45) ?_
   refine pu_ 3 (some 46) ?_
   refine pu_ 4 (some 47) ?_
   refine pu_ 5 (some 48) ?_
   refine pu_ 6 (some 49) ?_
   refine tk_ 7 (some 50) hHeld ?_ (hy := by rintro w' ⟨s0, _⟩; go_simp; with_reducible rfl)
   refine oN_ 8 (some 51) (fun K hK => ?_)
   refine event_step (by rfl) (v := .slice (some ⟨W6.heap.size, 0, none⟩) 1 1) (w1 := W6.alloc (.cells #[.string x.f0] 9)) ?_ ?_
   ·go_simp
   refine hK.out _ _ ⟨q76 (q60 (Below.refl _ _) _) hHeld.1, q75 (q60 (Below.refl _ _) _) hHeld.2⟩ (fun hHeld2 => ?_)
   clear hK K
   refine nz_ (some 51) ?_
   obtain ⟨v9, w9, hrun9, hR9, hB9⟩ := happ W6 hHeld.2
   refine oN_ 9 (some 52) (fun K hK => ?_)
   refine event_step (by rfl) (v := v9) (w1 := w9) ?_ ?_
   ·exact app_event rfl rfl rfl hrun9
   refine hK.out _ _ ⟨q76 hB9 hHeld.1, q75 hB9 hHeld.2⟩ (fun hHeld3 => ?_)
   clear hK K
   refine nz_ (some 52) ?_
   refine pu_ 10 (some 3) ?_
   refine dn_ ?_
   have hnext : stk l0_1 (i + 1) = some (st ++ [x.f0]) := by
    show (stk l0_1 i).bind _ = _
    rw [X.out.1]
    show stkStep l0_1 i st = _
    unfold stkStep
    rw [if_pos HI.out, ← HX.out]
   have hbe : Below W1.heap.size W1 w9 := q63 (q63 X.out.2.2 X.out.2.2.size hb5) (q63 X.out.2.2 X.out.2.2.size hb5).size hHeld3.2
   have XX := Lib.hid (And.intro hnext (And.intro hR9 hbe))
   clear hnext hbe hHeld hHeld2 hHeld3 hrun9 hR9 hB9 happ hid0
   go_wp2
   go_roundg (n - (i + 1))
   case measure => omega
   case rel => exact ⟨i + 1, v9, st ++ [x.f0], by go_num, rfl, by omega, by omega, XX⟩
  ·have hipos : 0 < i := by omega
   clear hi0
   have hidx := q8.calls (st.length + 1) A cc st x.f2 _ W2 (Kd.C_below HC.out F2.out.1) hlc (index_eq st x.f2 (by have := HS.out.1; omega) (st.length + 1) (by omega))
   by_cases hneg : fidx (idxP x.f2) st < 0
   ·have e1 := fidx_neg _ _ hneg
    have he : standsB l0_1 = false := stk_false l0_1 i (by have := HN.out; omega) st X.out.1 (by
     unfold stkStep
     rw [if_neg (by omega), ← HX.out, e1]
     simp)
    have HE := Lib.hid he
    rw [e1] at hidx
    clear e1 hneg he
    go_wp2_with fail
    rw [← HW2.out]
    clear hx0 hx1 hx2 hx3 hx4 hx5 hx6
    refine hidx.mono ?_
    rintro e w3 ⟨rfl, ⟨nd, rfl⟩⟩
    obtain ⟨W3, hW3⟩ : ∃ W, W = W2.drewN nd := ⟨_, rfl⟩
    have hb3 : Below W2.heap.size W2 W3 := by rw [hW3]; exact q78 (Below.refl _ _) _
    rw [← hW3]
    clear hW3
    have hm0 := q76 hb3 F2.out.2.1
    have hm1 := q76 hb3 F2.out.2.2.1
    have hp2 := q76 hb3 F2.out.2.2.2.2.2
    have hbw3 := q75 hb3 F2.out.2.2.2.1
    have HB3 := Lib.hid hbw3
    clear hidx hb3 hbw3
    go_wp2
    refine st_ (fun w' => (w'.cell? ⟨w.heap.size, 0, none⟩ = some (.slice A0_0 l0_0.length c0_0) ∧ w'.cell? ⟨w.heap.size, 1, none⟩ = some (.slice (some ad) n c0_1) ∧ w'.cell? ⟨wr.heap.size, 2, none⟩ = some (.string x.f2)) ∧ Below W3.heap.size W3 w') 20 ⟨⟨hm0, hm1, hp2⟩, q61 (Below.refl _ _)⟩ (fun hHeld => ?_)
    generalize W3.drew = W4 at hHeld ⊢
    refine pu_ 0 (some 23) ?_
    refine pu_ 1 (some 24) ?_
    refine pu_ 2 (some 25) ?_
    refine pu_ 3 (some 26) ?_
    refine sk_ 4 (some 27) ?_
    refine sk_ 5 (some 28) ?_
    refine sk_ 6 (some 29) ?_
    refine pu_ 7 (some 30) ?_
    refine pu_ 8 (some 31) ?_
    refine sk_ 9 (some 32) ?_
    refine sk_ 10 (some 33) ?_
    refine sk_ 11 (some 34) ?_
    refine sk_ 12 (some 35) ?_
    refine sk_ 13 (some 36) ?_
    refine sk_ 14 (some 37) ?_
    refine sk_ 15 (some 38) ?_
    refine sk_ 16 (some 39) ?_
    refine sk_ 17 (some 40) ?_
    refine sk_ 18 (some 41) ?_
    refine pu_ 19 (some 42) ?_
    refine dn_ ?_
    have hfin := q75 hHeld.2 HB3.out
    have HF := Lib.hid hfin
    clear hHeld hfin
    go_wp2
    go_ret
    exact ⟨by rw [HE.out]; rfl, HF.out⟩
   ·obtain ⟨j, hj⟩ : ∃ j : Nat, fidx (idxP x.f2) st = j := ⟨(fidx (idxP x.f2) st).toNat, by omega⟩
    obtain ⟨hjl, hpl0⟩ := stk_hit l0_1 x.f2 st HS.out.2.2.2 j hj
    rw [hj] at hidx
    have HJ := Lib.hid hj
    clear hj hneg
    have htk : (st.take (fidx (idxP x.f2) st + 1).toNat) = st.take (j + 1) := by rw [HJ.out]; congr 1
    have hlen : (st.take (j + 1)).length = j + 1 := by rw [List.length_take]; omega
    have HT := Lib.hid (And.intro htk hlen)
    clear htk hlen
    have hj0 : (0 : Int) ≤ (j : Int) := by omega
    have hj6 : (j : Int) < 6 := by have := HS.out.1; omega
    have hjs : j + 1 ≤ st.length := by omega
    have hjs2 : (j : Int) + 1 ≤ (st.length : Int) := by omega
    have hjc : j + 1 ≤ cc := by omega
    have hjc2 : (j : Int) + 1 ≤ (cc : Int) := by omega
    have hd0 : ((j : Int) + 1 == 0) = false := by
     have : (j : Int) + 1 ≠ 0 := by omega
     simpa using this
    go_wp2_with fail
    rw [← HW2.out]
    clear hx0 hx1 hx2 hx3 hx4 hx5 hx6
    refine hidx.mono ?_
    rintro e w3 ⟨rfl, ⟨nd, rfl⟩⟩
    obtain ⟨W3, hW3⟩ : ∃ W, W = W2.drewN nd := ⟨_, rfl⟩
    have hb3 : Below W2.heap.size W2 W3 := by rw [hW3]; exact q78 (Below.refl _ _) _
    rw [← hW3]
    clear hW3
    have hm0 := q76 hb3 F2.out.2.1
    have hm1 := q76 hb3 F2.out.2.2.1
    have hp2 := q76 hb3 F2.out.2.2.2.2.2
    have hbw3 := q75 hb3 F2.out.2.2.2.1
    have HB3 := Lib.hid (And.intro hb3 hbw3)
    clear hidx hb3
    go_wp2
    by_cases h5 : 5 < j + 1
    ·have hd5 : decide (5 < (j : Int) + 1) = true := decide_eq_true (by omega)
     have he : standsB l0_1 = false := stk_false l0_1 i (by have := HN.out; omega) st X.out.1 (by
      unfold stkStep
      rw [if_neg (by omega), ← HX.out]
      simp only
      rw [HT.out.1, HT.out.2, if_pos (.inr (.inl h5))])
     have HE := Lib.hid he
     clear he
     refine st_ (fun w' => (w'.cell? ⟨w.heap.size, 0, none⟩ = some (.slice A0_0 l0_0.length c0_0) ∧ w'.cell? ⟨w.heap.size, 1, none⟩ = some (.slice (some ad) n c0_1) ∧ w'.cell? ⟨wr.heap.size, 2, none⟩ = some (.string x.f2)) ∧ Below W3.heap.size W3 w') 20 ⟨⟨hm0, hm1, hp2⟩, q61 (Below.refl _ _)⟩ (fun hHeld => ?_)
     generalize W3.drew = W4 at hHeld ⊢
     refine pu_ 0 (some 23) ?_
     refine pu_ 1 (some 24) ?_
     refine pu_ 2 (some 25) ?_
     refine pu_ 3 (some 26) ?_
     refine pu_ 4 (some 27) ?_
     refine pu_ 5 (some 28) ?_
     refine pu_ 6 (some 29) ?_
     refine pu_ 7 (some 30) ?_
     refine pu_ 8 (some 31) ?_
     refine sk_ 9 (some 32) ?_
     refine sk_ 10 (some 33) ?_
     refine sk_ 11 (some 34) ?_
     refine sk_ 12 (some 35) ?_
     refine sk_ 13 (some 36) ?_
     refine sk_ 14 (some 37) ?_
     refine sk_ 15 (some 38) ?_
     refine sk_ 16 (some 39) ?_
     refine sk_ 17 (some 40) ?_
     refine sk_ 18 (some 41) ?_
     refine pu_ 19 (some 42) ?_
     refine dn_ ?_
     have hfin := q75 hHeld.2 HB3.out.2
     have HF := Lib.hid hfin
     clear hHeld hfin hbw3
     go_wp2
     go_ret
     exact ⟨by rw [HE.out]; rfl, HF.out⟩
    ·have hd5 : decide (5 < (j : Int) + 1) = false := decide_eq_false (by omega)
     obtain ⟨p, hp⟩ : ∃ p : Nat, q77 l0_1 x.f2 = p := ⟨(q77 l0_1 x.f2).toNat, by omega⟩
     have hpn : p < n := by have := placeI_lt l0_1 x.f2; have := HN.out; omega
     have hpl := fun (W : World) (hb : Below w.heap.size w W) => q45.calls A0_0 c0_0 l0_0 _ c0_1 l0_1 x.f2 _ W (Kd.C_below HR.out.1 hb) hc0_0 (Kd.C_below HR.out.2 hb) (by have := HN.out; omega) (show q45.f l0_0 l0_1 x.f2 = some (p : Int) by rw [← hp]; rfl)
     rw [← HN.out] at hpl
     obtain ⟨ad', _, _, _, _, e, _, hk1, _⟩ := at_T41 HR.out.2 (p : Int) (by omega) (by have := HN.out; omega)
     cases e
     simp only [Int.toNat_natCast] at hk1
     obtain ⟨y1, hy1⟩ : ∃ y, y = (q84 l0_1 (p : Int)).f1 := ⟨_, rfl⟩
     rw [← hy1] at hk1
     have hky := q76 hbw3 hk1
     have HP := Lib.hid (And.intro hp hy1)
     have hpz : (0 : Int) ≤ (p : Int) := by omega
     have hpn2 : (p : Int) < (n : Int) := by omega
     clear hk1 hp hy1 hpl0
     refine st_ (fun w' => (w'.cell? ⟨w.heap.size, 0, none⟩ = some (.slice A0_0 l0_0.length c0_0) ∧ w'.cell? ⟨w.heap.size, 1, none⟩ = some (.slice (some ad) n c0_1) ∧ w'.cell? ⟨wr.heap.size, 2, none⟩ = some (.string x.f2) ∧ w'.cell? ⟨(ad.add (p * 7)).block, (ad.add (p * 7)).off + 1, none⟩ = some (.int .i64 y1)) ∧ Below W3.heap.size W3 w') 20 ⟨⟨hm0, hm1, hp2, hky⟩, q61 (Below.refl _ _)⟩ (fun hHeld => ?_)
     generalize W3.drew = W4 at hHeld ⊢
     refine pu_ 0 (some 23) ?_
     refine pu_ 1 (some 24) ?_
     refine pu_ 2 (some 25) ?_
     refine pu_ 3 (some 26) ?_
     refine pu_ 4 (some 27) ?_
     refine pu_ 5 (some 28) ?_
     refine pu_ 6 (some 29) ?_
     refine pu_ 7 (some 30) ?_
     refine pu_ 8 (some 31) ?_
     refine pu_ 9 (some 32) ?_
     refine tk_ 10 (some 33) hHeld ?_ (hy := by rintro w' ⟨⟨s0, s1, s2, s3⟩, _⟩; go_simp; with_reducible rfl)
     refine tk_ 11 (some 34) hHeld ?_ (hy := by rintro w' ⟨⟨s0, s1, s2, s3⟩, _⟩; go_simp; with_reducible rfl)
     refine pu_ 12 (some 35) ?_
     refine tk_ 13 (some 36) hHeld ?_ (hy := by rintro w' ⟨⟨s0, s1, s2, s3⟩, _⟩; go_simp; with_reducible rfl)
     refine oN_ 14 (some 37) (fun K hK => ?_)
     refine goes_ Try.func45 (by kernel_rfl) rfl #[.agg #[.slice A0_0 l0_0.length c0_0, .slice (some ad) n c0_1], .string x.f2] (by rfl) rfl rfl (by (try simp only [List.map_toArray, List.map_cons, List.map_nil]); first | done | rfl) ?_
     with_reducible refine (hpl _ (q75 hHeld.2 hbw3)).mono ?_
     rintro e w' ⟨rfl, hb'⟩
     refine ⟨_, rfl, ?_⟩
     refine hK.out _ _ ⟨⟨q76 hb' hHeld.1.1, q76 hb' hHeld.1.2.1, q76 hb' hHeld.1.2.2.1, q76 hb' hHeld.1.2.2.2⟩, q75 hb' hHeld.2⟩ (fun hHeld => ?_)
     clear hK K
     refine nz_ (some 37) ?_
     refine pu_ 15 (some 38) ?_
     refine pu_ 16 (some 39) ?_
     refine tk_ 17 (some 40) hHeld ?_ (hy := by rintro w' ⟨⟨s0, s1, s2, s3⟩, _⟩; go_simp; with_reducible rfl)
     refine pu_ 18 (some 41) ?_
     refine pu_ 19 (some 42) ?_
     refine dn_ ?_
     have HH := Lib.hid hHeld
     have hfin := q75 hHeld.2 HB3.out.2
     have HF := Lib.hid hfin
     clear hHeld hfin hbw3 hky hpl hm0 hm1 hp2 hd0 hd5 hjs hjs2 hpz hpn2
     by_cases hy : y1 = 1
     ·have hyb : (y1 != 1) = false := by simp [hy]
      have HY := Lib.hid hy
      clear hy
      go_wp2
      obtain ⟨W5, hW5⟩ : ∃ W, W = w' := ⟨_, rfl⟩
      have hb5 : Below W2.heap.size W2 W5 := by rw [hW5]; exact q63 HB3.out.1 HB3.out.1.size HH.out.2
      have hb5' : Below wr.heap.size wr W5 := q63 F2.out.1 F2.out.1.size hb5
      have hid0 : W5.cell? ⟨wr.heap.size, 0, none⟩ = some (.string x.f0) := q76 hb5 F2.out.2.2.2.2.1
      rw [← hW5]
      clear hW5
      have happ := fun (W6 : World) (h6 : Below W5.heap.size W5 W6) => append_full W1.heap.size W6 A (st.take (j + 1)) x.f0 (Kd.C_below (Kd.C_below (Kd.C_take HC.out (by have := HT.out.2; rw [List.length_take] at this; omega)) hb5') h6) (by have := HT.out.2; omega) (by have := X.out.2.2.size; have := hb5'.size; have := h6.size; omega)
      rw [HT.out.2] at happ
      have hj1 : (0 : Int) ≤ (j : Int) + 1 := by omega
      refine st_ (fun w' => w'.cell? ⟨wr.heap.size, 0, none⟩ = some (.string x.f0) ∧ Below W5.heap.size W5 w') 11 ⟨hid0, q61 (Below.refl _ _)⟩ (fun hHeld => ?_)
      generalize W5.drew = W6 at hHeld ⊢
      refine pu_ 0 (some 43) ?_
      refine pu_ 1 (some 44) ?_
      refine pu_ 2 (some 45) ?_
      refine pu_ 3 (some 46) ?_
      refine pu_ 4 (some 47) ?_
      refine pu_ 5 (some 48) ?_
      refine pu_ 6 (some 49) ?_
      refine tk_ 7 (some 50) hHeld ?_ (hy := by rintro w' ⟨s0, _⟩; go_simp; with_reducible rfl)
      refine oN_ 8 (some 51) (fun K hK => ?_)
      refine event_step (by rfl) (v := .slice (some ⟨W6.heap.size, 0, none⟩) 1 1) (w1 := W6.alloc (.cells #[.string x.f0] 9)) ?_ ?_
      ·go_simp
      refine hK.out _ _ ⟨q76 (q60 (Below.refl _ _) _) hHeld.1, q75 (q60 (Below.refl _ _) _) hHeld.2⟩ (fun hHeld2 => ?_)
      clear hK K
      refine nz_ (some 51) ?_
      obtain ⟨v9, w9, hrun9, hR9, hB9⟩ := happ W6 hHeld.2
      refine oN_ 9 (some 52) (fun K hK => ?_)
      refine event_step (by rfl) (v := v9) (w1 := w9) ?_ ?_
      ·exact app_event rfl rfl rfl hrun9
      refine hK.out _ _ ⟨q76 hB9 hHeld.1, q75 hB9 hHeld.2⟩ (fun hHeld3 => ?_)
      clear hK K
      refine nz_ (some 52) ?_
      refine pu_ 10 (some 3) ?_
      refine dn_ ?_
      have hnext : stk l0_1 (i + 1) = some (st.take (j + 1) ++ [x.f0]) := by
       show (stk l0_1 i).bind _ = _
       rw [X.out.1]
       show stkStep l0_1 i st = _
       unfold stkStep
       rw [if_neg (by omega), ← HX.out]
       simp only
       rw [HT.out.1, HT.out.2, HP.out.1, ← HP.out.2, HY.out, if_neg (by omega)]
      have hbe : Below W1.heap.size W1 w9 := q63 (q63 X.out.2.2 X.out.2.2.size hb5') (q63 X.out.2.2 X.out.2.2.size hb5').size hHeld3.2
      have XX := Lib.hid (And.intro hnext (And.intro hR9 hbe))
      clear hnext hbe hHeld hHeld2 hHeld3 hrun9 hR9 hB9 happ hid0
      go_wp2
      go_roundg (n - (i + 1))
      case measure => omega
      case rel => exact ⟨i + 1, v9, st.take (j + 1) ++ [x.f0], by go_num, rfl, by omega, by omega, XX⟩
     ·have hyb : (y1 != 1) = true := by simpa using hy
      have he : standsB l0_1 = false := stk_false l0_1 i (by have := HN.out; omega) st X.out.1 (by
       unfold stkStep
       rw [if_neg (by omega), ← HX.out]
       simp only
       rw [HT.out.1, HT.out.2, HP.out.1, ← HP.out.2, if_pos (.inr (.inr hy))])
      have HE := Lib.hid he
      clear he hy
      go_wp2
      go_ret
      exact ⟨by rw [HE.out]; rfl, HF.out⟩
theorem ids_at (fs : List ByteArray) (l : List (S41)) (hn : l.length ≤ 8796093022208) (d : Nat) : ∀ (i k : Nat) (acc : List ByteArray), i + d = l.length → d < k → acc.length = i → q55.l0 k acc l l.length i = some (acc ++ (l.drop i).map (·.f0)) := by
  induction d with
  | zero =>
    intro i k acc hi hk ha
    obtain ⟨k, rfl⟩ : ∃ m, k = m + 1 := ⟨k - 1, by omega⟩
    simp only [q55.l0]
    rw [if_neg (by omega), List.drop_of_length_le (by omega)]
    simp
  | succ d ih =>
    intro i k acc hi hk ha
    obtain ⟨k, rfl⟩ : ∃ m, k = m + 1 := ⟨k - 1, by omega⟩
    have hlt : i < l.length := by omega
    have hrd : q84 l (i : Int) = l[i] := by simp [q84, List.getD_eq_getElem?_getD, List.getElem?_eq_getElem hlt]
    simp only [q55.l0]
    rw [if_pos (by omega), if_pos (by omega), if_pos (by omega), if_pos (by omega), wrap_lt (n := (l.length : Int)) (by omega) (by omega) (by omega), hrd]
    have := ih (i + 1) k (acc ++ [l[i].f0]) (by omega) (by omega) (by simp [ha])
    rw [show ((i + 1 : Nat) : Int) = (i : Int) + 1 by omega] at this
    rw [this, List.drop_eq_getElem_cons hlt, List.map_cons, List.append_assoc]
    rfl
theorem ids_eq (fs : List ByteArray) (l : List (S41)) (hn : l.length ≤ 8796093022208) (k : Nat) (hk : l.length < k) : q55.f k fs l = some (l.map (·.f0)) := by
 have := ids_at fs l hn l.length 0 k [] (by omega) hk rfl
 unfold q55.f
 simpa using this
def planB (kind : Int) (parent : ByteArray) (req : Bool) (en ex : Nat) : Bool := decide (kind = 1) && (decide (parent.toList = []) && (!req && decide (en + ex = 0)))
theorem isPlan_eq (a0 : ByteArray) (a1 : Int) (a2 : ByteArray) (a3 : Bool) (a4 : Int) (l5 l6 : List (S45)) (h5 : l5.length ≤ 9223372036854775807) (h6 : l6.length ≤ 9223372036854775807) : q39.f a0 a1 a2 a3 a4 l5 l6 = some (planB a1 a2 a3 l5.length l6.length) := by
  unfold q39.f planB
  by_cases h1 : a1 = 1
  · by_cases h2 : a2.toList = []
    · cases a3 with
      | true => simp [h1, h2]
      | false =>
        simp only [h1, h2, if_true, Bool.false_eq_true, if_false, decide_true, Bool.true_and, Bool.not_false]
        congr 1
        rw [Bool.eq_iff_iff, beq_iff_eq, decide_eq_true_iff]
        unfold wrap64
        omega
    · simp [h1, h2]
  · simp [h1]
def itemB (fs : List ByteArray) (l : List (S41)) (kind : Int) (req : Bool) (ticks : Int) (en ex : List (S45)) : Bool :=
 decide (1 ≤ kind ∧ kind ≤ 5) && (sentsB fs l en && (sentsB fs l ex && ((if kind = 5 then decide (1 ≤ ticks ∧ ticks ≤ 100) else decide (ticks = 0)) && !(decide (kind = 4 ∨ kind = 5) && (req || decide (0 < en.length))))))
theorem isItem_eq (fs : List ByteArray) (l : List (S41)) (a0 : ByteArray) (a1 : Int) (a2 : ByteArray) (a3 : Bool) (a4 : Int) (l5 l6 : List (S45)) : q41.f 1 fs l a0 a1 a2 a3 a4 l5 l6 = some (itemB fs l a1 a3 a4 l5 l6) := by
  unfold q41.f itemB q18.f
  by_cases h1 : a1 < 1
  · rw [if_pos h1, decide_eq_false (by omega)]; simp [q41.j0]
  rw [if_neg h1]
  by_cases h2 : a1 > 5
  · rw [if_pos h2, decide_eq_false (by omega)]; simp [q41.j0]
  rw [if_neg h2, decide_eq_true (by omega), Option.bind_some]
  cases sentsB fs l l5 with
  | false => simp [q41.j0]
  | true =>
    rw [if_pos rfl, Option.bind_some]
    cases sentsB fs l l6 with
    | false => simp [q41.j0]
    | true =>
      simp only [q41.j0, Bool.not_true, Bool.false_eq_true, if_false, Bool.true_and]
      by_cases h5 : a1 = 5
      · subst h5
        by_cases ha : a4 ≥ 1 <;> by_cases hb : a4 ≤ 100 <;> cases a3 <;> simp [ha, hb] <;> omega
      · by_cases h4 : a1 = 4
        · subst h4
          by_cases ha : a4 ≥ 0 <;> by_cases hb : a4 ≤ 0 <;> cases a3 <;> simp [ha, hb] <;> omega
        · rw [if_neg h5, if_neg h4, if_neg h5]
          by_cases ha : a4 ≥ 0 <;> by_cases hb : a4 ≤ 0 <;> simp [ha, hb, h4, h5] <;> omega
def isB (fs : List ByteArray) (l : List (S41)) : Bool :=
 decide (fs.length ≤ 6 ∧ 1 ≤ l.length ∧ l.length ≤ 16) && (namesB fs && (namesB (l.map (·.f0)) && (planB (q84 l 0).f1 (q84 l 0).f2 (q84 l 0).f3 (q84 l 0).f5.length (q84 l 0).f6.length && (standsB l && !l.any (fun x => !itemB fs l x.f1 x.f3 x.f4 x.f5 x.f6)))))
theorem ref_place_at (fs : List ByteArray) (l : List (S41)) (id : ByteArray) (hn : l.length ≤ 9223372036854775807) (d : Nat) : ∀ (i k : Nat), i + d = l.length → d < k → (∀ j, j < i → q45.p id (l.getD j z41) = false) → q24.l0 k id (i : Nat) fs l = some (q77 l id) := by
  induction d with
  | zero =>
    intro i k hi hk hno
    obtain ⟨k, rfl⟩ : ∃ m, k = m + 1 := ⟨k - 1, by omega⟩
    simp only [q24.l0]
    rw [if_neg (by omega)]
    unfold q77
    rw [fidx_miss _ l z41 (fun j hj => hno j (by omega))]
  | succ d ih =>
    intro i k hi hk hno
    obtain ⟨k, rfl⟩ : ∃ m, k = m + 1 := ⟨k - 1, by omega⟩
    have hlt : i < l.length := by omega
    have hrd : q84 l (i : Int) = l.getD i z41 := rfl
    simp only [q24.l0]
    rw [if_pos (by omega), if_pos (by omega), hrd]
    by_cases he : (l.getD i z41).f0.toList = id.toList
    · rw [if_pos he]
      unfold q77
      rw [fidx_hit _ l i z41 hlt (by unfold q45.p; simpa using he) hno]
    · rw [if_neg he, wrap_lt (n := (l.length : Int)) (by omega) (by omega) (by omega)]
      refine ih (i + 1) k (by omega) (by omega) (fun j hj => ?_)
      by_cases e : j = i
      · subst e; unfold q45.p; simpa using he
      · exact hno j (by omega)
theorem ref_place (fs : List ByteArray) (l : List (S41)) (id : ByteArray) (hn : l.length ≤ 9223372036854775807) (k : Nat) (hk : l.length < k) : q24.f k fs l id = some (q77 l id) := ref_place_at fs l id hn l.length 0 k (by omega) hk (fun j hj => by omega)

theorem Ev.at {α : Type} {g : Nat → Option α} {r : α} (K : Nat) (h : ∀ k, K ≤ k → g k = some r) : Ev g r := ⟨K, h⟩
theorem ev_place (fs : List ByteArray) (l : List (S41)) (id : ByteArray) (hn : l.length ≤ 9223372036854775807) : Ev (fun k => q24.f k fs l id) (q77 l id) := Ev.at (l.length + 1) (fun k hk => ref_place fs l id hn k (by omega))
abbrev nmA (l : List (S41)) (i : Int) : ByteArray := (q84 l i).f0
abbrev kdA (l : List (S41)) (i : Int) : Int := (q84 l i).f1
abbrev paA (l : List (S41)) (i : Int) : ByteArray := (q84 l i).f2
def wnF (l : List (S41)) (id : ByteArray) : Nat → Int → Bool
 | 0, _ => false
 | d + 1, x => if x ≥ 0 then (if (nmA l x).toList = id.toList then true else wnF l id d (q77 l (paA l x))) else false
def dpF (l : List (S41)) : Nat → Int → Int → Int
 | 0, _, _ => -1
 | d + 1, x, c => if x > 0 then dpF l d (q77 l (paA l x)) (c + 1) else if x < 0 then -1 else c
def rplace (l : List (S41)) (i : Nat) : Bool :=
 if i = 0 then planB (q84 l i).f1 (q84 l i).f2 (q84 l i).f3 (q84 l i).f5.length (q84 l i).f6.length
 else !decide ((paA l i).toList = []) && (decide (0 ≤ q77 l (paA l i) ∧ q77 l (paA l i) < i ∧ kdA l (q77 l (paA l i)) = 1) && (wnF l (paA l i) (l.length + 1) ((i : Int) - 1) && decide (1 ≤ dpF l (l.length + 1) i 0 ∧ dpF l (l.length + 1) i 0 ≤ 5)))
def rown (x : S41) : Bool := decide (1 ≤ x.f1 ∧ x.f1 ≤ 5) && ((if x.f1 = 5 then decide (1 ≤ x.f4 ∧ x.f4 ≤ 100) else decide (x.f4 = 0)) && !(decide (x.f1 ≥ 4) && (x.f3 || decide (0 < x.f5.length))))
def ritem (l : List (S41)) (i : Nat) : Bool :=
 nameB (nmA l i) && (decide (q77 l (nmA l i) = i) && (rown (q84 l i) && rplace l i))
def risB (fs : List ByteArray) (l : List (S41)) : Bool :=
 decide (fs.length ≤ 6 ∧ 1 ≤ l.length ∧ l.length ≤ 16) && (namesB fs && ((List.range l.length).all (ritem l) && l.all (fun x => sentsB fs l x.f5 && sentsB fs l x.f6)))
theorem rd_in (l : List (S41)) (i : Nat) (h : i < l.length) : q84 l (i : Int) = l[i] := by simp [q84, List.getD_eq_getElem?_getD, List.getElem?_eq_getElem h]
theorem rd_getD (l : List (S41)) (i : Nat) : q84 l (i : Int) = l.getD i z41 := rfl
theorem placeI_congr (l : List (S41)) (a b : ByteArray) (h : a.toList = b.toList) : q77 l a = q77 l b := by
 unfold q77
 have : q45.p a = q45.p b := by funext x; unfold q45.p; rw [h]
 rw [this]
theorem placeI_self (l : List (S41)) (i : Nat) (hi : i < l.length) : decide (q77 l (nmA l i) = i) = !memB ((l.map (·.f0)).take i) (rdOf ByteArray.empty (l.map (·.f0)) (i : Int)) := by
  have hr : rdOf ByteArray.empty (l.map (·.f0)) (i : Int) = nmA l i := by
    rw [rdOf_get _ _ _ (by simpa using hi)]
    unfold nmA
    rw [rd_in l i hi]; simp
  rw [hr]
  cases hm : memB ((l.map (·.f0)).take i) (nmA l i) with
  | false =>
    have : q77 l (nmA l i) = i := by
      unfold q77
      refine fidx_hit _ l i z41 hi ?_ (fun j hj => ?_)
      · rw [← rd_getD]; unfold q45.p; simp
      · unfold memB at hm
        rw [List.any_eq_false] at hm
        have hjl : j < l.length := by omega
        have hmem : l[j].f0 ∈ (l.map (·.f0)).take i := by
          rw [List.mem_take_iff_getElem]
          exact ⟨j, by rw [List.length_map]; omega, by simp⟩
        have := hm _ hmem
        rw [← rd_getD, rd_in l j hjl]
        unfold q45.p
        have hne : (nmA l i).toList ≠ l[j].f0.toList := by simpa using this
        simpa using Ne.symm hne
    rw [this]; simp
  | true =>
    unfold memB at hm
    obtain ⟨x, hx, he⟩ := List.any_eq_true.1 hm
    obtain ⟨j, hj, hjx⟩ := List.mem_take_iff_getElem.1 hx
    rw [List.length_map] at hj
    have hjl : j < l.length := by omega
    have : q77 l (nmA l i) ≠ i := by
      intro h
      unfold q77 fidx at h
      cases e : l.findIdx? (q45.p (nmA l i)) with
      | none => rw [e] at h; simp only at h; omega
      | some q =>
        rw [e] at h
        simp only at h
        obtain ⟨_, _, hno⟩ := List.findIdx?_eq_some_iff_getElem.1 e
        have := hno j (by omega)
        apply this
        unfold q45.p
        have hx2 : x = l[j].f0 := by rw [← hjx]; simp
        have he2 : (nmA l i).toList = x.toList := by simpa using he
        rw [hx2] at he2
        simp [he2]
    simp [this]
inductive Pth (l : List (S41)) : Nat → List ByteArray → Prop
 | root : Pth l 0 [nmA l 0]
 | kid (p i : Nat) (st : List ByteArray) : Pth l p st → q77 l (paA l i) = p → p < i → Pth l i (st ++ [nmA l i])
theorem Pth.len {l : List (S41)} {i : Nat} {st : List ByteArray} (h : Pth l i st) : st.length ≤ i + 1 ∧ 0 < st.length := by
 induction h with
 | root => simp
 | kid p i st hp e hlt ih => simp only [List.length_append, List.length_singleton]; omega
theorem Pth.head {l : List (S41)} {i : Nat} {st : List ByteArray} (h : Pth l i st) : ∀ m, 0 < m → m ≤ st.length → ∃ q, q ≤ i ∧ Pth l q (st.take m) ∧ st[m-1]? = some (nmA l q) := by
  induction h with
  | root =>
    intro m h0 hm
    simp only [List.length_singleton] at hm
    obtain rfl : m = 1 := by omega
    exact ⟨0, Nat.le_refl _, Pth.root, rfl⟩
  | kid p i st hp e hlt ih =>
    intro m h0 hm
    simp only [List.length_append, List.length_singleton] at hm
    by_cases hq : m ≤ st.length
    · obtain ⟨q, hq1, hq2, hq3⟩ := ih m h0 hq
      refine ⟨q, by omega, ?_, ?_⟩
      · rw [List.take_append_of_le_length hq]; exact hq2
      · rw [List.getElem?_append_left (by omega)]; exact hq3
    · obtain rfl : m = st.length + 1 := by omega
      refine ⟨i, Nat.le_refl _, ?_, ?_⟩
      · rw [List.take_of_length_le (by simp)]
        exact Pth.kid p i st hp e hlt
      · simp
theorem Pth.wn {l : List (S41)} (h0 : q77 l (paA l 0) = -1) (id : ByteArray) {i : Nat} {st : List ByteArray} (h : Pth l i st) : ∀ d, st.length ≤ d → wnF l id d i = st.any (idxP id) := by
  induction h with
  | root =>
    intro d hd
    simp only [List.length_singleton] at hd
    obtain ⟨d, rfl⟩ : ∃ m, d = m + 1 := ⟨d - 1, by omega⟩
    unfold wnF
    rw [if_pos (by omega)]
    by_cases he : (nmA l 0).toList = id.toList
    · rw [if_pos (by exact he)]
      simp [idxP, he]
    · rw [if_neg (by exact he), show ((0 : Nat) : Int) = 0 from rfl, h0]
      have : wnF l id d (-1) = false := by cases d <;> simp [wnF]
      rw [this]
      simp [idxP, Ne.symm he]
  | kid p i st hp e hlt ih =>
    intro d hd
    simp only [List.length_append, List.length_singleton] at hd
    obtain ⟨d, rfl⟩ : ∃ m, d = m + 1 := ⟨d - 1, by omega⟩
    unfold wnF
    rw [if_pos (by omega), List.any_append]
    by_cases he : (nmA l i).toList = id.toList
    · rw [if_pos (by exact he)]
      simp [idxP, he]
    · rw [if_neg (by exact he), e, ih d (by omega)]
      simp [idxP, Ne.symm he]
theorem Pth.dp {l : List (S41)} {i : Nat} {st : List ByteArray} (h : Pth l i st) : ∀ d (c : Int), st.length ≤ d → dpF l d i c = c + st.length - 1 := by
  induction h with
  | root =>
    intro d c hd
    simp only [List.length_singleton] at hd
    obtain ⟨d, rfl⟩ : ∃ m, d = m + 1 := ⟨d - 1, by omega⟩
    simp [dpF]
  | kid p i st hp e hlt ih =>
    intro d c hd
    simp only [List.length_append, List.length_singleton] at hd ⊢
    obtain ⟨d, rfl⟩ : ∃ m, d = m + 1 := ⟨d - 1, by omega⟩
    unfold dpF
    rw [if_pos (by omega), e, ih d _ (by omega)]
    omega
theorem stk_places (l : List (S41)) (hD : ∀ i : Nat, i < l.length → q77 l (nmA l i) = i ∧ (nmA l i).toList ≠ []) (h0 : (paA l 0).toList = []) : ∀ i : Nat, i < l.length → (match stk l (i + 1) with | some st => Pth l i st ∧ ∀ q, q ≤ i → 0 < q → rplace l q = true | none => ∃ q, q ≤ i ∧ 0 < q ∧ rplace l q = false) := by
  have hroot : q77 l (paA l 0) = -1 := by
    unfold q77
    refine fidx_miss _ l z41 (fun j hj => ?_)
    rw [← rd_getD]
    unfold q45.p
    have := (hD j hj).2
    rw [h0]
    simpa using this
  intro i
  induction i with
  | zero =>
    intro hi
    have : stk l (0 + 1) = some [nmA l 0] := by simp [stk, stkStep]
    rw [this]
    exact ⟨Pth.root, fun q h1 h2 => by omega⟩
  | succ i ih =>
    intro hi
    have hi' := ih (by omega)
    have hstk : stk l (i + 1 + 1) = (stk l (i + 1)).bind (stkStep l (i + 1)) := rfl
    rw [hstk]
    cases hs : stk l (i + 1) with
    | none =>
      rw [hs] at hi'
      obtain ⟨q, h1, h2, h3⟩ := hi'
      exact ⟨q, by omega, h2, h3⟩
    | some st =>
      rw [hs] at hi'
      obtain ⟨hp, hall⟩ := hi'
      rw [Option.bind_some]
      obtain ⟨a, ha⟩ : ∃ a, a = paA l ((i + 1 : Nat) : Int) := ⟨_, rfl⟩
      have hlen := hp.len
      have hwn : wnF l a (l.length + 1) ((i + 1 : Nat) - 1) = st.any (idxP a) := by
        have := hp.wn hroot a (l.length + 1) (by omega)
        rw [show (((i + 1 : Nat) : Int) - 1) = (i : Int) by omega]
        exact this
      have hrp : rplace l (i + 1) = (!decide (a.toList = []) && (decide (0 ≤ q77 l a ∧ q77 l a < ((i + 1 : Nat) : Int) ∧ kdA l (q77 l a) = 1) && (wnF l a (l.length + 1) (((i + 1 : Nat) : Int) - 1) && decide (1 ≤ dpF l (l.length + 1) ((i + 1 : Nat) : Int) 0 ∧ dpF l (l.length + 1) ((i + 1 : Nat) : Int) 0 ≤ 5)))) := by
        unfold rplace
        rw [if_neg (by omega), ha]
      rw [hwn] at hrp
      have hst : stkStep l (i + 1) st = if (st.take (fidx (idxP a) st + 1).toNat).length = 0 ∨ 5 < (st.take (fidx (idxP a) st + 1).toNat).length ∨ kdA l (q77 l a) ≠ 1 then none else some (st.take (fidx (idxP a) st + 1).toNat ++ [nmA l ((i + 1 : Nat) : Int)]) := by
        unfold stkStep
        rw [if_neg (by omega), ha]
      rw [hst]
      have hfl := fidx_lt (idxP a) st
      have hfa := fidx_any (idxP a) st
      by_cases hin : st.any (idxP a) = true
      case neg =>
        have hin2 : st.any (idxP a) = false := by simpa using hin
        have hneg : fidx (idxP a) st = -1 := fidx_neg _ _ (by rw [hin2] at hfa; have := of_decide_eq_false hfa; omega)
        rw [hneg, if_pos (Or.inl (by simp))]
        refine ⟨i + 1, Nat.le_refl _, by omega, ?_⟩
        rw [hrp, hin2]; simp
      rw [hin] at hrp hfa
      have hge : fidx (idxP a) st ≥ 0 := of_decide_eq_true hfa
      obtain ⟨m, hm⟩ : ∃ m : Nat, fidx (idxP a) st = m := ⟨(fidx (idxP a) st).toNat, by omega⟩
      rw [hm] at hfl ⊢
      rw [show ((m : Int) + 1).toNat = m + 1 by omega]
      obtain ⟨q, hq1, hq2, hq3⟩ := hp.head (m + 1) (by omega) (by omega)
      have hna : (nmA l q).toList = a.toList := by
        unfold fidx at hm
        cases e : st.findIdx? (idxP a) with
        | none => rw [e] at hm; simp only at hm; omega
        | some j =>
          rw [e] at hm
          simp only at hm
          obtain rfl : j = m := by omega
          obtain ⟨hj, hpj, _⟩ := List.findIdx?_eq_some_iff_getElem.1 e
          have : st[j] = nmA l q := by
            have h := hq3
            rw [show j + 1 - 1 = j by omega, List.getElem?_eq_getElem hj] at h
            exact Option.some.inj h
          unfold idxP at hpj
          rw [this] at hpj
          exact (by simpa using hpj : a.toList = (nmA l q).toList).symm
      have hpq : q77 l a = q := by rw [← placeI_congr l _ _ hna]; exact (hD q (by omega)).1
      have hne : ¬ a.toList = [] := by rw [← hna]; exact (hD q (by omega)).2
      have hpi : q77 l (paA l ((i + 1 : Nat) : Int)) = q := by rw [← ha]; exact hpq
      have hk := Pth.kid q (i + 1) _ hq2 hpi (by omega)
      have htl : (st.take (m + 1)).length = m + 1 := by rw [List.length_take]; omega
      have hd := hk.dp (l.length + 1) 0 (by rw [List.length_append, htl, List.length_singleton]; omega)
      rw [List.length_append, htl, List.length_singleton] at hd
      rw [hd, decide_eq_false hne, hpq] at hrp
      rw [htl, hpq]
      by_cases hc : (m + 1 = 0 ∨ 5 < m + 1 ∨ kdA l q ≠ 1)
      · rw [if_pos hc]
        refine ⟨i + 1, Nat.le_refl _, by omega, ?_⟩
        rw [hrp]
        rcases hc with hc | hc | hc
        · omega
        · rw [decide_eq_false (p := (1 ≤ (0 : Int) + ((m + 1 + 1 : Nat) : Int) - 1 ∧ _)) (by omega)]; simp
        · simp [hc]
      · rw [if_neg hc]
        have hk1 : kdA l q = 1 := by
          by_cases h : kdA l q = 1
          · exact h
          · exact absurd (Or.inr (Or.inr h)) hc
        refine ⟨hk, fun r hr h0 => ?_⟩
        by_cases e : r = i + 1
        · rw [e, hrp, decide_eq_true (p := 0 ≤ (q : Int) ∧ _) ⟨by omega, by omega, hk1⟩, decide_eq_true (p := (1 ≤ (0 : Int) + ((m + 1 + 1 : Nat) : Int) - 1 ∧ _)) (by omega)]
          rfl
        · exact hall r (by omega) h0
theorem stands_places (l : List (S41)) (hn : 0 < l.length) (hD : ∀ i : Nat, i < l.length → q77 l (nmA l i) = i ∧ (nmA l i).toList ≠ []) (h0 : (paA l 0).toList = []) : standsB l = true ↔ ∀ q, q < l.length → 0 < q → rplace l q = true := by
  have h := stk_places l hD h0 (l.length - 1) (by omega)
  rw [show l.length - 1 + 1 = l.length by omega] at h
  unfold standsB
  cases hs : stk l l.length with
  | none =>
    rw [hs] at h
    obtain ⟨q, h1, h2, h3⟩ := h
    constructor
    · intro h; simp at h
    · intro h
      rw [h q (by omega) h2] at h3
      simp at h3
  | some st =>
    rw [hs] at h
    constructor
    · intro _ q hq h0; exact h.2 q (by omega) h0
    · intro _; rfl
theorem nameB_ne (s : ByteArray) (h : nameB s = true) : s.toList ≠ [] := by
 unfold nameB at h
 simp only [Bool.and_eq_true, decide_eq_true_eq] at h
 intro he
 have := empty_size s
 rw [he] at this
 have h2 := of_decide_eq_true (this.symm.trans rfl)
 omega
theorem names_at (l : List (S41)) (i : Nat) (hi : i < l.length) : nameOk (l.map (·.f0)) i = (nameB (nmA l i) && decide (q77 l (nmA l i) = i)) := by
 unfold nameOk
 rw [placeI_self l i hi]
 have hr : rdOf ByteArray.empty (l.map (·.f0)) (i : Int) = nmA l i := by
  rw [rdOf_get _ _ _ (by simpa using hi)]
  unfold nmA
  rw [rd_in l i hi]; simp
 rw [hr]
theorem all_range {l : List (S41)} (p : S41 → Bool) : l.all p = true ↔ ∀ i : Nat, i < l.length → p (q84 l i) = true := by
 rw [List.all_eq_true]
 constructor
 ·intro h i hi; rw [rd_in l i hi]; exact h _ (List.getElem_mem hi)
 ·intro h x hx
  obtain ⟨i, hi, rfl⟩ := List.getElem_of_mem hx
  rw [← rd_in l i hi]; exact h i hi
theorem itemB_eq (fs : List ByteArray) (l : List (S41)) (x : S41) : itemB fs l x.f1 x.f3 x.f4 x.f5 x.f6 = (rown x && (sentsB fs l x.f5 && sentsB fs l x.f6)) := by
 unfold itemB rown
 by_cases h1 : 1 ≤ x.f1 ∧ x.f1 ≤ 5
 ·have h4 : decide (x.f1 = 4 ∨ x.f1 = 5) = decide (x.f1 ≥ 4) := by rw [decide_eq_decide]; omega
  rw [h4]
  generalize decide (x.f1 ≥ 4) = A
  generalize sentsB fs l x.f5 = B
  generalize sentsB fs l x.f6 = C
  generalize (if x.f1 = 5 then decide (1 ≤ x.f4 ∧ x.f4 ≤ 100) else decide (x.f4 = 0)) = D
  generalize decide (1 ≤ x.f1 ∧ x.f1 ≤ 5) = E
  generalize (x.f3 || decide (0 < x.f5.length)) = F
  cases A <;> cases B <;> cases C <;> cases D <;> cases E <;> cases F <;> rfl
 ·rw [decide_eq_false h1]; simp
theorem ris_eq (fs : List ByteArray) (l : List (S41)) : risB fs l = isB fs l := by
 unfold risB isB
 by_cases hb : fs.length ≤ 6 ∧ 1 ≤ l.length ∧ l.length ≤ 16
 case neg => rw [decide_eq_false hb]; simp
 rw [decide_eq_true hb, Bool.true_and, Bool.true_and]
 congr 1
 rw [Bool.eq_iff_iff]
 have hR : rplace l 0 = planB (q84 l 0).f1 (q84 l 0).f2 (q84 l 0).f3 (q84 l 0).f5.length (q84 l 0).f6.length := rfl
 have hn : namesB (l.map (·.f0)) = true ↔ ∀ i : Nat, i < l.length → nameB (nmA l i) = true ∧ q77 l (nmA l i) = i := by
  unfold namesB
  rw [List.all_eq_true]
  constructor
  ·intro h i hi
   have := h i (List.mem_range.2 (by simpa using hi))
   rw [names_at l i hi] at this
   simpa using this
  ·intro h i hi
   have hi' : i < l.length := by simpa using List.mem_range.1 hi
   rw [names_at l i hi']
   simpa using h i hi'
 rw [← hR]
 have hany : (!l.any fun x => !itemB fs l x.f1 x.f3 x.f4 x.f5 x.f6) = l.all (fun x => rown x && (sentsB fs l x.f5 && sentsB fs l x.f6)) := by
  rw [List.not_any_eq_all_not]
  congr 1
  funext x
  rw [Bool.not_not, itemB_eq]
 rw [hany]
 have h0 : rplace l 0 = true → (paA l 0).toList = [] := by
  intro h
  rw [hR] at h
  unfold planB at h
  simp only [Bool.and_eq_true, decide_eq_true_eq] at h
  exact h.2.1
 constructor
 ·intro h
  rw [Bool.and_eq_true] at h
  obtain ⟨h1, h2⟩ := h
  have hi : ∀ i : Nat, i < l.length → nameB (nmA l i) = true ∧ q77 l (nmA l i) = i ∧ rown (q84 l i) = true ∧ rplace l i = true := by
   intro i hi
   have := List.all_eq_true.1 h1 i (List.mem_range.2 hi)
   unfold ritem at this
   simpa using this
  have hp0 := (hi 0 (by omega)).2.2.2
  rw [Bool.and_eq_true, Bool.and_eq_true, Bool.and_eq_true]
  refine ⟨hn.2 (fun i h => ⟨(hi i h).1, (hi i h).2.1⟩), hp0, (stands_places l (by omega) (fun i h => ⟨(hi i h).2.1, nameB_ne _ (hi i h).1⟩) (h0 hp0)).2 (fun q hq _ => (hi q hq).2.2.2), ?_⟩
  rw [all_range] at h2 ⊢
  intro i h
  rw [(hi i h).2.2.1, Bool.true_and]
  exact h2 i h
 ·intro h
  rw [Bool.and_eq_true, Bool.and_eq_true, Bool.and_eq_true] at h
  obtain ⟨h1, h2, h3, h4⟩ := h
  have hnm := hn.1 h1
  have hst := (stands_places l (by omega) (fun i h => ⟨(hnm i h).2, nameB_ne _ (hnm i h).1⟩) (h0 h2)).1 h3
  rw [all_range] at h4
  rw [Bool.and_eq_true]
  refine ⟨List.all_eq_true.2 (fun i hi => ?_), (all_range _).2 (fun i hi => ?_)⟩
  ·have hi := List.mem_range.1 hi
   have := h4 i hi
   rw [Bool.and_eq_true] at this
   unfold ritem
   rw [(hnm i hi).1, (hnm i hi).2, this.1, Bool.true_and, decide_eq_true rfl, Bool.true_and, Bool.true_and]
   by_cases e : i = 0
   ·rw [e]; exact h2
   ·exact hst i hi (by omega)
  ·have := h4 i hi
   rw [Bool.and_eq_true] at this
   exact this.2
theorem legal_parts (fs : List ByteArray) (l : List (S41)) (h : isB fs l = true) : (fs.length ≤ 6 ∧ 1 ≤ l.length ∧ l.length ≤ 16) ∧ namesB fs = true ∧ (∀ i : Nat, i < l.length → ritem l i = true) ∧ (∀ i : Nat, i < l.length → sentsB fs l (q84 l i).f5 = true ∧ sentsB fs l (q84 l i).f6 = true) := by
 rw [← ris_eq] at h
 unfold risB at h
 rw [Bool.and_eq_true, Bool.and_eq_true, Bool.and_eq_true, decide_eq_true_eq, all_range] at h
 obtain ⟨h1, h2, h3, h4⟩ := h
 refine ⟨h1, h2, fun i hi => List.all_eq_true.1 h3 i (List.mem_range.2 hi), fun i hi => ?_⟩
 have := h4 i hi
 rw [Bool.and_eq_true] at this
 exact this
theorem legal_facts (fs : List ByteArray) (l : List (S41)) (h : isB fs l = true) : fs.length ≤ 6 ∧ 1 ≤ l.length ∧ l.length ≤ 16 ∧ (∀ i : Nat, i < l.length → q77 l (nmA l i) = i ∧ (nmA l i).toList ≠ []) ∧ (paA l 0).toList = [] ∧ ∀ q : Nat, 0 < q → q < l.length → ∃ p : Nat, p < q ∧ q77 l (paA l q) = p ∧ (paA l q).toList ≠ [] ∧ kdA l p = 1 := by
 obtain ⟨⟨h1, h2, h3⟩, -, hi, -⟩ := legal_parts fs l h
 have hr : ∀ i : Nat, i < l.length → nameB (nmA l i) = true ∧ q77 l (nmA l i) = i ∧ rplace l i = true := by
  intro i hl
  have := hi i hl
  unfold ritem at this
  rw [Bool.and_eq_true, Bool.and_eq_true, Bool.and_eq_true, decide_eq_true_eq] at this
  exact ⟨this.1, this.2.1, this.2.2.2⟩
 refine ⟨h1, h2, h3, fun i hl => ⟨(hr i hl).2.1, nameB_ne _ (hr i hl).1⟩, ?_, fun q h0 hq => ?_⟩
 ·have := (hr 0 (by omega)).2.2
  rw [show rplace l 0 = planB (q84 l 0).f1 (q84 l 0).f2 (q84 l 0).f3 (q84 l 0).f5.length (q84 l 0).f6.length from rfl] at this
  unfold planB at this
  simp only [Bool.and_eq_true, decide_eq_true_eq] at this
  exact this.2.1
 ·have := (hr q hq).2.2
  unfold rplace at this
  rw [if_neg (by omega), Bool.and_eq_true, Bool.and_eq_true, decide_eq_true_eq, Bool.not_eq_true', decide_eq_false_iff_not] at this
  obtain ⟨e, ⟨a, b, c⟩, -⟩ := this
  obtain ⟨p, hp⟩ := Int.eq_ofNat_of_zero_le a
  rw [hp] at b c
  exact ⟨p, by omega, hp, e, c⟩
theorem R_of_cells {α : Type} {d : Kd α} {e base g n cap : Nat} {w : World} {cur : Array Value} {xs : List α} (hb : base ≤ g) (hg : w.heap[g]? = some (.cells cur e (0, 0))) (hn : n = xs.length) (hnc : n ≤ cap) (hcm : cap ≤ maxLen) (hcs : cur.size = cap * d.sz)
 (hx : ∀ (j : Nat) (p : α), xs[j]? = some p → ∃ cs, cs.length = d.sz ∧ (∀ (i : Nat) (u : Value), cs[i]? = some u → cur[j * d.sz + i]? = some u) ∧ d.M w base (fun k => True ∧ k ≠ g) p cs) : d.R e w base (fun _ => True) (.slice (some ⟨g, 0, none⟩) n cap) xs := by
 subst hn
 have hle : xs.length * d.sz ≤ cur.size := by rw [hcs]; exact Nat.mul_le_mul_right _ hnc
 have hil : (cur.toList.take (xs.length * d.sz)).length = xs.length * d.sz := by rw [List.length_take, Array.length_toList]; exact Nat.min_eq_left hle
 refine ⟨fun _ _ => trivial, cur.toList.take (xs.length * d.sz), ⟨hil, .inr ⟨g, cap, cur, rfl, hb, hg, hnc, hcm, hcs, rfl⟩⟩, hil, fun j p hj => ?_⟩
 obtain ⟨cs, h1, h2, h3⟩ := hx j p hj
 have hjl := (List.getElem?_eq_some_iff.1 hj).1
 have hjs : j * d.sz + d.sz ≤ xs.length * d.sz := by
  have := Nat.mul_le_mul_right d.sz (show j + 1 ≤ xs.length from hjl)
  rwa [Nat.succ_mul] at this
 have e1 : ((cur.toList.take (xs.length * d.sz)).drop (j * d.sz)).take d.sz = cs := by
  apply List.ext_getElem?
  intro i
  rw [List.getElem?_take]
  by_cases hi : i < d.sz
  ·rw [if_pos hi, List.getElem?_drop, List.getElem?_take, if_pos (by omega)]
   have hc := h2 i cs[i] (List.getElem?_eq_getElem (by omega))
   rw [Array.getElem?_toList, hc, List.getElem?_eq_getElem (by omega)]
  ·rw [if_neg hi]
   exact (List.getElem?_eq_none (by omega)).symm
 rw [e1]
 exact d.M_mono (fun k hk => ⟨trivial, fun e => hk.2 (by simpa [Value.ownBlock] using e)⟩) h3
theorem raw_cells {m e base n : Nat} {w : World} {v : Value} {rows : List (List Value)} (h : Kd.R (kRaw m) e w base (fun _ => True) v rows) (hn : n = rows.length) (hp : 0 < n) : ∃ g cap cur, v = .slice (some ⟨g, 0, none⟩) n cap ∧ base ≤ g ∧ w.heap[g]? = some (.cells cur e (0, 0)) ∧ n ≤ cap ∧ cap ≤ maxLen ∧ cur.size = cap * m ∧ ∀ (j : Nat) (cs : List Value), rows[j]? = some cs → ∀ (i : Nat) (u : Value), cs[i]? = some u → cur[j * m + i]? = some u := by
 subst hn
 obtain ⟨_, inner, ⟨hl, hor⟩, hrep⟩ := h
 rcases hor with ⟨-, h0⟩ | ⟨g, cap, cur, hv, hb, hg, hnc, hcm, hcs, ht⟩
 ·omega
 ·refine ⟨g, cap, cur, hv, hb, hg, hnc, hcm, hcs, fun j cs hj i u hu => ?_⟩
  obtain ⟨h1, h2, -⟩ := hrep.2 j cs hj
  have him : i < m := by
   have := (List.getElem?_eq_some_iff.1 hu).1
   omega
  have hz : (kRaw m).sz = m := rfl
  rw [← h1, List.getElem?_take, hz, if_pos him, List.getElem?_drop, ← ht, List.getElem?_take] at hu
  split at hu
  ·rwa [Array.getElem?_toList] at hu
  ·cases hu
theorem R_zero {α : Type} {d : Kd α} {m e base : Nat} {w : World} {v : Value} (hm : d.sz = m) (h : Kd.R (kRaw m) e w base (fun _ => True) v []) : d.R e w base (fun _ => True) v [] := by
 obtain ⟨_, inner, ho, hrep⟩ := h
 have hi : inner = [] := by
  have := hrep.1
  simp at this
  exact this
 subst hi
 subst hm
 exact ⟨fun _ _ => trivial, [], ho, by simp, fun j p hj => by simp at hj⟩
def cpInv (w wr : World) (g cap : Nat) (l : List (S45)) (i : Nat) : Prop := ∃ cur, wr.heap[g]? = some (.cells cur 45 (0, 0)) ∧ cur.size = cap * 2 ∧ Below w.heap.size w wr ∧ g < wr.heap.size ∧ ∀ (j : Nat) (p : S45), l[j]? = some p → ∃ u0 u1, cur[j * 2]? = some u0 ∧ cur[j * 2 + 1]? = some u1 ∧ (if j < i then Kd.M k45 wr w.heap.size (fun k => True ∧ k ≠ g) p [u0, u1] else Kd.K k45 w p [u0, u1])
set_option maxHeartbeats 8000000 in
set_option maxRecDepth 100000 in
theorem copied_any (w : World) (A : Option Addr) (c : Nat) (l : List (S45)) (hr : Kd.C k45 w A l.length l) (hc : l.length ≤ c) (hl : l.length * 48 ≤ 140737488355328) (hs : ∀ s ∈ l, s.f0.length * 24 ≤ 140737488355328 ∧ s.f1.length * 40 ≤ 140737488355328) :
 Calls Try.prog 63 #[.slice A l.length c] w fun e w' => ∃ v, e = .returned v ∧ Kd.R k45 45 w' w.heap.size (fun _ => True) v l ∧ Below w.heap.size w w' := by
 have hu29 := Try.underlying45
 obtain ⟨rows, hrl, hrC, hrK⟩ := C_raw hr
 have hcl := cl_sentry w A c rows (by rw [hrl]; exact hrC) (by omega) (by rw [hrl]; exact hl)
 rw [hrl] at hcl
 obtain ⟨n, hn⟩ : ∃ n, n = l.length := ⟨_, rfl⟩
 rw [← hn] at hcl hrl hl ⊢
 have HN := Lib.hid hn
 have HRL := Lib.hid hrl
 have HRK := Lib.hid hrK
 have HS := Lib.hid hs
 clear hr hc hrC hrK hn hrl hs
 go_enter Try.func63, Try.ntmps63
 go_wp2_with fail
 refine hcl.mono ?_
 rintro e w1 ⟨v, rfl, hR, hb⟩
 rcases Nat.eq_zero_or_pos n with h0 | hp
 ·have hr0 : rows = [] := List.eq_nil_of_length_eq_zero (by rw [HRL.out, h0])
  have hl0 : l = [] := List.eq_nil_of_length_eq_zero (by rw [← HN.out, h0])
  rw [hr0] at hR
  obtain ⟨A1, c1, rfl⟩ := Kd.R_slice hR
  have HF : Hid (Kd.R k45 45 w1 w.heap.size (fun _ => True) (.slice A1 0 c1) l ∧ Below w.heap.size w w1) := Lib.hid ⟨by rw [hl0]; exact R_zero rfl hR, hb⟩
  clear hR hb hcl hr0 hl0 h0
  go_wp2
  go_loopg [9] 0 (fun gg s9 wr => s9 = .int .i64 0 ∧ wr = w1)
  case atStart => exact ⟨rfl, rfl⟩
  case round =>
   obtain ⟨rfl, rfl⟩ := hrel
   go_wp2
   go_ret
   exact ⟨_, rfl, HF.out.1, HF.out.2⟩
 ·obtain ⟨g, cap, cur, rfl, hgb, hg, hnc, hcm, hcs, hcur⟩ := raw_cells hR (HRL.out).symm hp
  have HI : Hid (cpInv w w1 g cap l 0) := Lib.hid ⟨cur, hg, hcs, hb, blk_lt hg, fun j p hj => by
   obtain ⟨cs, h1, h2⟩ := HRK.out j p hj
   obtain ⟨B0, d0, B1, d1, rfl, h3⟩ := k45_open h2
   exact ⟨_, _, hcur j _ h1 0 _ rfl, hcur j _ h1 1 _ rfl, by rw [if_neg (by omega)]; exact h2⟩⟩
  have HG := Lib.hid (And.intro hgb (And.intro hnc hcm))
  clear hR hb hcl hgb hg hnc hcm hcs hcur
  go_wp2
  go_loopg [9] n (fun gg s9 wr => ∃ i : Nat, s9 = .int .i64 i ∧ i ≤ n ∧ n - i ≤ gg ∧ Hid (cpInv w wr g cap l i))
  case atStart => exact ⟨0, rfl, by omega, by omega, HI⟩
  case round =>
   obtain ⟨i, rfl, hin, hig, X⟩ := hrel
   obtain ⟨wO, rfl⟩ : ∃ wO, wO = wr := ⟨_, rfl⟩
   by_cases hlt : i < n
   case neg =>
    have hltz : ¬ (i : Int) < (n : Int) := by omega
    obtain ⟨cur, hg, hcs, hb, hgl, hx⟩ := X.out
    have HF : Hid (Kd.R k45 45 wO w.heap.size (fun _ => True) (.slice (some ⟨g, 0, none⟩) n cap) l ∧ Below w.heap.size w wO) := Lib.hid ⟨R_of_cells HG.out.1 hg HN.out HG.out.2.1 HG.out.2.2 hcs (fun j p hj => by
     obtain ⟨u0, u1, h1, h2, h3⟩ := hx j p hj
     have hjl := (List.getElem?_eq_some_iff.1 hj).1
     rw [if_pos (by have := HN.out; omega)] at h3
     refine ⟨[u0, u1], rfl, fun i u hu => ?_, h3⟩
     match i, hu with
     | 0, hu => cases hu; exact h1
     | 1, hu => cases hu; exact h2
     | i + 2, hu => simp at hu), hb⟩
    clear X hg hcs hb hgl hx
    go_wp2
    go_ret
    exact ⟨_, rfl, HF.out.1, HF.out.2⟩
   have hltz : (i : Int) < (n : Int) := by omega
   obtain ⟨cur, hg, hcs, hb, hgl, hx⟩ := X.out
   have hil : i < l.length := by have := HN.out; omega
   obtain ⟨s, hsx⟩ : ∃ s, s = l[i] := ⟨_, rfl⟩
   have hsg : l[i]? = some s := by rw [hsx, List.getElem?_eq_getElem hil]
   obtain ⟨u0, u1, h1, h2, h3⟩ := hx i s hsg
   rw [if_neg (by omega)] at h3
   obtain ⟨B0, d0, B1, d1, e, hl0, hC0, hl1, hC1⟩ := k45_open h3
   obtain ⟨rfl, rfl⟩ : u0 = .slice B0 s.f0.length d0 ∧ u1 = .slice B1 s.f1.length d1 := by simpa using e
   have hb0 := HS.out s (by rw [hsx]; exact List.getElem_mem _)
   have hx0 : wO.cell? ⟨g, i * 2, none⟩ = some (.slice B0 s.f0.length d0) := (q66 hg _).trans h1
   have hx1 : wO.cell? ⟨g, i * 2 + 1, none⟩ = some (.slice B1 s.f1.length d1) := (q66 hg _).trans h2
   have hf0 := q70 hg (i * 2)
   have hf1 := q70 hg (i * 2 + 1)
   obtain ⟨n0, hn0⟩ : ∃ n0, n0 = s.f0.length := ⟨_, rfl⟩
   obtain ⟨n1, hn1⟩ : ∃ n1, n1 = s.f1.length := ⟨_, rfl⟩
   obtain ⟨W1, hW1⟩ : ∃ W1, W1 = wO.alloc (.cells #[.slice B0 n0 d0, .slice B1 n1 d1] 45) := ⟨_, rfl⟩
   have hbW : Below wO.heap.size wO W1 := by rw [hW1]; exact q60 (Below.refl _ _) _
   have hgW : W1.heap[wO.heap.size]? = some (.cells #[.slice B0 n0 d0, .slice B1 n1 d1] 45 (0, 0)) := by rw [hW1]; exact heap_alloc_new wO _
   have HX := Lib.hid (And.intro hg (And.intro hcs (And.intro hb (And.intro hgl hx))))
   have HC := Lib.hid (And.intro hl0 (And.intro hC0 (And.intro hl1 (And.intro hC1 hb0))))
   have HW := Lib.hid hW1
   have HBW := Lib.hid hbW
   have HGW := Lib.hid hgW
   have HSX := Lib.hid (And.intro hsg (And.intro hn0 hn1))
   have HU := Lib.hid (And.intro h1 h2)
   rw [← hn0] at hx0
   rw [← hn1] at hx1
   clear X hg hcs hb hgl hx hil hsg h1 h2 h3 e hl0 hC0 hl1 hC1 hb0 hW1 hbW hgW hsx hn0 hn1
   go_wp2
   rw [← HW.out]
   clear hx0 hx1
   have hc0 := (q66 HGW.out 0).trans rfl
   have hc1 := (q66 HGW.out 1).trans rfl
   refine sD_ [10] (fun w' => w'.cell? ⟨wO.heap.size, 0, none⟩ = some (.slice B0 n0 d0) ∧ w'.cell? ⟨wO.heap.size, 1, none⟩ = some (.slice B1 n1 d1)) 11 ⟨hc0, hc1⟩ (fun hHeld => ?_)
   have hbD : Below wO.heap.size wO W1.drew := q61 HBW.out
   have hgD : W1.drew.heap[wO.heap.size]? = some (.cells #[.slice B0 n0 d0, .slice B1 n1 d1] 45 (0, 0)) := HGW.out
   clear hc0 hc1
   generalize W1.drew = wD at hHeld hbD hgD ⊢
   refine pu_ 0 (some 14) ?_
   refine pu_ 1 (some 15) ?_
   refine pu_ 2 (some 16) ?_
   refine tk_ 3 (some 17) hHeld ?_ (hy := by rintro w' ⟨s0, s1⟩; go_simp; with_reducible rfl)
   refine pu_ 5 (some 19) ?_
   refine tk_ 6 (some 20) hHeld ?_ (hy := by rintro w' ⟨s0, s1⟩; go_simp; with_reducible rfl)
   have hbw : Below w.heap.size w wD := q63 HX.out.2.2.1 HX.out.2.2.1.size hbD
   have hcl1 := cl_on wD B0 d0 s.f0 (Kd.C_below HC.out.2.1 hbw) HC.out.1 HC.out.2.2.2.2.1
   rw [← HSX.out.2.1] at hcl1
   refine ca_ 4 (some 18) Try.func89 #[.slice B0 n0 d0] ?_
   refine hcl1.mono ?_
   rintro e w3 ⟨v3, rfl, hR3, hb3⟩
   obtain ⟨A3, c3, rfl⟩ := Kd.R_slice hR3
   rw [← HSX.out.2.1] at hR3 ⊢
   have hg3 := q65 hgD hb3
   have hbD3 := q63 hbD hbD.size hb3
   have hbw3 := q63 hbw hbw.size hb3
   have hzD : wO.heap.size < wD.heap.size := blk_lt hgD
   refine ⟨_, rfl, ⟨(q66 hg3 0).trans rfl, (q66 hg3 1).trans rfl⟩, fun hHeld => ⟨_, rfl, nz_ (some 18) ?_⟩⟩
   have hcl2 := cl_cond w3 B1 d1 s.f1 (Kd.C_below HC.out.2.2.2.1 hbw3) HC.out.2.2.1 HC.out.2.2.2.2.2
   rw [← HSX.out.2.2] at hcl2
   refine ca_ 7 (some 21) Try.func65 #[.slice B1 n1 d1] ?_
   refine hcl2.mono ?_
   rintro e w4 ⟨v4, rfl, hR4, hb4⟩
   obtain ⟨A4, c4, rfl⟩ := Kd.R_slice hR4
   rw [← HSX.out.2.2] at hR4 ⊢
   have hg4 := q65 hg3 hb4
   have hbD4 := q63 hbD3 hbD3.size hb4
   have hR34 := Kd.R_below hR3 hb4
   have hz3 : wD.heap.size ≤ w3.heap.size := hb3.size
   refine ⟨_, rfl, ⟨(q66 hg4 0).trans rfl, (q66 hg4 1).trans rfl⟩, fun hHeld => ⟨_, rfl, nz_ (some 21) ?_⟩⟩
   refine pu_ 8 (some 22) ?_
   refine pu_ 9 (some 23) ?_
   have hgO := q65 HX.out.1 hbD4
   have hx0 := (q66 hgO (i * 2)).trans HU.out.1
   have hx1 := (q66 hgO (i * 2 + 1)).trans HU.out.2
   rw [← HSX.out.2.1] at hx0
   rw [← HSX.out.2.2] at hx1
   have hf0 := q70 hgO (i * 2)
   have hf1 := q70 hgO (i * 2 + 1)
   refine lA_ 10 none (fun K hK => ?_)
   go_simp
   have HF : Hid (cpInv w ((w4.setCell ⟨g, i * 2, none⟩ (.slice A3 n0 c3)).setCell ⟨g, i * 2 + 1, none⟩ (.slice A4 n1 c4)) g cap l (i + 1)) := Lib.hid (by
    have hgw : w.heap.size ≤ g := HG.out.1
    have hgO' : g < wO.heap.size := HX.out.2.2.2.1
    have hsz : ∀ q, i * 2 = q → q < cur.size := fun q e => by
     have := (Array.getElem?_eq_some_iff.1 HU.out.1).1
     omega
    refine ⟨(cur.setIfInBounds (i * 2) (.slice A3 n0 c3)).setIfInBounds (i * 2 + 1) (.slice A4 n1 c4), q71 (q71 hgO (i * 2) (.slice A3 n0 c3) rfl) (i * 2 + 1) (.slice A4 n1 c4) rfl, by simp only [Array.size_setIfInBounds]; exact HX.out.2.1, ((q63 HX.out.2.2.1 HX.out.2.2.1.size hbD4).setCell hgw _).setCell hgw _, ?_, fun j p hj => ?_⟩
    ·have := hbD4.size
     simp only [World.setCell]
     simpa [World.setCell] using Nat.lt_of_lt_of_le hgO' this
    ·by_cases hji : j = i
     ·subst hji
      obtain rfl : s = p := Option.some.inj (HSX.out.1.symm.trans hj)
      have l0 := (Array.getElem?_eq_some_iff.1 HU.out.1).1
      have l1 := (Array.getElem?_eq_some_iff.1 HU.out.2).1
      refine ⟨.slice A3 n0 c3, .slice A4 n1 c4, ?_, ?_, ?_⟩
      ·rw [Array.getElem?_setIfInBounds_ne (by omega), Array.getElem?_setIfInBounds_self_of_lt l0]
      ·rw [Array.getElem?_setIfInBounds_self_of_lt (by simpa using l1)]
      ·rw [if_pos (by omega)]
       have far : ∀ {α : Type} {d : Kd α} {e base : Nat} {v : Value} {xs : List α}, g < base → w.heap.size ≤ base → d.R e w4 base (fun _ => True) v xs → d.R e ((w4.setCell ⟨g, j * 2, none⟩ (.slice A3 n0 c3)).setCell ⟨g, j * 2 + 1, none⟩ (.slice A4 n1 c4)) w.heap.size (fun k => True ∧ k ≠ g) v xs := fun hg1 hg2 h =>
        Kd.R_lower (Kd.R_mono (Kd.R_far (Kd.R_far (Kd.R_bound h) (p := ⟨g, j * 2, none⟩) (fun k hk => by have := hk.2.1; show k ≠ g; omega) _) (p := ⟨g, j * 2 + 1, none⟩) (fun k hk => by have := hk.2.1; show k ≠ g; omega) _) (fun k hk => ⟨trivial, by have := hk.2.1; omega⟩)) hg2
       exact k45_mkM _ _ _ _ (far (by omega) (by omega) hR34) (far (by omega) (by omega) hR4)
     ·obtain ⟨u0, u1, h1, h2, h3⟩ := HX.out.2.2.2.2 j p hj
      refine ⟨u0, u1, ?_, ?_, ?_⟩
      ·rw [Array.getElem?_setIfInBounds_ne (by omega), Array.getElem?_setIfInBounds_ne (by omega)]; exact h1
      ·rw [Array.getElem?_setIfInBounds_ne (by omega), Array.getElem?_setIfInBounds_ne (by omega)]; exact h2
      ·by_cases hlt' : j < i
       ·rw [if_pos hlt'] at h3
        rw [if_pos (by omega)]
        exact Kd.M_step h3 (fun k hk hkl => (Below.heap_setCell _ _ _ _ hk.2).trans ((Below.heap_setCell _ _ _ _ hk.2).trans (hbD4.block k hkl)))
       ·rw [if_neg hlt'] at h3
        rw [if_neg (by omega)]
        exact h3)
   refine hK.out _ _ ?_
   clear hK K hx0 hx1 hf0 hf1 hgO hR3 hR4 hR34 hg3 hg4 hHeld hcl1 hcl2
   refine dn_ ?_
   go_wp2
   go_roundg (n - (i + 1))
   case measure => omega
   case rel => exact ⟨i + 1, by go_num, by omega, by omega, HF⟩
def wideSents (l : List (S45)) : Prop := l.length * 48 ≤ 140737488355328 ∧ ∀ s ∈ l, s.f0.length * 24 ≤ 140737488355328 ∧ s.f1.length * 40 ≤ 140737488355328
def wideItem (x : S41) : Prop := wideSents x.f5 ∧ wideSents x.f6
def CopyPost (w : World) (fs : List ByteArray) (l : List (S41)) (e : Ending) (w' : World) : Prop := ∃ v0 v1, e = .returned (.agg #[v0, v1]) ∧ Kd.R Kd.string 9 w' w.heap.size (fun _ => True) v0 fs ∧ Kd.R k41 41 w' w.heap.size (fun _ => True) v1 l ∧ Below w.heap.size w w'
def cyInv (w wr : World) (B g cap : Nat) (l : List (S41)) (i : Nat) : Prop := ∃ cur, wr.heap[g]? = some (.cells cur 41 (0, 0)) ∧ cur.size = cap * 7 ∧ g < wr.heap.size ∧ ∀ (j : Nat) (x : S41), l[j]? = some x → ∃ u5 u6, (cur[j * 7]? = some (.string x.f0) ∧ cur[j * 7 + 1]? = some (.int .i64 x.f1) ∧ cur[j * 7 + 2]? = some (.string x.f2) ∧ cur[j * 7 + 3]? = some (.bool x.f3) ∧ cur[j * 7 + 4]? = some (.int .i64 x.f4) ∧ cur[j * 7 + 5]? = some u5 ∧ cur[j * 7 + 6]? = some u6) ∧ (if j < i then Kd.R k45 45 wr B (fun k => True ∧ k ≠ g) u5 x.f5 ∧ Kd.R k45 45 wr B (fun k => True ∧ k ≠ g) u6 x.f6 else ∃ A5 c5 A6 c6, u5 = .slice A5 x.f5.length c5 ∧ u6 = .slice A6 x.f6.length c6 ∧ x.f5.length ≤ c5 ∧ Kd.C k45 w A5 x.f5.length x.f5 ∧ x.f6.length ≤ c6 ∧ Kd.C k45 w A6 x.f6.length x.f6)
set_option maxHeartbeats 16000000 in
set_option maxRecDepth 100000 in
theorem copy_any (w : World) (A0 : Option Addr) (c0 : Nat) (fs : List ByteArray) (A1 : Option Addr) (c1 : Nat) (l : List (S41)) (hr0 : Kd.C Kd.string w A0 fs.length fs) (hc0 : fs.length ≤ c0) (hr1 : Kd.C k41 w A1 l.length l) (hc1 : l.length ≤ c1) (hf : fs.length * 16 ≤ 140737488355328) (hl : l.length * 104 ≤ 140737488355328) (hw : ∀ x ∈ l, wideItem x) :
 Calls Try.prog 22 #[.agg #[.slice A0 fs.length c0, .slice A1 l.length c1]] w (CopyPost w fs l) := by
 have hu36 := Try.underlying25
 have hu32 := Try.underlying41
 obtain ⟨rows, hrl, hrC, hrK⟩ := C_raw hr1
 obtain ⟨wA, hwA⟩ : ∃ wA, wA = w.alloc (.cells #[.slice A0 fs.length c0, .slice A1 l.length c1] 25) := ⟨_, rfl⟩
 obtain ⟨wB, hwB⟩ : ∃ wB, wB = wA.alloc (.cells #[.slice none 0 0, .slice none 0 0] 25) := ⟨_, rfl⟩
 have hbA : Below w.heap.size w wA := by rw [hwA]; exact q60 (Below.refl _ _) _
 have hbB : Below w.heap.size w wB := by rw [hwB]; exact q60 hbA _
 have hzA : wA.heap.size = w.heap.size + 1 := by rw [hwA]; simp
 have hgA : wB.heap[w.heap.size]? = some (.cells #[.slice A0 fs.length c0, .slice A1 l.length c1] 25 (0, 0)) := by rw [hwB]; exact q65 (by rw [hwA]; exact heap_alloc_new w _) (q60 (Below.refl _ _) _)
 have hgB : wB.heap[w.heap.size + 1]? = some (.cells #[.slice none 0 0, .slice none 0 0] 25 (0, 0)) := by rw [hwB, ← hzA]; exact heap_alloc_new wA _
 have hzB : w.heap.size + 1 < wB.heap.size := blk_lt hgB
 obtain ⟨n0, hn0⟩ : ∃ n0, n0 = fs.length := ⟨_, rfl⟩
 obtain ⟨n, hn⟩ : ∃ n, n = l.length := ⟨_, rfl⟩
 have hcl0 : ∀ W, Below w.heap.size w W → _ := fun W hb => cl_str W A0 c0 fs (Kd.C_below hr0 hb) hc0 hf
 have hcl1 : ∀ W, Below w.heap.size w W → _ := fun W hb => cl_item W A1 c1 rows (by rw [hrl]; exact Kd.C_below hrC hb) (by rw [hrl]; exact hc1) (by rw [hrl]; exact hl)
 rw [← hn0] at hcl0 hgA hwA ⊢
 rw [hrl] at hcl1
 rw [← hn] at hcl1 hgA hwA hl ⊢
 have HW := Lib.hid (And.intro hwA hwB)
 have HBB := Lib.hid hbB
 have HG := Lib.hid (And.intro hgA hgB)
 have HCL0 := Lib.hid hcl0
 have HCL1 := Lib.hid hcl1
 have HN := Lib.hid (And.intro hn0 hn)
 have HRL := Lib.hid (hrl.trans hn.symm)
 have HRK := Lib.hid hrK
 have HWI := Lib.hid hw
 clear hr0 hc0 hr1 hc1 hf hw hrl hrC hrK hwA hwB hbA hbB hzA hgA hgB hn0 hn hcl0 hcl1
 go_enter Try.func22, Try.ntmps22
 go_wp2
 rw [← HW.out.1, ← HW.out.2]
 have hc_0 := (q66 HG.out.1 0).trans rfl
 have hc_1 := (q66 HG.out.1 1).trans rfl
 refine sD_ [7, 9] (fun w' => w'.cell? ⟨w.heap.size, 0, none⟩ = some (.slice A0 n0 c0) ∧ w'.cell? ⟨w.heap.size, 1, none⟩ = some (.slice A1 n c1)) 10 ⟨hc_0, hc_1⟩ (fun hHeld => ?_)
 have hbD : Below wB.heap.size wB wB.drew := q61 (Below.refl _ _)
 clear hc_0 hc_1
 generalize wB.drew = wD at hHeld hbD ⊢
 refine pu_ 0 (some 5) ?_
 refine tk_ 1 (some 6) hHeld ?_ (hy := by rintro w' ⟨s0, s1⟩; go_simp; with_reducible rfl)
 refine pu_ 3 (some 8) ?_
 refine tk_ 4 (some 9) hHeld ?_ (hy := by rintro w' ⟨s0, s1⟩; go_simp; with_reducible rfl)
 refine ca_ 2 (some 7) Try.func24 #[.slice A0 n0 c0] ?_
 refine (HCL0.out wD (q75 hbD HBB.out)).mono ?_
 rintro e w2 ⟨v0, rfl, hR2, hb2⟩
 obtain ⟨F0, d0, rfl⟩ := Kd.R_slice hR2
 rw [← HN.out.1] at hR2 ⊢
 have hbB2 := q63 hbD hbD.size hb2
 have hg2 := q65 HG.out.1 hbB2
 refine ⟨_, rfl, ⟨(q66 hg2 0).trans rfl, (q66 hg2 1).trans rfl⟩, fun hHeld => ⟨_, rfl, nz_ (some 7) ?_⟩⟩
 refine pu_ 6 (some 11) ?_
 refine ca_ 5 (some 10) Try.func62 #[.slice A1 n c1] ?_
 refine (HCL1.out w2 (q75 hbB2 HBB.out)).mono ?_
 rintro e w3 ⟨v1, rfl, hR3, hb3⟩
 have hbB3 := q63 hbB2 hbB2.size hb3
 have hg3 := q65 HG.out.1 hbB3
 have hR23 := Kd.R_below hR2 hb3
 obtain ⟨F1, d1, rfl⟩ := Kd.R_slice hR3
 rw [HRL.out] at hR3 ⊢
 refine ⟨_, rfl, ⟨(q66 hg3 0).trans rfl, (q66 hg3 1).trans rfl⟩, fun hHeld => ⟨_, rfl, nz_ (some 10) ?_⟩⟩
 have hcz := (q66 hg3 0).trans rfl
 have hfz := q70 hg3 0
 refine lA_ 7 none (fun K hK => ?_)
 go_simp
 refine hK.out _ _ ?_
 clear hK K
 refine pu_ 8 (some 12) ?_
 have hg4 := q71 hg3 0 (.slice F0 n0 d0) rfl
 have hcz1 := (q66 hg4 1).trans rfl
 have hfz1 := q70 hg4 1
 clear hcz hfz
 refine lA_ 9 none (fun K hK => ?_)
 go_simp
 have hgE := q71 hg4 1 (.slice F1 n d1) rfl
 have hgB3 := q65 HG.out.2 hbB3
 have hbw3 := q75 hbB3 HBB.out
 obtain ⟨wE, hwE⟩ : ∃ wE, wE = (w3.setCell ⟨w.heap.size, 0, none⟩ (.slice F0 n0 d0)).setCell ⟨w.heap.size, 1, none⟩ (.slice F1 n d1) := ⟨_, rfl⟩
 rw [← hwE] at hgE ⊢
 have hsE : ∀ k, k ≠ w.heap.size → wE.heap[k]? = w3.heap[k]? := fun k hk => by rw [hwE]; exact (Below.heap_setCell _ _ _ _ hk).trans (Below.heap_setCell _ _ _ _ hk)
 have hgE2 : wE.heap[w.heap.size + 1]? = some (.cells #[.slice none 0 0, .slice none 0 0] 25 (0, 0)) := (hsE _ (by omega)).trans hgB3
 have hbE : Below w.heap.size w wE := by rw [hwE]; exact (hbw3.setCell (Nat.le_refl _) _).setCell (Nat.le_refl _) _
 have hzE : wE.heap.size = w3.heap.size := by rw [hwE]; simp [World.setCell]
 have hD2 : wD.heap.size ≤ w2.heap.size := hb2.size
 have hE2 : w2.heap.size ≤ wE.heap.size := by rw [hzE]; exact hb3.size
 have hBD : wB.heap.size ≤ wD.heap.size := hbD.size
 have hRF : Kd.R Kd.string 9 wE wB.heap.size (fun k => k < w2.heap.size) (.slice F0 n0 d0) fs := by
  refine Kd.R_lower (Kd.R_mono (Kd.R_step (Kd.R_bound (Kd.R_below (Kd.R_mono (Kd.R_bound hR2) (ok' := fun k => wD.heap.size ≤ k ∧ k < w2.heap.size) (fun k hk => ⟨hk.2.1, hk.2.2.1⟩)) hb3)) (fun k hk _ => hsE k (by have := hk.1.1; omega))) (fun k hk => hk.1.2)) hBD
 have hRI : Kd.R (kRaw 7) 41 wE w2.heap.size (fun _ => True) (.slice F1 n d1) rows := Kd.R_mono (Kd.R_step (Kd.R_bound hR3) (fun k hk _ => hsE k (by have := hk.2.1; omega))) (fun _ _ => trivial)
 refine hK.out _ _ ?_
 clear hK K hcz1 hfz1 hg4 hg3 hg2 hR2 hR3 hR23 hHeld hb2 hb3 hbB2 hbB3 hgB3 hbw3 hbD hwE
 have HRF := Lib.hid hRF
 have HBE := Lib.hid hbE
 have HGE := Lib.hid (And.intro hgE hgE2)
 refine dn_ ?_
 have hk_0 := (q66 HGE.out.1 0).trans rfl
 have hk_1 := (q66 HGE.out.1 1).trans rfl
 clear hsE hgE hgE2 hbE hRF hzE
 have rset : ∀ {W : World} {α : Type} {d : Kd α} {e : Nat} {ok : Nat → Prop} {v : Value} {xs : List α} {i : Nat} {u : Value}, d.R e W wB.heap.size ok v xs → d.R e (W.setCell ⟨w.heap.size + 1, i, none⟩ u) wB.heap.size ok v xs := fun h => Kd.R_mono (Kd.R_far (Kd.R_bound h) (fun k hk => by have := hk.2.1; show k ≠ w.heap.size + 1; omega) _) (fun _ hk => hk.1)
 rcases Nat.eq_zero_or_pos n with h0 | hp
 ·have hr0 : rows = [] := List.eq_nil_of_length_eq_zero (by rw [HRL.out, h0])
  have hl0 : l = [] := List.eq_nil_of_length_eq_zero (by rw [← HN.out.2, h0])
  rw [hr0] at hRI
  have hRIo : Kd.R k41 41 wE wB.heap.size (fun _ => True) (.slice F1 n d1) l := by rw [hl0]; exact Kd.R_lower (R_zero rfl hRI) (by omega)
  rw [h0] at hRIo
  have HRIo := Lib.hid hRIo
  have hg1 := HGE.out.1
  rw [h0] at hg1
  have HG1 := Lib.hid hg1
  clear hRI hr0 hl0 hRIo hg1
  subst h0
  go_wp2
  clear hk_0 hk_1
  go_loopg [16] 0 (fun gg s16 wr => s16 = .int .i64 0 ∧ wr = wE)
  case atStart => exact ⟨rfl, rfl⟩
  case round =>
   obtain ⟨rfl, rfl⟩ := hrel
   have hRFo := HRF.out
   have hRIo := HRIo.out
   have hbo := HBE.out
   have hg1 := HG1.out
   have hg2 := HGE.out.2
   have HFIN : Hid (Kd.R Kd.string 9 ((wr.setCell ⟨w.heap.size + 1, 0, none⟩ (.slice F0 n0 d0)).setCell ⟨w.heap.size + 1, 1, none⟩ (.slice F1 0 d1)) w.heap.size (fun _ => True) (.slice F0 n0 d0) fs ∧ Kd.R k41 41 ((wr.setCell ⟨w.heap.size + 1, 0, none⟩ (.slice F0 n0 d0)).setCell ⟨w.heap.size + 1, 1, none⟩ (.slice F1 0 d1)) w.heap.size (fun _ => True) (.slice F1 0 d1) l ∧ Below w.heap.size w ((wr.setCell ⟨w.heap.size + 1, 0, none⟩ (.slice F0 n0 d0)).setCell ⟨w.heap.size + 1, 1, none⟩ (.slice F1 0 d1))) := Lib.hid ⟨Kd.R_mono (Kd.R_lower (rset (rset hRFo)) (by omega)) (fun _ _ => trivial), Kd.R_lower (rset (rset hRIo)) (by omega), (hbo.setCell (Nat.le_succ _) _).setCell (Nat.le_succ _) _⟩
   have HGF := Lib.hid (q71 (q71 hg2 0 (.slice F0 n0 d0) rfl) 1 (.slice F1 0 d1) rfl)
   have hx_0 := (q66 hg1 0).trans rfl
   have hx_1 := (q66 hg1 1).trans rfl
   have hz_0 := (q66 hg2 0).trans rfl
   have hz_1 := (q66 hg2 1).trans rfl
   have hq_0 := q70 hg2 0
   have hq_1 := q70 hg2 1
   clear hRFo hRIo hbo hg1 hg2
   go_wp2
   clear hx_0 hx_1 hz_0 hz_1 hq_0 hq_1
   refine bodyPost_ret (results_cell_row rfl _ _ (w.heap.size + 1) 25 #[.slice F0 n0 d0, (.slice F1 0 d1)] (0, 0) _ rfl HGF.out Try.underlying25 rfl (by kernel_rfl)) rfl ?_
   exact ⟨_, _, rfl, HFIN.out.1, HFIN.out.2.1, HFIN.out.2.2⟩
 ·obtain ⟨g, cap, cur, e1, hgb, hg, hnc, hcm, hcs, hcur⟩ := raw_cells hRI HRL.out.symm hp
  cases e1
  have HI : Hid (cyInv w wE wB.heap.size g d1 l 0) := Lib.hid ⟨cur, hg, hcs, blk_lt hg, fun j x hj => by
   obtain ⟨cs, h1, h2⟩ := HRK.out j x hj
   obtain ⟨A5, c5, A6, c6, rfl, h5, hC5, h6, hC6⟩ := k41_open h2
   exact ⟨_, _, ⟨hcur j _ h1 0 _ rfl, hcur j _ h1 1 _ rfl, hcur j _ h1 2 _ rfl, hcur j _ h1 3 _ rfl, hcur j _ h1 4 _ rfl, hcur j _ h1 5 _ rfl, hcur j _ h1 6 _ rfl⟩, by rw [if_neg (by omega)]; exact ⟨A5, c5, A6, c6, rfl, rfl, h5, hC5, h6, hC6⟩⟩⟩
  have HGC := Lib.hid (And.intro hgb (And.intro hnc hcm))
  clear hRI hg hnc hcm hcs hcur
  go_wp2
  clear hk_0 hk_1
  go_loopg [16] n (fun gg s16 wr => ∃ i : Nat, s16 = .int .i64 i ∧ i ≤ n ∧ n - i ≤ gg ∧ Hid (cyInv w wr wB.heap.size g d1 l i ∧ Kept wE wr (fun k => k = g) ∧ Below w.heap.size w wr))
  case atStart => exact ⟨0, rfl, by omega, by omega, Lib.hid ⟨HI.out, Kept.refl _ _, HBE.out⟩⟩
  case round =>
   obtain ⟨i, rfl, hin, hig, X⟩ := hrel
   obtain ⟨wO, rfl⟩ : ∃ wO, wO = wr := ⟨_, rfl⟩
   by_cases hlt : i < n
   case neg =>
    have hltz : ¬ (i : Int) < (n : Int) := by omega
    obtain ⟨⟨cur, hg, hcs, hgl, hx⟩, hk, hbo⟩ := X.out
    have hg1 := (hk.2 _ (blk_lt HGE.out.1) (show ¬ w.heap.size = g by omega)).trans HGE.out.1
    have hg2 := (hk.2 _ (blk_lt HGE.out.2) (show ¬ w.heap.size + 1 = g by omega)).trans HGE.out.2
    have hRFo : Kd.R Kd.string 9 wO wB.heap.size (fun k => k < w2.heap.size) (.slice F0 n0 d0) fs := Kd.R_step HRF.out (fun k hk' hkl => hk.2 k hkl (show ¬ k = g by omega))
    have hRIo : Kd.R k41 41 wO wB.heap.size (fun _ => True) (.slice (some ⟨g, 0, none⟩) n d1) l := R_of_cells (by omega) hg HN.out.2 HGC.out.2.1 HGC.out.2.2 hcs (fun j p hj => by
     obtain ⟨u5, u6, ⟨q0, q1, q2, q3, q4, q5, q6⟩, h3⟩ := hx j p hj
     have hjl := (List.getElem?_eq_some_iff.1 hj).1
     rw [if_pos (by have := HN.out.2; omega)] at h3
     refine ⟨[.string p.f0, .int .i64 p.f1, .string p.f2, .bool p.f3, .int .i64 p.f4, u5, u6], rfl, fun i u hu => ?_, k41_mkM _ _ _ _ h3.1 h3.2⟩
     match i, hu with
     | 0, hu => cases hu; exact q0
     | 1, hu => cases hu; exact q1
     | 2, hu => cases hu; exact q2
     | 3, hu => cases hu; exact q3
     | 4, hu => cases hu; exact q4
     | 5, hu => cases hu; exact q5
     | 6, hu => cases hu; exact q6
     | i + 7, hu => simp at hu)
    clear X hg hcs hgl hx hk
    have HFIN : Hid (Kd.R Kd.string 9 ((wO.setCell ⟨w.heap.size + 1, 0, none⟩ (.slice F0 n0 d0)).setCell ⟨w.heap.size + 1, 1, none⟩ (.slice (some ⟨g, 0, none⟩) n d1)) w.heap.size (fun _ => True) (.slice F0 n0 d0) fs ∧ Kd.R k41 41 ((wO.setCell ⟨w.heap.size + 1, 0, none⟩ (.slice F0 n0 d0)).setCell ⟨w.heap.size + 1, 1, none⟩ (.slice (some ⟨g, 0, none⟩) n d1)) w.heap.size (fun _ => True) (.slice (some ⟨g, 0, none⟩) n d1) l ∧ Below w.heap.size w ((wO.setCell ⟨w.heap.size + 1, 0, none⟩ (.slice F0 n0 d0)).setCell ⟨w.heap.size + 1, 1, none⟩ (.slice (some ⟨g, 0, none⟩) n d1))) := Lib.hid ⟨Kd.R_mono (Kd.R_lower (rset (rset hRFo)) (by omega)) (fun _ _ => trivial), Kd.R_lower (rset (rset hRIo)) (by omega), (hbo.setCell (Nat.le_succ _) _).setCell (Nat.le_succ _) _⟩
    have HGF := Lib.hid (q71 (q71 hg2 0 (.slice F0 n0 d0) rfl) 1 (.slice (some ⟨g, 0, none⟩) n d1) rfl)
    have hx_0 := (q66 hg1 0).trans rfl
    have hx_1 := (q66 hg1 1).trans rfl
    have hz_0 := (q66 hg2 0).trans rfl
    have hz_1 := (q66 hg2 1).trans rfl
    have hq_0 := q70 hg2 0
    have hq_1 := q70 hg2 1
    clear hRFo hRIo hbo hg1 hg2
    go_wp2
    clear hx_0 hx_1 hz_0 hz_1 hq_0 hq_1
    refine bodyPost_ret (results_cell_row rfl _ _ (w.heap.size + 1) 25 #[.slice F0 n0 d0, (.slice (some ⟨g, 0, none⟩) n d1)] (0, 0) _ rfl HGF.out Try.underlying25 rfl (by kernel_rfl)) rfl ?_
    exact ⟨_, _, rfl, HFIN.out.1, HFIN.out.2.1, HFIN.out.2.2⟩
   have hltz : (i : Int) < (n : Int) := by omega
   obtain ⟨⟨cur, hg, hcs, hgl, hx⟩, hk, hb⟩ := X.out
   have hil : i < l.length := by have := HN.out.2; omega
   obtain ⟨x, hxx⟩ : ∃ x, x = l[i] := ⟨_, rfl⟩
   have hxg : l[i]? = some x := by rw [hxx, List.getElem?_eq_getElem hil]
   obtain ⟨u5, u6, ⟨q0, q1, q2, q3, q4, q5, q6⟩, h3⟩ := hx i x hxg
   rw [if_neg (by omega)] at h3
   obtain ⟨A5, c5, A6, c6, rfl, rfl, h5, hC5, h6, hC6⟩ := h3
   have hwx := HWI.out x (by rw [hxx]; exact List.getElem_mem _)
   have hx0 := (q66 hg _).trans q0
   have hx1 := (q66 hg _).trans q1
   have hx2 := (q66 hg _).trans q2
   have hx3 := (q66 hg _).trans q3
   have hx4 := (q66 hg _).trans q4
   have hx5 := (q66 hg _).trans q5
   have hx6 := (q66 hg _).trans q6
   obtain ⟨n5, hn5⟩ : ∃ n5, n5 = x.f5.length := ⟨_, rfl⟩
   obtain ⟨n6, hn6⟩ : ∃ n6, n6 = x.f6.length := ⟨_, rfl⟩
   obtain ⟨W1, hW1⟩ : ∃ W1, W1 = wO.alloc (.cells #[.string x.f0, .int .i64 x.f1, .string x.f2, .bool x.f3, .int .i64 x.f4, .slice A5 n5 c5, .slice A6 n6 c6] 41) := ⟨_, rfl⟩
   have hbW : Below wO.heap.size wO W1 := by rw [hW1]; exact q60 (Below.refl _ _) _
   have hgW : W1.heap[wO.heap.size]? = some (.cells #[.string x.f0, .int .i64 x.f1, .string x.f2, .bool x.f3, .int .i64 x.f4, .slice A5 n5 c5, .slice A6 n6 c6] 41 (0, 0)) := by rw [hW1]; exact heap_alloc_new wO _
   rw [← hn5] at hx5
   rw [← hn6] at hx6
   have HW1 := Lib.hid hW1
   have HBW := Lib.hid hbW
   have HGW := Lib.hid hgW
   have HX := Lib.hid (And.intro hg (And.intro hcs (And.intro hgl hx)))
   have HKB := Lib.hid (And.intro hk hb)
   have HQ := Lib.hid (And.intro q0 (And.intro q1 (And.intro q2 (And.intro q3 (And.intro q4 (And.intro q5 q6))))))
   have HC := Lib.hid (And.intro h5 (And.intro hC5 (And.intro h6 (And.intro hC6 hwx))))
   have HXG := Lib.hid (And.intro hxg (And.intro hn5 hn6))
   clear X hg hcs hgl hx hk hb hil hxx hxg q0 q1 q2 q3 q4 q5 q6 h5 hC5 h6 hC6 hwx hW1 hbW hgW hn5 hn6
   go_wp2
   rw [← HW1.out]
   clear hx0 hx1 hx2 hx3 hx4 hx5 hx6
   have hgE1 : W1.heap[w.heap.size]? = some (.cells #[.slice F0 n0 d0, .slice (some ⟨g, 0, none⟩) n d1] 25 (0, 0)) := q65 ((HKB.out.1.2 _ (blk_lt HGE.out.1) (by omega)).trans HGE.out.1) HBW.out
   have hs_0 := (q66 hgE1 1).trans rfl
   have hs_1 := (q66 HGW.out 5).trans rfl
   have hs_2 := (q66 HGW.out 6).trans rfl
   have hOw : w.heap.size < wO.heap.size := Nat.lt_of_lt_of_le (blk_lt HGE.out.1) HKB.out.1.1
   refine sD_ [] (fun w' => w'.cell? ⟨w.heap.size, 1, none⟩ = some (.slice (some ⟨g, 0, none⟩) n d1) ∧ w'.cell? ⟨wO.heap.size, 5, none⟩ = some (.slice A5 n5 c5) ∧ w'.cell? ⟨wO.heap.size, 6, none⟩ = some (.slice A6 n6 c6)) 18 ⟨hs_0, hs_1, hs_2⟩ (fun hHeld => ?_)
   have hbO : Below wO.heap.size wO W1.drew := q61 HBW.out
   have hgO1 : W1.drew.heap[w.heap.size]? = some (.cells #[.slice F0 n0 d0, .slice (some ⟨g, 0, none⟩) n d1] 25 (0, 0)) := hgE1
   have hgO2 : W1.drew.heap[wO.heap.size]? = some (.cells #[.string x.f0, .int .i64 x.f1, .string x.f2, .bool x.f3, .int .i64 x.f4, .slice A5 n5 c5, .slice A6 n6 c6] 41 (0, 0)) := HGW.out
   clear hs_0 hs_1 hs_2 hgE1
   generalize W1.drew = wP at hHeld hbO hgO1 hgO2 ⊢
   refine pu_ 0 (some 21) ?_
   refine tk_ 1 (some 22) hHeld ?_ (hy := by rintro w' ⟨s0, s1, s2⟩; go_simp; with_reducible rfl)
   refine pu_ 2 (some 23) ?_
   refine pu_ 3 (some 24) ?_
   refine tk_ 4 (some 25) hHeld ?_ (hy := by rintro w' ⟨s0, s1, s2⟩; go_simp; with_reducible rfl)
   refine pu_ 5 (some 26) ?_
   refine pu_ 6 (some 27) ?_
   refine tk_ 7 (some 28) hHeld ?_ (hy := by rintro w' ⟨s0, s1, s2⟩; go_simp; with_reducible rfl)
   refine pu_ 9 (some 30) ?_
   refine tk_ 10 (some 31) hHeld ?_ (hy := by rintro w' ⟨s0, s1, s2⟩; go_simp; with_reducible rfl)
   have hbwP := q63 HKB.out.2 HKB.out.2.size hbO
   have hcp5 := copied_any wP A5 c5 x.f5 (Kd.C_below HC.out.2.1 hbwP) HC.out.1 HC.out.2.2.2.2.1.1 HC.out.2.2.2.2.1.2
   rw [← HXG.out.2.1] at hcp5
   refine ca_ 8 (some 29) Try.func63 #[.slice A5 n5 c5] ?_
   refine hcp5.mono ?_
   rintro e w6 ⟨v5, rfl, hR5, hb6⟩
   obtain ⟨E5, e5, rfl⟩ := Kd.R_slice hR5
   rw [← HXG.out.2.1] at hR5 ⊢
   have hg61 := q65 hgO1 hb6
   have hg62 := q65 hgO2 hb6
   have hbO6 := q63 hbO hbO.size hb6
   have hbw6 := q63 hbwP hbwP.size hb6
   have hzP : wO.heap.size < wP.heap.size := blk_lt hgO2
   refine ⟨_, rfl, ⟨(q66 hg61 1).trans rfl, (q66 hg62 5).trans rfl, (q66 hg62 6).trans rfl⟩, fun hHeld => ⟨_, rfl, nz_ (some 29) ?_⟩⟩
   have hcp6 := copied_any w6 A6 c6 x.f6 (Kd.C_below HC.out.2.2.2.1 hbw6) HC.out.2.2.1 HC.out.2.2.2.2.2.1 HC.out.2.2.2.2.2.2
   rw [← HXG.out.2.2] at hcp6
   refine ca_ 11 (some 32) Try.func63 #[.slice A6 n6 c6] ?_
   refine hcp6.mono ?_
   rintro e w7 ⟨v6, rfl, hR6, hb7⟩
   obtain ⟨E6, e6, rfl⟩ := Kd.R_slice hR6
   rw [← HXG.out.2.2] at hR6 ⊢
   have hg71 := q65 hg61 hb7
   have hg72 := q65 hg62 hb7
   have hbO7 := q63 hbO6 hbO6.size hb7
   have hbw7 := q63 hbw6 hbw6.size hb7
   have hR57 := Kd.R_below hR5 hb7
   have hz6 : wP.heap.size ≤ w6.heap.size := hb6.size
   have hgO := q65 HX.out.1 hbO7
   refine ⟨_, rfl, ⟨(q66 hg71 1).trans rfl, (q66 hg72 5).trans rfl, (q66 hg72 6).trans rfl⟩, fun hHeld => ⟨_, rfl, nz_ (some 32) ?_⟩⟩
   refine pu_ 12 (some 33) ?_
   refine pu_ 13 (some 34) ?_
   have hgg : g < wO.heap.size := HX.out.2.2.1
   have hx5 := (q66 hgO (i * 7 + 5)).trans HQ.out.2.2.2.2.2.1
   have hf5 := q70 hgO (i * 7 + 5)
   refine oN_ 14 none (fun K hK => ?_)
   go_simp
   have hgO8 := q71 hgO (i * 7 + 5) (.slice E5 n5 e5) rfl
   have hg81 := (Below.heap_setCell w7 ⟨g, i * 7 + 5, none⟩ (.slice E5 n5 e5) w.heap.size (show w.heap.size ≠ g by omega)).trans hg71
   have hg82 := (Below.heap_setCell w7 ⟨g, i * 7 + 5, none⟩ (.slice E5 n5 e5) wO.heap.size (show wO.heap.size ≠ g by omega)).trans hg72
   refine hK.out _ _ ⟨(q66 hg81 1).trans rfl, (q66 hg82 5).trans rfl, (q66 hg82 6).trans rfl⟩ (fun hHeld => ?_)
   clear hK K hx5 hf5
   refine pu_ 15 (some 35) ?_
   refine pu_ 16 (some 36) ?_
   have l6 := (Array.getElem?_eq_some_iff.1 HQ.out.2.2.2.2.2.2).1
   have hx6 : (w7.setCell ⟨g, i * 7 + 5, none⟩ (.slice E5 n5 e5)).cell? ⟨g, i * 7 + 6, none⟩ = some (.slice A6 x.f6.length c6) := (q66 hgO8 (i * 7 + 6)).trans ((Array.getElem?_setIfInBounds_ne (by omega)).trans HQ.out.2.2.2.2.2.2)
   have hf6 := q70 hgO8 (i * 7 + 6)
   refine oN_ 17 none (fun K hK => ?_)
   go_simp
   have HF : Hid (cyInv w ((w7.setCell ⟨g, i * 7 + 5, none⟩ (.slice E5 n5 e5)).setCell ⟨g, i * 7 + 6, none⟩ (.slice E6 n6 e6)) wB.heap.size g d1 l (i + 1) ∧ Kept wE ((w7.setCell ⟨g, i * 7 + 5, none⟩ (.slice E5 n5 e5)).setCell ⟨g, i * 7 + 6, none⟩ (.slice E6 n6 e6)) (fun k => k = g) ∧ Below w.heap.size w ((w7.setCell ⟨g, i * 7 + 5, none⟩ (.slice E5 n5 e5)).setCell ⟨g, i * 7 + 6, none⟩ (.slice E6 n6 e6))) := Lib.hid (by
    have hgB : wB.heap.size ≤ g := by omega
    have l5 := (Array.getElem?_eq_some_iff.1 HQ.out.2.2.2.2.2.1).1
    refine ⟨⟨(cur.setIfInBounds (i * 7 + 5) (.slice E5 n5 e5)).setIfInBounds (i * 7 + 6) (.slice E6 n6 e6), q71 hgO8 (i * 7 + 6) (.slice E6 n6 e6) rfl, by simp only [Array.size_setIfInBounds]; exact HX.out.2.1, ?_, fun j p hj => ?_⟩, ?_, ?_⟩
    ·have := hbO7.size
     simpa [World.setCell] using Nat.lt_of_lt_of_le hgg this
    ·by_cases hji : j = i
     ·subst hji
      obtain rfl : x = p := Option.some.inj (HXG.out.1.symm.trans hj)
      obtain ⟨q0, q1, q2, q3, q4, q5, q6⟩ := HQ.out
      refine ⟨.slice E5 n5 e5, .slice E6 n6 e6, ⟨?_, ?_, ?_, ?_, ?_, ?_, ?_⟩, ?_⟩
      ·rw [Array.getElem?_setIfInBounds_ne (by omega), Array.getElem?_setIfInBounds_ne (by omega)]; exact q0
      ·rw [Array.getElem?_setIfInBounds_ne (by omega), Array.getElem?_setIfInBounds_ne (by omega)]; exact q1
      ·rw [Array.getElem?_setIfInBounds_ne (by omega), Array.getElem?_setIfInBounds_ne (by omega)]; exact q2
      ·rw [Array.getElem?_setIfInBounds_ne (by omega), Array.getElem?_setIfInBounds_ne (by omega)]; exact q3
      ·rw [Array.getElem?_setIfInBounds_ne (by omega), Array.getElem?_setIfInBounds_ne (by omega)]; exact q4
      ·rw [Array.getElem?_setIfInBounds_ne (by omega), Array.getElem?_setIfInBounds_self_of_lt l5]
      ·rw [Array.getElem?_setIfInBounds_self_of_lt (by simpa using l6)]
      ·rw [if_pos (by omega)]
       have far : ∀ {α : Type} {d : Kd α} {e base : Nat} {v : Value} {xs : List α}, g < base → wB.heap.size ≤ base → d.R e w7 base (fun _ => True) v xs → d.R e ((w7.setCell ⟨g, j * 7 + 5, none⟩ (.slice E5 n5 e5)).setCell ⟨g, j * 7 + 6, none⟩ (.slice E6 n6 e6)) wB.heap.size (fun k => True ∧ k ≠ g) v xs := fun hg1 hg2 h =>
        Kd.R_lower (Kd.R_mono (Kd.R_far (Kd.R_far (Kd.R_bound h) (p := ⟨g, j * 7 + 5, none⟩) (fun k hk => by have := hk.2.1; show k ≠ g; omega) _) (p := ⟨g, j * 7 + 6, none⟩) (fun k hk => by have := hk.2.1; show k ≠ g; omega) _) (fun k hk => ⟨trivial, by have := hk.2.1; omega⟩)) hg2
       exact ⟨far (by omega) (by omega) hR57, far (by omega) (by omega) hR6⟩
     ·obtain ⟨u5, u6, ⟨q0, q1, q2, q3, q4, q5, q6⟩, h3⟩ := HX.out.2.2.2 j p hj
      refine ⟨u5, u6, ⟨?_, ?_, ?_, ?_, ?_, ?_, ?_⟩, ?_⟩
      ·rw [Array.getElem?_setIfInBounds_ne (by omega), Array.getElem?_setIfInBounds_ne (by omega)]; exact q0
      ·rw [Array.getElem?_setIfInBounds_ne (by omega), Array.getElem?_setIfInBounds_ne (by omega)]; exact q1
      ·rw [Array.getElem?_setIfInBounds_ne (by omega), Array.getElem?_setIfInBounds_ne (by omega)]; exact q2
      ·rw [Array.getElem?_setIfInBounds_ne (by omega), Array.getElem?_setIfInBounds_ne (by omega)]; exact q3
      ·rw [Array.getElem?_setIfInBounds_ne (by omega), Array.getElem?_setIfInBounds_ne (by omega)]; exact q4
      ·rw [Array.getElem?_setIfInBounds_ne (by omega), Array.getElem?_setIfInBounds_ne (by omega)]; exact q5
      ·rw [Array.getElem?_setIfInBounds_ne (by omega), Array.getElem?_setIfInBounds_ne (by omega)]; exact q6
      ·by_cases hlt' : j < i
       ·rw [if_pos hlt'] at h3
        rw [if_pos (by omega)]
        have stp : ∀ {α : Type} {d : Kd α} {e base : Nat} {v : Value} {xs : List α}, d.R e wO base (fun k => True ∧ k ≠ g) v xs → d.R e ((w7.setCell ⟨g, i * 7 + 5, none⟩ (.slice E5 n5 e5)).setCell ⟨g, i * 7 + 6, none⟩ (.slice E6 n6 e6)) base (fun k => True ∧ k ≠ g) v xs := fun h => Kd.R_step h (fun k hk hkl => (Below.heap_setCell _ _ _ _ hk.2).trans ((Below.heap_setCell _ _ _ _ hk.2).trans (hbO7.block k hkl)))
        exact ⟨stp h3.1, stp h3.2⟩
       ·rw [if_neg hlt'] at h3
        rw [if_neg (by omega)]
        exact h3
    ·exact ((HKB.out.1.below hbO7).setCell (p := ⟨g, i * 7 + 5, none⟩) (.inl rfl) _).setCell (p := ⟨g, i * 7 + 6, none⟩) (.inl rfl) _
    ·exact (hbw7.setCell (show w.heap.size ≤ g by omega) _).setCell (show w.heap.size ≤ g by omega) _)
   have hg91 := (Below.heap_setCell (w7.setCell ⟨g, i * 7 + 5, none⟩ (.slice E5 n5 e5)) ⟨g, i * 7 + 6, none⟩ (.slice E6 n6 e6) w.heap.size (show w.heap.size ≠ g by omega)).trans hg81
   have hg92 := (Below.heap_setCell (w7.setCell ⟨g, i * 7 + 5, none⟩ (.slice E5 n5 e5)) ⟨g, i * 7 + 6, none⟩ (.slice E6 n6 e6) wO.heap.size (show wO.heap.size ≠ g by omega)).trans hg82
   refine hK.out _ _ ⟨(q66 hg91 1).trans rfl, (q66 hg92 5).trans rfl, (q66 hg92 6).trans rfl⟩ (fun _ => ?_)
   clear hK K hx6 hf6 hg91 hg92 hg81 hg82 hgO8 hgO hR5 hR6 hR57 hg61 hg62 hg71 hg72 hHeld hcp5 hcp6 hgO1 hgO2
   refine dn_ ?_
   go_wp2
   go_roundg (n - (i + 1))
   case measure => omega
   case rel => exact ⟨i + 1, by go_num, by omega, by omega, HF⟩
def q57.f (l0_0 : List ByteArray) (l0_1 : List (S41)) : Option Bool := some (isB l0_0 l0_1)
theorem q57.eg : ∀ args w, (callFunc 60 args).run Try.prog w = .ok (.enter 60 args) w := enters_of Try.func60 (by kernel_rfl) rfl
set_option maxHeartbeats 4000000 in
theorem q57.closure (b : Nat) (A0_0 : Option Addr) (c0_0 : Nat) (l0_0 : List ByteArray) (A0_1 : Option Addr) (c0_1 : Nat) (l0_1 : List (S41)) (W : World) (hm0 : W.cell? ⟨b, 0, none⟩ = some (.slice A0_0 l0_0.length c0_0)) (hm1 : W.cell? ⟨b, 1, none⟩ = some (.slice A0_1 l0_1.length c0_1))
 (hr0_0 : Kd.C Kd.string W A0_0 l0_0.length l0_0) (hc0_0 : l0_0.length ≤ c0_0) (hr0_1 : Kd.C k41 W A0_1 l0_1.length l0_1) (hc0_1 : l0_1.length ≤ c0_1) (x : S41) (cs : List Value) (hK : Kd.K k41 W x cs) :
 Calls Try.prog 60 (#[.agg cs.toArray] ++ #[.pointer (some ⟨b, 0, none⟩)]) W fun e w' => e = .returned (.bool (!itemB l0_0 l0_1 x.f1 x.f3 x.f4 x.f5 x.f6)) ∧ Below W.heap.size W w' := by
 obtain ⟨A5, c5, A6, c6, rfl, g5, h5, g6, h6⟩ := k41_open hK
 have hb := World.block_lt_of_cell? W _ hm0
 simp only at hb
 have hW1 := q60 (Below.refl W.heap.size W) (.cells #[.string x.f0, .int .i64 x.f1, .string x.f2, .bool x.f3, .int .i64 x.f4, .slice A5 x.f5.length c5, .slice A6 x.f6.length c6] 41)
 have hif := q41.calls 1 A0_0 c0_0 l0_0 A0_1 c0_1 l0_1 x.f0 x.f1 x.f2 x.f3 x.f4 A5 c5 x.f5 A6 c6 x.f6 _ _ (Kd.C_below hr0_0 hW1) hc0_0 (Kd.C_below hr0_1 hW1) hc0_1 (Kd.C_below h5 hW1) g5 (Kd.C_below h6 hW1) g6 (isItem_eq l0_0 l0_1 x.f0 x.f1 x.f2 x.f3 x.f4 x.f5 x.f6)
 have HW := Lib.hid hW1
 clear hr0_0 hr0_1 hW1 hK h5 h6
 obtain ⟨T, hT⟩ : ∃ T, T = itemB l0_0 l0_1 x.f1 x.f3 x.f4 x.f5 x.f6 := ⟨_, rfl⟩
 rw [← hT] at hif ⊢
 clear hT
 have hu36 := Try.underlying25
 have hu32 := Try.underlying41
 go_enter Try.func60, Try.ntmps60
 go_wp2_with (go_at_call 61; refine hif.mono ?_; rintro e w' ⟨rfl, hb'⟩)
 go_ret
 exact ⟨rfl, q75 hb' HW.out⟩
set_option maxHeartbeats 8000000 in
set_option maxRecDepth 100000 in
theorem q57.calls (A0_0 : Option Addr) (c0_0 : Nat) (l0_0 : List ByteArray) (A0_1 : Option Addr) (c0_1 : Nat) (l0_1 : List (S41)) (r : Bool) (w : World) (hr0_0 : Kd.C Kd.string w A0_0 l0_0.length l0_0) (hc0_0 : l0_0.length ≤ c0_0) (hr0_1 : Kd.C k41 w A0_1 l0_1.length l0_1) (hc0_1 : l0_1.length ≤ c0_1) (h : q57.f l0_0 l0_1 = some r) :
    Calls Try.prog 21 #[.agg #[.slice A0_0 l0_0.length c0_0, .slice A0_1 l0_1.length c0_1]] w fun e w' => e = .returned (.bool r) ∧ Below w.heap.size w w' := by
  obtain rfl := Option.some.inj h
  clear h
  have hu36 := Try.underlying25
  have hu32 := Try.underlying41
  have HR := Lib.hid (And.intro hr0_0 hr0_1)
  clear hr0_0 hr0_1
  have W1 := q60 (Below.refl w.heap.size w) (.cells #[.slice A0_0 l0_0.length c0_0, .slice A0_1 l0_1.length c0_1] 25)
  have HW1 := Lib.hid W1
  clear W1
  by_cases hA : 6 < l0_0.length
  · have e : isB l0_0 l0_1 = false := by simp [isB]; omega
    rw [e]
    have hA' : (6 : Int) < l0_0.length := by omega
    clear e
    go_enter Try.func21, Try.ntmps21
    go_wp2
    go_ret
    exact ⟨rfl, HW1.out⟩
  have hA' : ¬ (6 : Int) < l0_0.length := by omega
  by_cases hB : l0_1.length < 1
  · have e : isB l0_0 l0_1 = false := by simp [isB]; omega
    rw [e]
    have hB' : (l0_1.length : Int) < 1 := by omega
    clear e
    go_enter Try.func21, Try.ntmps21
    go_wp2
    go_ret
    exact ⟨rfl, HW1.out⟩
  have hB' : ¬ (l0_1.length : Int) < 1 := by omega
  by_cases hC : 16 < l0_1.length
  · have e : isB l0_0 l0_1 = false := by simp [isB]; omega
    rw [e]
    have hC' : (16 : Int) < l0_1.length := by omega
    clear e
    go_enter Try.func21, Try.ntmps21
    go_wp2
    go_ret
    exact ⟨rfl, HW1.out⟩
  have hC' : ¬ (16 : Int) < l0_1.length := by omega
  have hd : decide (l0_0.length ≤ 6 ∧ 1 ≤ l0_1.length ∧ l0_1.length ≤ 16) = true := decide_eq_true (by omega)
  obtain ⟨P0, hP0⟩ : ∃ P, P = planB (q84 l0_1 0).f1 (q84 l0_1 0).f2 (q84 l0_1 0).f3 (q84 l0_1 0).f5.length (q84 l0_1 0).f6.length := ⟨_, rfl⟩
  obtain ⟨T0, hT0⟩ : ∃ T, T = l0_1.any (fun x => !itemB l0_0 l0_1 x.f1 x.f3 x.f4 x.f5 x.f6) := ⟨_, rfl⟩
  have hI : isB l0_0 l0_1 = (namesB l0_0 && (namesB (l0_1.map (·.f0)) && (P0 && (standsB l0_1 && !T0)))) := by
    unfold isB
    rw [hd, ← hP0, ← hT0]; rfl
  have HI := Lib.hid hI
  have HP := Lib.hid (And.intro hP0 hT0)
  clear hI hd hP0 hT0
  -- the world behind the box
  obtain ⟨W1, hW1⟩ : ∃ W, W = w.alloc (.cells #[.slice A0_0 l0_0.length c0_0, .slice A0_1 l0_1.length c0_1] 25) := ⟨_, rfl⟩
  have hm0 : W1.cell? ⟨w.heap.size, 0, none⟩ = some (.slice A0_0 l0_0.length c0_0) := by rw [hW1]; simp
  have hm1 : W1.cell? ⟨w.heap.size, 1, none⟩ = some (.slice A0_1 l0_1.length c0_1) := by rw [hW1]; simp
  have hb1 : Below w.heap.size w W1 := by rw [hW1]; exact HW1.out
  have H1 := Lib.hid (And.intro hm0 (And.intro hm1 hb1))
  have HE1 := Lib.hid hW1
  have hn1 := fun (W : World) (hb : Below w.heap.size w W) => q32.calls A0_0 c0_0 l0_0 _ W (Kd.C_below HR.out.1 hb) hc0_0 rfl
  have hn1' := hn1 W1 hb1
  clear hn1 hW1 hm0 hm1 hb1
  go_enter Try.func21, Try.ntmps21
  go_wp2_with fail
  rw [← HE1.out]
  go_at_call 55
  cases hq1 : namesB l0_0 with
  | false =>
    rw [hq1] at hn1' HI
    have HI2 : Hid (isB l0_0 l0_1 = false) := Lib.hid (by rw [HI.out]; rfl)
    clear hq1 HI
    refine hn1'.mono ?_
    rintro e w2 ⟨rfl, hb2⟩
    have HB := Lib.hid (q75 hb2 H1.out.2.2)
    clear hn1' hb2
    go_wp2
    go_ret
    exact ⟨by rw [HI2.out]; rfl, HB.out⟩
  | true =>
  rw [hq1] at hn1' HI
  clear hq1
  refine hn1'.mono ?_
  rintro e w2 ⟨rfl, hb2⟩
  have hm0 := q76 hb2 H1.out.1
  have hm1 := q76 hb2 H1.out.2.1
  have HB2 := Lib.hid (And.intro (q75 hb2 H1.out.2.2) (And.intro hm0 hm1))
  clear hn1' hb2
  have hids := q55.calls (l0_1.length + 1) A0_0 c0_0 l0_0 A0_1 c0_1 l0_1 _ w2 (Kd.C_below HR.out.1 HB2.out.1) hc0_0 (Kd.C_below HR.out.2 HB2.out.1) hc0_1 (ids_eq l0_0 l0_1 (by omega) (l0_1.length + 1) (by omega))
  go_wp2_with fail
  go_at_call 56
  refine hids.mono ?_
  rintro e w3 ⟨v3, rfl, hR3, hb3⟩
  obtain ⟨A3, c3, rfl, hl3, hC3⟩ := Kd.R_reads hR3
  have hn2 := q32.calls A3 c3 (l0_1.map (·.f0)) _ w3 hC3 hl3 rfl
  rw [List.length_map] at hn2
  have hm03 := q76 hb3 hm0
  have hm13 := q76 hb3 hm1
  have HB3 := Lib.hid (And.intro (q75 hb3 HB2.out.1) (And.intro hm03 hm13))
  clear hids hR3 hb3 hC3 hm0 hm1
  go_wp2_with fail
  go_at_call 55
  cases hq2 : namesB (l0_1.map (·.f0)) with
  | false =>
    rw [hq2] at hn2 HI
    have HI2 : Hid (isB l0_0 l0_1 = false) := Lib.hid (by rw [HI.out]; rfl)
    clear hq2 HI
    refine hn2.mono ?_
    rintro e w4 ⟨rfl, hb4⟩
    have HB := Lib.hid (q75 hb4 HB3.out.1)
    clear hn2 hb4
    go_wp2
    go_ret
    exact ⟨by rw [HI2.out]; rfl, HB.out⟩
  | true =>
  rw [hq2] at hn2 HI
  clear hq2
  refine hn2.mono ?_
  rintro e w4 ⟨rfl, hb4⟩
  have hm04 := q76 hb4 hm03
  have hm14 := q76 hb4 hm13
  have HB4 := Lib.hid (And.intro (q75 hb4 HB3.out.1) (And.intro hm04 hm14))
  obtain ⟨ad, B5, d5, B6, d6, e, hx0, hx1, hx2, hx3, hx4, hx5, hx6, g5, h5, g6, h6⟩ := at_T41 HR.out.2 (0 : Int) (by omega) (by omega)
  cases e
  obtain ⟨x, hx⟩ : ∃ x, x = q84 l0_1 (0 : Int) := ⟨_, rfl⟩
  rw [← hx] at hx0 hx1 hx2 hx3 hx4 hx5 hx6 g5 h5 g6 h6 HP
  have hip := q39.calls x.f0 x.f1 x.f2 x.f3 x.f4 B5 d5 x.f5 B6 d6 x.f6 _ w4 (Kd.C_below h5 HB4.out.1) g5 (Kd.C_below h6 HB4.out.1) g6 (isPlan_eq x.f0 x.f1 x.f2 x.f3 x.f4 x.f5 x.f6 h5.2.1 h6.2.1)
  rw [← HP.out.1] at hip
  replace hx0 := q76 HB4.out.1 hx0
  replace hx1 := q76 HB4.out.1 hx1
  replace hx2 := q76 HB4.out.1 hx2
  replace hx3 := q76 HB4.out.1 hx3
  replace hx4 := q76 HB4.out.1 hx4
  replace hx5 := q76 HB4.out.1 hx5
  replace hx6 := q76 HB4.out.1 hx6
  rw [show (0 : Int).toNat * 7 = 0 by rfl, show ad.add 0 = ad by simp [Addr.add]] at hx0 hx1 hx2 hx3 hx4 hx5 hx6
  have hl0 : (0 : Int) < l0_1.length := by omega
  clear hx hn2 hb4 hm03 hm13 h5 h6 g5 g6
  go_wp2_with fail
  go_at_call 57
  have HBox := Lib.hid (And.intro hm04 hm14)
  clear hx0 hx1 hx2 hx3 hx4 hx5 hx6
  cases P0 with
  | false =>
    have HI2 : Hid (isB l0_0 l0_1 = false) := Lib.hid (by rw [HI.out]; rfl)
    clear HI
    refine hip.mono ?_
    rintro e w5 ⟨rfl, hb5⟩
    have HB := Lib.hid (q75 hb5 HB4.out.1)
    clear hip hb5
    go_wp2
    go_ret
    exact ⟨by rw [HI2.out]; rfl, HB.out⟩
  | true =>
  refine hip.mono ?_
  rintro e w5 ⟨rfl, hb5⟩
  have hm05 := q76 hb5 HBox.out.1
  have hm15 := q76 hb5 HBox.out.2
  have hb5w := q75 hb5 HB4.out.1
  have hst := q40.calls A0_0 c0_0 l0_0 (some ad) c0_1 l0_1 _ w5 (Kd.C_below HR.out.1 hb5w) hc0_0 (Kd.C_below HR.out.2 hb5w) hc0_1 rfl
  have HB5 := Lib.hid hb5w
  clear hip hb5 hm04 hm14 hb5w
  go_wp2_with fail
  go_at_call 58
  have HBox5 := Lib.hid (And.intro hm05 hm15)
  cases hq3 : standsB l0_1 with
  | false =>
    rw [hq3] at hst HI
    have HI2 : Hid (isB l0_0 l0_1 = false) := Lib.hid (by rw [HI.out]; rfl)
    clear HI hq3
    refine hst.mono ?_
    rintro e w6 ⟨rfl, hb6⟩
    have HB := Lib.hid (q75 hb6 HB5.out)
    clear hst hb6
    go_wp2
    go_ret
    exact ⟨by rw [HI2.out]; rfl, HB.out⟩
  | true =>
  rw [hq3] at hst HI
  clear hq3
  refine hst.mono ?_
  rintro e w6 ⟨rfl, hb6⟩
  have hm06 := q76 hb6 hm05
  have hm16 := q76 hb6 hm15
  have hb6w := q75 hb6 HB5.out
  have hany := anyItem (some ad) c0_1 l0_1 w6 (Kd.C_below HR.out.2 hb6w) hc0_1 60 #[.pointer (some ⟨w.heap.size, 0, none⟩)] q57.eg (fun x => !itemB l0_0 l0_1 x.f1 x.f3 x.f4 x.f5 x.f6) (fun W x cs hx hb hK => q57.closure w.heap.size A0_0 c0_0 l0_0 (some ad) c0_1 l0_1 W (q76 hb hm06) (q76 hb hm16) (Kd.C_below (Kd.C_below HR.out.1 hb6w) hb) hc0_0 (Kd.C_below (Kd.C_below HR.out.2 hb6w) hb) hc0_1 x cs hK)
  rw [← HP.out.2] at hany
  have HB6 := Lib.hid hb6w
  clear hst hb6 hm05 hm15 hb6w
  go_wp2_with fail
  go_at_call 59
  refine hany.mono ?_
  rintro e w7 ⟨rfl, hb7⟩
  have HB := Lib.hid (q75 hb7 HB6.out)
  clear hany hb7
  go_wp2
  go_ret
  exact ⟨by rw [HI.out]; rfl, HB.out⟩
set_option maxHeartbeats 4000000 in
set_option maxRecDepth 100000 in
theorem each_m (c : Mc) (g : Nat) (w : World) (f : Nat) (eg : ∀ args w, (callFunc f args).run Try.prog w = .ok (.enter f args) w) (I : Nat → World → Prop) (hG : Mg c w g) (h0 : I 0 w) (hl : c.l.length ≤ 1000)
 (hS : ∀ i W, i < c.l.length → I i W → Calls Try.prog f #[.pointer (some ⟨g, 0, none⟩), .int .i64 i] W fun e w' => e = .returned (.tuple #[]) ∧ I (i + 1) w') :
 Calls Try.prog 33 #[.pointer (some ⟨g, 0, none⟩), .func (.func f) #[.pointer (some ⟨g, 0, none⟩)] #[]] w fun e w' => e = .returned (.tuple #[]) ∧ I c.l.length w' := by
 have hu25 := Try.underlying25
 have hu58 := Try.underlying58
 obtain ⟨vr, vc, vu, hg⟩ := hG
 have hcz1 : w.cell? ⟨g, 1, none⟩ = some (.slice c.A1 c.l.length c.c1) := (q66 hg 1).trans rfl
 obtain ⟨n, hn⟩ : ∃ n, n = c.l.length := ⟨_, rfl⟩
 rw [← hn] at hcz1 hS hl ⊢
 have HS := Lib.hid hS
 have H0 := Lib.hid h0
 clear hS hn hg h0
 go_enter Try.func33, Try.ntmps33
 go_wp2
 go_loopg [11] n (fun gg s11 wr => ∃ i : Nat, s11 = .int .i64 i ∧ i ≤ n ∧ n - i ≤ gg ∧ Hid (I i wr))
 case atStart => exact ⟨0, rfl, Nat.zero_le _, by omega, H0⟩
 case round =>
  obtain ⟨i, rfl, hin, hig, Y⟩ := hrel
  obtain ⟨wO, rfl⟩ : ∃ wO, wO = wr := ⟨_, rfl⟩
  by_cases hlt : i < n
  case neg =>
   have hltz : ¬ (i : Int) < (n : Int) := by omega
   obtain rfl : i = n := by omega
   go_wp2
   refine bodyPost_end (results_none rfl _ _ _) rfl ?_
   exact ⟨rfl, Y.out⟩
  have hltz : (i : Int) < (n : Int) := by omega
  have hcall := HS.out i wO hlt Y.out
  clear Y
  go_wp2_with (go_at_fn f; refine hcall.mono ?_; rintro e w' ⟨rfl, hI⟩; have HI := Lib.hid hI; clear hI hcall)
  go_roundg (n - (i + 1))
  case measure => omega
  case rel => exact ⟨i + 1, by go_num, by omega, Nat.le_refl _, HI⟩
set_option maxHeartbeats 4000000 in
set_option maxRecDepth 100000 in
theorem each_c (c : Mc) (g : Nat) (w : World) (f : Nat) (p1 p2 : Addr) (eg : ∀ args w, (callFunc f args).run Try.prog w = .ok (.enter f args) w) (I : Nat → World → Prop) (hG : Mg c w g) (h0 : I 0 w) (hl : c.l.length ≤ 1000)
 (hS : ∀ i W, i < c.l.length → I i W → Calls Try.prog f #[.int .i64 i, .pointer (some p1), .pointer (some p2)] W fun e w' => e = .returned (.tuple #[]) ∧ I (i + 1) w') :
 Calls Try.prog 33 #[.pointer (some ⟨g, 0, none⟩), .func (.func f) #[] #[.pointer (some p1), .pointer (some p2)]] w fun e w' => e = .returned (.tuple #[]) ∧ I c.l.length w' := by
 have hu25 := Try.underlying25
 have hu58 := Try.underlying58
 obtain ⟨vr, vc, vu, hg⟩ := hG
 have hcz1 : w.cell? ⟨g, 1, none⟩ = some (.slice c.A1 c.l.length c.c1) := (q66 hg 1).trans rfl
 obtain ⟨n, hn⟩ : ∃ n, n = c.l.length := ⟨_, rfl⟩
 rw [← hn] at hcz1 hS hl ⊢
 have HS := Lib.hid hS
 have H0 := Lib.hid h0
 clear hS hn hg h0
 go_enter Try.func33, Try.ntmps33
 go_wp2
 go_loopg [11] n (fun gg s11 wr => ∃ i : Nat, s11 = .int .i64 i ∧ i ≤ n ∧ n - i ≤ gg ∧ Hid (I i wr))
 case atStart => exact ⟨0, rfl, Nat.zero_le _, by omega, H0⟩
 case round =>
  obtain ⟨i, rfl, hin, hig, Y⟩ := hrel
  obtain ⟨wO, rfl⟩ : ∃ wO, wO = wr := ⟨_, rfl⟩
  by_cases hlt : i < n
  case neg =>
   have hltz : ¬ (i : Int) < (n : Int) := by omega
   obtain rfl : i = n := by omega
   go_wp2
   refine bodyPost_end (results_none rfl _ _ _) rfl ?_
   exact ⟨rfl, Y.out⟩
  have hltz : (i : Int) < (n : Int) := by omega
  have hcall := HS.out i wO hlt Y.out
  clear Y
  go_wp2_with (go_at_fn f; refine hcall.mono ?_; rintro e w' ⟨rfl, hI⟩; have HI := Lib.hid hI; clear hI hcall)
  go_roundg (n - (i + 1))
  case measure => omega
  case rel => exact ⟨i + 1, by go_num, by omega, Nat.le_refl _, HI⟩
def q52.l0 : Nat → ByteArray → List Int → List (S41) → Int → Int → Option (List Int)
 | 0, _, _, _, _, _ => none
 | k + 1, x1, x5, x9, x10, x11 => if x11 < x10 then (if 0 ≤ x11 then (if x11 < (x9.length : Int) then (if ((q84 x9 x11).f2).toList = x1.toList then (if x5.length < 17592186044416 then (q52.l0 k x1 (x5 ++ [x11]) x9 x10 (wrap64 (x11 + 1))) else (none)) else (q52.l0 k x1 x5 x9 x10 (wrap64 (x11 + 1)))) else (none)) else (none)) else (some x5)
def q52.f (k : Nat) (l0_0 : List ByteArray) (l0_1 : List (S41)) (a1 : ByteArray) : Option (List Int) := q52.l0 k a1 ([] : List Int) l0_1 (l0_1.length : Int) 0
theorem q52.mono_l : ∀ k, (∀ y0 y1 y2 y3 y4, LeO (q52.l0 k y0 y1 y2 y3 y4) (q52.l0 (k + 1) y0 y1 y2 y3 y4))
 | 0 => fun _ _ _ _ _ r h => by simp [q52.l0] at h
 | k + 1 => by
  have ih0 := q52.mono_l k
  ·intro y0 y1 y2 y3 y4
   unfold q52.l0
   repeat' first
   | (with_reducible exact ih0 _ _ _ _ _)
   | (with_reducible exact LeO.refl _)
   | (with_reducible exact LeO.none _)
   | (with_reducible refine LeO.ite ?_ ?_)
   | (with_reducible refine LeO.bind ?_ (fun _ => ?_))
   | exact ih0 _ _ _ _ _
   | exact LeO.none _
   | refine LeO.ite ?_ ?_
   | refine LeO.bind ?_ (fun _ => ?_)
theorem q52.mono : ∀ a0 a1 a2 k, LeO (q52.f k a0 a1 a2) (q52.f (k + 1) a0 a1 a2) := by
 intro a0 a1 a2 k
 have ih0 := q52.mono_l k
 unfold q52.f
 repeat' first
  | (with_reducible exact ih0 _ _ _ _ _)
  | (with_reducible exact LeO.refl _)
  | (with_reducible exact LeO.none _)
  | (with_reducible refine LeO.ite ?_ ?_)
  | (with_reducible refine LeO.bind ?_ (fun _ => ?_))
  | exact ih0 _ _ _ _ _
  | exact LeO.none _
  | refine LeO.ite ?_ ?_
  | refine LeO.bind ?_ (fun _ => ?_)
set_option maxHeartbeats 8000000 in
set_option maxRecDepth 100000 in
theorem q52.calls (k : Nat) (A0_0 : Option Addr) (c0_0 : Nat) (l0_0 : List ByteArray) (A0_1 : Option Addr) (c0_1 : Nat) (l0_1 : List (S41)) (a1 : ByteArray) (r : List Int) (w : World) (hr0_0 : Kd.C Kd.string w A0_0 l0_0.length l0_0) (hc0_0 : l0_0.length ≤ c0_0) (hr0_1 : Kd.C k41 w A0_1 l0_1.length l0_1) (hc0_1 : l0_1.length ≤ c0_1) (h : q52.f k l0_0 l0_1 a1 = some r) :
 Calls Try.prog 71 #[.agg #[.slice A0_0 l0_0.length c0_0, .slice A0_1 l0_1.length c0_1], .string a1] w fun e w' => ∃ v0_ : Value, e = .returned (v0_) ∧ Kd.R (Kd.int .i64) 3 w' w.heap.size (fun _ => True) v0_ r ∧ Below w.heap.size w w' := by
 have hu25 := Try.underlying25
 have hu41 := Try.underlying41
 have HR0_0 := q59.mk hr0_0
 have HC0_0 := q59.mk hc0_0
 clear hr0_0 hc0_0
 have HR0_1 := q59.mk hr0_1
 have HC0_1 := q59.mk hc0_1
 clear hr0_1 hc0_1
 have HB := q59.mk (Below.refl w.heap.size w)
 have H : (q52.l0 k a1 ([] : List Int) l0_1 (l0_1.length : Int) 0) = some r := h
 clear h
 have H' := q59.mk H
 clear H
 go_enter Try.func71, Try.ntmps71
 go_wp2_with (first | ((with_reducible refine q74 (N := 2) rfl ?_); refine bx_ 2 #[.slice A0_0 l0_0.length c0_0, .slice A0_1 l0_1.length c0_1] 25 ?_; intro gb302 hg w3 hbox hb; have BK302 := q59.mk (hbox); have GW302 := zz_ (w := w) hg; have GE302 := zz_ (w := w) hg; replace HB := hb_ HB hb;  clear hb hbox hg; obtain ⟨hcz4_0, hcz4_1, hfz4_0, hfz4_1⟩ := bs2_ BK302))
 go_loopg [5, 11] k (fun kq v5 v11 w' => ∃ (x5_1 : List Int) (x11_1 : Int), v11 = .int .i64 x11_1 ∧ q59 (q52.l0 kq a1 x5_1 l0_1 (l0_1.length : Int) x11_1 = some r) ∧ q59 (kq ≤ k) ∧ q59 (Kd.R (Kd.int .i64) 3 w' w.heap.size (fun _ => True) v5 x5_1) ∧ q59 (w'.heap[gb302]? = some (.cells #[(.slice A0_0 l0_0.length c0_0), (.slice A0_1 l0_1.length c0_1)] 25 (0, 0))) ∧ q59 (Below w.heap.size w w'))
 case atStart => exact ⟨(([] : List Int)), (0), rf_, H', ⟨Nat.le_refl _⟩, ⟨by first | exact Kd.R_nil _ _ _ _ _ | exact Kd.N_nil _ _ _ _ _ | exact Kd.V_nil _ _ _ _ _ | exact Kd.Q_nil _ _ _ _ _ | exact Kd.S_nil _ _ _ _ _⟩, ⟨gx_ BK302⟩, ⟨hf_⟩⟩
 case round =>
  clear H'
  (try clear hcz4_0); (try clear hcz4_1); (try clear hfz4_0); (try clear hfz4_1)
  obtain ⟨x5_1, x11_1, rfl, HA, HK1, HO_5, BK302, HB⟩ := hrel
  cases gk with
  | zero => exact absurd HA.out (by simp [q52.l0])
  | succ k1 =>
   have H := HA.out
   clear HA
   simp only [q52.l0] at H
   by_cases c5 : x11_1 < (l0_1.length : Int)
   ·rw [if_pos c5] at H
    replace c5 := decide_eq_true c5
    by_cases c6 : 0 ≤ x11_1
    ·rw [if_pos c6] at H
     replace c6 := decide_eq_true c6
     by_cases c7 : x11_1 < (l0_1.length : Int)
     ·rw [if_pos c7] at H
      replace c7 := decide_eq_true c7
      by_cases c8 : ((q84 l0_1 x11_1).f2).toList = a1.toList
      ·rw [if_pos c8] at H
       have c8b0 : (((q84 l0_1 x11_1).f2).toList == a1.toList) = true := beq_iff_eq.mpr c8
       have c8b1 : (((q84 l0_1 x11_1).f2).toList != a1.toList) = false := bne_eq_false_iff_eq.mpr c8
       clear c8
       by_cases c9 : x5_1.length < 17592186044416
       ·rw [if_pos c9] at H
        have LMc9 := q59.mk c9
        clear c9
        obtain ⟨y305, hy305⟩ : ∃ y_ : List Int, y_ = (x5_1 ++ [x11_1]) := ⟨_, rfl⟩
        rw [← hy305] at H
        have Ny305 := q59.mk hy305
        clear hy305
        have H' := q59.mk H
        clear H
        obtain ⟨ad303, A303_5, c303_5, A303_6, c303_6, e303, hx303_0, hx303_1, hx303_2, hx303_3, hx303_4, hx303_5, hx303_6, HC303_5, HR303_5, HC303_6, HR303_6, p303, q303⟩ := au_T41 HR0_1 HB (x11_1)
        cases e303
        go_wp2_with (first | ((with_reducible refine q74 (N := 7) rfl ?_); refine bx_ 7 #[.string (⟨#[]⟩ : ByteArray), .int .i64 0, .string (⟨#[]⟩ : ByteArray), .bool false, .int .i64 0, .slice none 0 0, .slice none 0 0] 41 ?_; intro gb304 hg w10 hbox hb; replace HO_5 := q59.mk (Kd.R_below (ra_ HO_5.out) hb); have BK304 := q59.mk (hbox); have GW304 := zz_ (w := w) hg; have GE304 := zz_ (w := w) hg; replace HB := hb_ HB hb; have NB302_304 := ne1_ hg BK302; have NB304_302 := ne2_ hg BK302; replace BK302 := bb_ BK302 hb;  clear hb hbox hg; have hnb11 := NB304_302.out; have hnc11 := NB302_304.out; obtain ⟨hcz12_0, hcz12_1, hcz12_2, hcz12_3, hcz12_4, hcz12_5, hcz12_6, hfz12_0, hfz12_1, hfz12_2, hfz12_3, hfz12_4, hfz12_5, hfz12_6⟩ := bs7_ BK304) | ((with_reducible refine q72 (b := .append) (xs := #[.tmp 20, .tmp 22]) rfl ?_); at_builtin; refine Kd.R_append (Kd.int .i64) (w0 := w) w.heap.size rfl (.tmp 20) (.tmp 22) 27 3 (.int .i64 0) 8 rfl Try.underlying27 info3 rfl (by decide) (by omega) u5 x5_1 x11_1 [.int .i64 x11_1] (fun _ => True) (fun _ => False) rfl (by first | (go_simp; done) | (go_simp; rfl)) ?aP (fun _ hk => hk.elim) ?aF ?aO ?aB ?aS ?aL ?_; (case aP => exact rfl); (case aB => exact hf_); (case aF => exact (fun _ _ => trivial)); (case aO => exact (ra_ (Kd.R_mono (Kd.R_far (p := ⟨gb304, 6, none⟩) (Kd.R_far (p := ⟨gb304, 5, none⟩) (Kd.R_far (p := ⟨gb304, 4, none⟩) (Kd.R_far (p := ⟨gb304, 3, none⟩) (Kd.R_far (p := ⟨gb304, 2, none⟩) (Kd.R_far (p := ⟨gb304, 1, none⟩) (Kd.R_far (p := ⟨gb304, 0, none⟩) (Kd.R_types HO_5.out BK304.out (by decide)) (fun _ hk => hk.2) (.string ((q84 l0_1 x11_1).f0))) (fun _ hk => hk.2) (.int .i64 ((q84 l0_1 x11_1).f1))) (fun _ hk => hk.2) (.string ((q84 l0_1 x11_1).f2))) (fun _ hk => hk.2) (.bool ((q84 l0_1 x11_1).f3))) (fun _ hk => hk.2) (.int .i64 ((q84 l0_1 x11_1).f4))) (fun _ hk => hk.2) (.slice A303_5 ((q84 l0_1 x11_1).f5).length c303_5)) (fun _ hk => hk.2) (.slice A303_6 ((q84 l0_1 x11_1).f6).length c303_6)) (fun _ hk => trivial)))); (case aS => exact (q62 hf_)); (case aL => have := LMc9.out; omega); intro v306 w13 ho hb hg hat; rw [← Ny305.out] at ho; have n0_ := q59.mk (blk_grown (g := gb302) (o := .cells #[.slice A0_0 l0_0.length c0_0, .slice (some ad303) l0_1.length c0_1] 25 (0, 0)) (by (with_reducible repeat (first | refine q68 ?_ _ | refine q67 ?_ | refine q64 ?_ _)); refine q69 ?_ NB302_304.out _; (with_reducible repeat (first | refine q68 ?_ _ | refine q67 ?_ | refine q64 ?_ _)); refine q69 ?_ NB302_304.out _; (with_reducible repeat (first | refine q68 ?_ _ | refine q67 ?_ | refine q64 ?_ _)); refine q69 ?_ NB302_304.out _; (with_reducible repeat (first | refine q68 ?_ _ | refine q67 ?_ | refine q64 ?_ _)); refine q69 ?_ NB302_304.out _; (with_reducible repeat (first | refine q68 ?_ _ | refine q67 ?_ | refine q64 ?_ _)); refine q69 ?_ NB302_304.out _; (with_reducible repeat (first | refine q68 ?_ _ | refine q67 ?_ | refine q64 ?_ _)); refine q69 ?_ NB302_304.out _; (with_reducible repeat (first | refine q68 ?_ _ | refine q67 ?_ | refine q64 ?_ _)); refine q69 ?_ NB302_304.out _; (with_reducible repeat (first | refine q68 ?_ _ | refine q67 ?_ | refine q64 ?_ _)); exact BK302.out) hg (Kd.R_ne HO_5.out BK302.out (by decide))); have n1_ := q59.mk (blk_grown (g := gb304) (o := .cells #[.string ((q84 l0_1 x11_1).f0), .int .i64 ((q84 l0_1 x11_1).f1), .string ((q84 l0_1 x11_1).f2), .bool ((q84 l0_1 x11_1).f3), .int .i64 ((q84 l0_1 x11_1).f4), .slice A303_5 ((q84 l0_1 x11_1).f5).length c303_5, .slice A303_6 ((q84 l0_1 x11_1).f6).length c303_6] 41 (0, 0)) (by (with_reducible repeat (first | refine q68 ?_ _ | refine q67 ?_ | refine q64 ?_ _)); refine q71 (cs := #[.string ((q84 l0_1 x11_1).f0), .int .i64 ((q84 l0_1 x11_1).f1), .string ((q84 l0_1 x11_1).f2), .bool ((q84 l0_1 x11_1).f3), .int .i64 ((q84 l0_1 x11_1).f4), .slice A303_5 ((q84 l0_1 x11_1).f5).length c303_5, .slice none 0 0]) ?_ 6 _ rfl; (with_reducible repeat (first | refine q68 ?_ _ | refine q67 ?_ | refine q64 ?_ _)); refine q71 (cs := #[.string ((q84 l0_1 x11_1).f0), .int .i64 ((q84 l0_1 x11_1).f1), .string ((q84 l0_1 x11_1).f2), .bool ((q84 l0_1 x11_1).f3), .int .i64 ((q84 l0_1 x11_1).f4), .slice none 0 0, .slice none 0 0]) ?_ 5 _ rfl; (with_reducible repeat (first | refine q68 ?_ _ | refine q67 ?_ | refine q64 ?_ _)); refine q71 (cs := #[.string ((q84 l0_1 x11_1).f0), .int .i64 ((q84 l0_1 x11_1).f1), .string ((q84 l0_1 x11_1).f2), .bool ((q84 l0_1 x11_1).f3), .int .i64 0, .slice none 0 0, .slice none 0 0]) ?_ 4 _ rfl; (with_reducible repeat (first | refine q68 ?_ _ | refine q67 ?_ | refine q64 ?_ _)); refine q71 (cs := #[.string ((q84 l0_1 x11_1).f0), .int .i64 ((q84 l0_1 x11_1).f1), .string ((q84 l0_1 x11_1).f2), .bool false, .int .i64 0, .slice none 0 0, .slice none 0 0]) ?_ 3 _ rfl; (with_reducible repeat (first | refine q68 ?_ _ | refine q67 ?_ | refine q64 ?_ _)); refine q71 (cs := #[.string ((q84 l0_1 x11_1).f0), .int .i64 ((q84 l0_1 x11_1).f1), .string (⟨#[]⟩ : ByteArray), .bool false, .int .i64 0, .slice none 0 0, .slice none 0 0]) ?_ 2 _ rfl; (with_reducible repeat (first | refine q68 ?_ _ | refine q67 ?_ | refine q64 ?_ _)); refine q71 (cs := #[.string ((q84 l0_1 x11_1).f0), .int .i64 0, .string (⟨#[]⟩ : ByteArray), .bool false, .int .i64 0, .slice none 0 0, .slice none 0 0]) ?_ 1 _ rfl; (with_reducible repeat (first | refine q68 ?_ _ | refine q67 ?_ | refine q64 ?_ _)); refine q71 (cs := #[.string (⟨#[]⟩ : ByteArray), .int .i64 0, .string (⟨#[]⟩ : ByteArray), .bool false, .int .i64 0, .slice none 0 0, .slice none 0 0]) ?_ 0 _ rfl; (with_reducible repeat (first | refine q68 ?_ _ | refine q67 ?_ | refine q64 ?_ _)); exact BK304.out) hg (Kd.R_ne HO_5.out BK304.out (by decide))); have n2_ := q59.mk (hb); have n3_ := q59.mk (ho); clear BK302; clear BK304; clear HB; clear HO_5; have BK302 := n0_; have BK304 := n1_; have HB := n2_; have HO307 := n3_; clear n0_ n1_ n2_ n3_; clear ho hb hg hat))
        go_roundg k1
        case measure => have := HK1.out; omega
        case rel => exact ⟨(y305), (wrap64 (x11_1 + 1)), rf_, H', ⟨by have := HK1.out; omega⟩, ⟨ra_ HO307.out⟩, ⟨gx_ BK302⟩, ⟨hf_⟩⟩
       ·rw [if_neg c9] at H
        exact absurd H (by simp)
      ·rw [if_neg c8] at H
       have c8b0 : (((q84 l0_1 x11_1).f2).toList == a1.toList) = false := beq_eq_false_iff_ne.mpr c8
       have c8b1 : (((q84 l0_1 x11_1).f2).toList != a1.toList) = true := bne_iff_ne.mpr c8
       have H' := q59.mk H
       clear H
       obtain ⟨ad303, A303_5, c303_5, A303_6, c303_6, e303, hx303_0, hx303_1, hx303_2, hx303_3, hx303_4, hx303_5, hx303_6, HC303_5, HR303_5, HC303_6, HR303_6, p303, q303⟩ := au_T41 HR0_1 HB (x11_1)
       cases e303
       go_wp2_with (first | ((with_reducible refine q74 (N := 7) rfl ?_); refine bx_ 7 #[.string (⟨#[]⟩ : ByteArray), .int .i64 0, .string (⟨#[]⟩ : ByteArray), .bool false, .int .i64 0, .slice none 0 0, .slice none 0 0] 41 ?_; intro gb304 hg w14 hbox hb; replace HO_5 := q59.mk (Kd.R_below (ra_ HO_5.out) hb); have BK304 := q59.mk (hbox); have GW304 := zz_ (w := w) hg; have GE304 := zz_ (w := w) hg; replace HB := hb_ HB hb; have NB302_304 := ne1_ hg BK302; have NB304_302 := ne2_ hg BK302; replace BK302 := bb_ BK302 hb;  clear hb hbox hg; have hnb15 := NB304_302.out; have hnc15 := NB302_304.out; obtain ⟨hcz16_0, hcz16_1, hcz16_2, hcz16_3, hcz16_4, hcz16_5, hcz16_6, hfz16_0, hfz16_1, hfz16_2, hfz16_3, hfz16_4, hfz16_5, hfz16_6⟩ := bs7_ BK304))
       go_roundg k1
       case measure => have := HK1.out; omega
       case rel => exact ⟨(x5_1), (wrap64 (x11_1 + 1)), rf_, H', ⟨by have := HK1.out; omega⟩, ⟨ra_ (Kd.R_mono (Kd.R_far (p := ⟨gb304, 6, none⟩) (Kd.R_far (p := ⟨gb304, 5, none⟩) (Kd.R_far (p := ⟨gb304, 4, none⟩) (Kd.R_far (p := ⟨gb304, 3, none⟩) (Kd.R_far (p := ⟨gb304, 2, none⟩) (Kd.R_far (p := ⟨gb304, 1, none⟩) (Kd.R_far (p := ⟨gb304, 0, none⟩) (Kd.R_types HO_5.out BK304.out (by decide)) (fun _ hk => hk.2) (.string ((q84 l0_1 x11_1).f0))) (fun _ hk => hk.2) (.int .i64 ((q84 l0_1 x11_1).f1))) (fun _ hk => hk.2) (.string ((q84 l0_1 x11_1).f2))) (fun _ hk => hk.2) (.bool ((q84 l0_1 x11_1).f3))) (fun _ hk => hk.2) (.int .i64 ((q84 l0_1 x11_1).f4))) (fun _ hk => hk.2) (.slice A303_5 ((q84 l0_1 x11_1).f5).length c303_5)) (fun _ hk => hk.2) (.slice A303_6 ((q84 l0_1 x11_1).f6).length c303_6)) (fun _ hk => trivial))⟩, ⟨by (with_reducible repeat (first | refine q68 ?_ _ | refine q67 ?_ | refine q64 ?_ _)); refine q69 ?_ NB302_304.out _; (with_reducible repeat (first | refine q68 ?_ _ | refine q67 ?_ | refine q64 ?_ _)); refine q69 ?_ NB302_304.out _; (with_reducible repeat (first | refine q68 ?_ _ | refine q67 ?_ | refine q64 ?_ _)); refine q69 ?_ NB302_304.out _; (with_reducible repeat (first | refine q68 ?_ _ | refine q67 ?_ | refine q64 ?_ _)); refine q69 ?_ NB302_304.out _; (with_reducible repeat (first | refine q68 ?_ _ | refine q67 ?_ | refine q64 ?_ _)); refine q69 ?_ NB302_304.out _; (with_reducible repeat (first | refine q68 ?_ _ | refine q67 ?_ | refine q64 ?_ _)); refine q69 ?_ NB302_304.out _; (with_reducible repeat (first | refine q68 ?_ _ | refine q67 ?_ | refine q64 ?_ _)); refine q69 ?_ NB302_304.out _; (with_reducible repeat (first | refine q68 ?_ _ | refine q67 ?_ | refine q64 ?_ _)); exact BK302.out⟩, ⟨hf_⟩⟩
     ·rw [if_neg c7] at H
      exact absurd H (by simp)
    ·rw [if_neg c6] at H
     exact absurd H (by simp)
   ·rw [if_neg c5] at H
    replace c5 := decide_eq_false c5
    obtain rfl := Option.some.inj H
    go_wp2
    go_ret
    exact ⟨_, by first | rfl | (simp [errW_none, errW_some] <;> rfl) | (simp [*, errW_none, errW_some] <;> rfl), by (with_reducible repeat (first | apply Kd.R_alloc | apply Kd.R_drewN | apply Kd.R_drew)); exact HO_5.out, by repeat (first | (with_reducible first | exact HB.out | apply q60 | apply q78 | apply q61 | refine below_set ?_ GE302.out) | exact HB.out)⟩
def kidsX (l : List (S41)) (id : ByteArray) : Nat → List Int
 | 0 => []
 | i + 1 => kidsX l id i ++ (if ((q84 l (i : Int)).f2).toList = id.toList then [(i : Int)] else [])
theorem kidsX_len (l : List (S41)) (id : ByteArray) (i : Nat) : (kidsX l id i).length ≤ i := by
 induction i with
 | zero => simp [kidsX]
 | succ i ih => simp only [kidsX, List.length_append]; split <;> simp <;> omega
theorem kidsX_mem (l : List (S41)) (id : ByteArray) (i : Nat) : ∀ k ∈ kidsX l id i, 0 ≤ k ∧ k < i := by
  induction i with
  | zero => intro k hk; simp [kidsX] at hk
  | succ i ih =>
    intro k hk
    simp only [kidsX, List.mem_append] at hk
    rcases hk with hk | hk
    · have := ih k hk; omega
    · split at hk
      · rw [List.mem_singleton.1 hk]; omega
      · cases hk
theorem kids_go (l : List (S41)) (id : ByteArray) (hl : l.length ≤ 1000) (d : Nat) : ∀ (i k : Nat), i + d = l.length → d < k → q52.l0 k id (kidsX l id i) l (l.length : Int) (i : Int) = some (kidsX l id l.length) := by
  induction d with
  | zero =>
    intro i k hi hk
    obtain ⟨k, rfl⟩ : ∃ m, k = m + 1 := ⟨k - 1, by omega⟩
    obtain rfl : i = l.length := by omega
    simp only [q52.l0]
    rw [if_neg (by omega)]
  | succ d ih =>
    intro i k hi hk
    obtain ⟨k, rfl⟩ : ∃ m, k = m + 1 := ⟨k - 1, by omega⟩
    have hlen := kidsX_len l id i
    simp only [q52.l0]
    rw [if_pos (by omega), if_pos (by omega), if_pos (by omega)]
    have hw : wrap64 ((i : Int) + 1) = ((i + 1 : Nat) : Int) := by unfold wrap64; omega
    by_cases h : ((q84 l (i : Int)).f2).toList = id.toList
    · rw [if_pos h, if_pos (by omega), hw]
      have e : kidsX l id i ++ [(i : Int)] = kidsX l id (i + 1) := by simp only [kidsX]; rw [if_pos h]
      rw [e]
      exact ih (i + 1) k (by omega) (by omega)
    · rw [if_neg h, hw]
      have e : kidsX l id i = kidsX l id (i + 1) := by simp only [kidsX]; rw [if_neg h, List.append_nil]
      rw [e]
      exact ih (i + 1) k (by omega) (by omega)
theorem kids_call (c : Mc) (w0 w W : World) (id : ByteArray) (hm : Mm c w0) (hb : Below w0.heap.size w0 W) : Calls Try.prog 71 #[.agg #[.slice c.A0 c.fs.length c.c0, .slice c.A1 c.l.length c.c1], .string id] W fun e w' => ∃ A cc, e = .returned (.slice A (kidsX c.l id c.l.length).length cc) ∧ (kidsX c.l id c.l.length).length ≤ cc ∧ Kd.C (Kd.int .i64) w' A (kidsX c.l id c.l.length).length (kidsX c.l id c.l.length) ∧ (∀ ad, A = some ad → W.heap.size ≤ ad.block ∧ ad.block < w'.heap.size) ∧ Below W.heap.size W w' := by
 refine (q52.calls (c.l.length + 1) c.A0 c.c0 c.fs c.A1 c.c1 c.l id (kidsX c.l id c.l.length) W (hm.at hb).1 hm.2.1 (hm.at hb).2 hm.2.2.2.1 (kids_go c.l id hm.2.2.2.2.1 c.l.length 0 (c.l.length + 1) (by omega) (by omega))).mono ?_
 rintro e w' ⟨v, rfl, hR, hb'⟩
 obtain ⟨A, cc, rfl⟩ := Kd.R_slice hR
 have hrd := Kd.R_reads' hR
 exact ⟨A, cc, rfl, hrd.2.1, hrd.2.2, fun ad e => by subst e; exact ⟨Kd.R_base hR ad.block (by simp [Value.ownBlock]), Kd.R_lt hR ad.block (by simp [Value.ownBlock])⟩, hb'⟩
theorem C_stayX {α : Type} {enc : α → Value} {h1 : ∀ x, (enc x).oneCell' = true} {w w' : World} {A : Option Addr} {n : Nat} {xs : List α} (h : Kd.C (Kd.scalar enc h1) w A n xs) (hb : ∀ ad, A = some ad → w'.heap[ad.block]? = w.heap[ad.block]?) : Kd.C (Kd.scalar enc h1) w' A n xs := by
 obtain ⟨h1, h2, h3⟩ := h
 refine ⟨h1, h2, fun hp => ?_⟩
 obtain ⟨ad, rfl, hc⟩ := h3 hp
 refine ⟨ad, rfl, fun j p hj => ?_⟩
 obtain ⟨c, hl, hK, hcc⟩ := hc j p hj
 refine ⟨c, hl, hK, fun i u hu => ?_⟩
 have := hcc i u hu
 have hblk : ∀ m, (ad.add m).block = ad.block := fun m => by unfold Addr.add; split <;> rfl
 unfold World.cell? at this ⊢
 rw [hblk] at this ⊢
 rw [hb ad rfl]
 exact this
theorem Go_.C_int {g : Nat} {vr vr' : Value} {w w' : World} {A : Option Addr} {n : Nat} {xs : List Int} (h : Go_ g vr vr' w w') (hC : Kd.C (Kd.int .i64) w A n xs) (hA : ∀ ad, A = some ad → ad.block < w.heap.size ∧ ad.block ≠ g ∧ vr.ownBlock ≠ some ad.block) : Kd.C (Kd.int .i64) w' A n xs :=
 C_stayX hC (fun ad e => h.1.2 _ (hA ad e).1 (fun hh => hh.elim (hA ad e).2.1 (hA ad e).2.2))
def fourthR (c : Mc) (i : Nat) (k : Int) : S72 := ⟨4, [⟨flagF i 2, false⟩, ⟨passF c.la k 1, false⟩], [], [⟨passF c.la i 5, true⟩]⟩
def fourthL (c : Mc) (i : Nat) : List (S72) := if (q84 c.l (i : Int)).f1 = 1 then (kidsX c.l (q84 c.l (i : Int)).f0 c.l.length).map (fourthR c i) else []
set_option maxHeartbeats 8000000 in
set_option maxRecDepth 100000 in
theorem fourth_any (c : Mc) (w0 w : World) (g : Nat) (vr : Value) (rs : List (S72)) (i : Nat) (hM : Mr c w0 w g vr rs) (hm : Mm c w0) (hi : i < c.l.length) (hlim : rs.length ≤ 90000) :
 Calls Try.prog 31 #[.pointer (some ⟨g, 0, none⟩), .int .i64 i] w (RulePost c w0 w g vr (rs ++ fourthL c i)) := by
 have hu25 := Try.underlying25
 have hu58 := Try.underlying58
 have hu41 := Try.underlying41
 have hml := hm.2.2.2.2.1
 have hla := hm.2.2.2.2.2.1
 have HMM := Lib.hid hm
 have hcz0 : w.cell? ⟨g, 0, none⟩ = some (.slice c.A0 c.fs.length c.c0) := (q66 hM.2.2.1 0).trans rfl
 have hcz1 : w.cell? ⟨g, 1, none⟩ = some (.slice c.A1 c.l.length c.c1) := (q66 hM.2.2.1 1).trans rfl
 obtain ⟨ad, A5, c5, A6, c6, e, x0, x1, -⟩ := at_T41 (hm.at hM.1).2 (i : Int) (by omega) (by omega)
 simp only [Int.toNat_natCast] at x0 x1
 have hK : ∀ W, Below w.heap.size w W → _ := fun W hb => kids_call c w0 w W (q84 c.l (i : Int)).f0 hm (q63 hM.1 hM.1.size hb)
 obtain ⟨A1, hA1⟩ : ∃ A1, A1 = c.A1 := ⟨_, rfl⟩
 rw [← hA1] at hcz1 hK e
 cases e
 obtain ⟨n, hn⟩ : ∃ n, n = c.l.length := ⟨_, rfl⟩
 obtain ⟨nf, hnf⟩ : ∃ nf, nf = c.fs.length := ⟨_, rfl⟩
 rw [← hnf] at hcz0 hK
 obtain ⟨ks, hks⟩ : ∃ ks, ks = kidsX c.l (q84 c.l (i : Int)).f0 c.l.length := ⟨_, rfl⟩
 have hkl : ks.length ≤ 1000 := by rw [hks]; have := kidsX_len c.l (q84 c.l (i : Int)).f0 c.l.length; omega
 have hkm : ∀ k ∈ ks, 0 ≤ k ∧ k ≤ 1000 := by rw [hks]; intro k hk; have := kidsX_mem _ _ _ k hk; omega
 rw [← hks] at hK
 rw [← hn] at hcz1 hi hml hK
 have hlt : (i : Int) < (n : Int) := by omega
 obtain ⟨R, hR⟩ : ∃ R, R = fourthL c i := ⟨_, rfl⟩
 rw [← hR]
 unfold fourthL at hR
 rw [← hks] at hR
 obtain ⟨kd, hk⟩ : ∃ kd, kd = (q84 c.l (i : Int)).f1 := ⟨_, rfl⟩
 rw [← hk] at x1 hR
 obtain ⟨id, hid⟩ : ∃ id, id = (q84 c.l (i : Int)).f0 := ⟨_, rfl⟩
 rw [← hid] at x0 hK
 have HM := Lib.hid hM
 have HR := Lib.hid hR
 have HK := Lib.hid hK
 have HKM := Lib.hid hkm
 clear hM hm hn hnf hks hR hk hA1 hid hkm hK
 by_cases hk1 : kd = 1
 case neg =>
  have hkb : (kd == 1) = false := beq_eq_false_iff_ne.mpr hk1
  have HN : Hid (R = []) := Lib.hid (by rw [HR.out, if_neg hk1])
  go_enter Try.func31, Try.ntmps31
  go_wp2
  refine bodyPost_ret (results_none rfl _ _ _) rfl ?_
  rw [HN.out, List.append_nil]
  exact ⟨rfl, vr, HM.out, Go_.refl⟩
 have HP : Hid (R = ks.map (fourthR c i)) := Lib.hid (by rw [HR.out, if_pos hk1])
 subst hk1
 have hgw := HM.out.lt
 have howr : ∀ k, vr.ownBlock = some k → k < w.heap.size := fun k e => Kd.R_lt HM.out.2.2.2 k e
 have HOW := Lib.hid howr
 go_enter Try.func31, Try.ntmps31
 go_wp2
 have hS : (w.cell? ⟨g, 0, none⟩ = some (.slice c.A0 nf c.c0) ∧ w.cell? ⟨g, 1, none⟩ = some (.slice (some ad) n c.c1) ∧ w.cell? (ad.add (i * 7)) = some (.string id)) ∧ Below w.heap.size w w.drew := ⟨⟨hcz0, hcz1, x0⟩, q61 (Below.refl _ _)⟩
 refine st_ (fun w' => (w'.cell? ⟨g, 0, none⟩ = some (.slice c.A0 nf c.c0) ∧ w'.cell? ⟨g, 1, none⟩ = some (.slice (some ad) n c.c1) ∧ w'.cell? (ad.add (i * 7)) = some (.string id)) ∧ Below w.heap.size w w') 16 hS (fun hHeld => ?_)
 clear hS hcz0 hcz1 x0 x1 howr
 refine pu_ 0 (some 16) ?_
 refine pu_ 1 (some 17) ?_
 refine pu_ 2 (some 18) ?_
 refine tk_ 3 (some 19) hHeld ?_ (hy := by rintro w' ⟨⟨s0, s1, s2⟩, -⟩; go_simp; with_reducible rfl)
 refine pu_ 4 (some 20) ?_
 refine pu_ 5 (some 21) ?_
 refine pu_ 6 (some 22) ?_
 refine pu_ 7 (some 23) ?_
 refine tk_ 8 (some 24) hHeld ?_ (hy := by rintro w' ⟨⟨s0, s1, s2⟩, -⟩; go_simp; with_reducible rfl)
 refine pu_ 9 (some 25) ?_
 refine pu_ 10 (some 26) ?_
 refine pu_ 11 (some 27) ?_
 refine tk_ 12 (some 28) hHeld ?_ (hy := by rintro w' ⟨⟨s0, s1, s2⟩, -⟩; go_simp; with_reducible rfl)
 refine pu_ 15 (some 31) ?_
 refine ca_ 13 (some 29) Try.func71 #[.agg #[.slice c.A0 nf c.c0, .slice (some ad) n c.c1], .string id] ?_
 refine (HK.out _ hHeld.2).mono ?_
 rintro e w1 ⟨Ak, ck, rfl, hck, hCk, hAk, hb1⟩
 refine ⟨_, rfl, ⟨⟨q76 hb1 hHeld.1.1, q76 hb1 hHeld.1.2.1, q76 hb1 hHeld.1.2.2⟩, q75 hb1 hHeld.2⟩, fun hHeld2 => ⟨_, rfl, nz_ (some 29) ?_⟩⟩
 refine pu_ 14 (some 30) ?_
 refine dn_ ?_
 have HB1 := Lib.hid hHeld2.2
 have HCK := Lib.hid hCk
 have HAK : Hid (∀ ad, Ak = some ad → ad.block < w1.heap.size ∧ ad.block ≠ g ∧ vr.ownBlock ≠ some ad.block) := Lib.hid (fun ad e => by
  have h1 := hAk ad e
  have h2 : w.heap.size ≤ w.drew.heap.size := Nat.le_refl _
  have h3 : w.drew.heap.size = w.heap.size := rfl
  exact ⟨h1.2, by omega, fun e2 => by have := HOW.out _ e2; omega⟩)
 obtain ⟨nk, hnk⟩ : ∃ nk, nk = ks.length := ⟨_, rfl⟩
 have HNK := Lib.hid hnk
 rw [← hnk] at hkl ⊢
 clear hHeld hHeld2 hb1 hAk hCk hck hnk HK
 go_wp2
 go_loopg [31] nk (fun gg s31 wr => ∃ (q : Nat) (vr' : Value), s31 = .int .i64 q ∧ q ≤ nk ∧ nk - q ≤ gg ∧ Hid (Mr c w0 wr g vr' (rs ++ (ks.take q).map (fourthR c i)) ∧ Go_ g vr vr' w wr ∧ Go_ g vr vr' w1 wr))
 case atStart => exact ⟨0, vr, rfl, Nat.zero_le _, by omega, Lib.hid ⟨by simpa using HM.out.below HB1.out, Go_.below Go_.refl HB1.out, Go_.refl⟩⟩
 case round =>
  obtain ⟨q, vq, rfl, hqk, hqg, Y⟩ := hrel
  obtain ⟨wO, rfl⟩ : ∃ wO, wO = wr := ⟨_, rfl⟩
  by_cases hlq : q < nk
  case neg =>
   obtain rfl : q = nk := by omega
   have hlz : ¬ (q : Int) < (q : Int) := by omega
   have HE : Hid ((ks.take q).map (fourthR c i) = R) := Lib.hid (by rw [HP.out, List.take_of_length_le (by have := HNK.out; omega)])
   go_wp2
   refine bodyPost_end (results_none rfl _ _ _) rfl ?_
   exact ⟨rfl, vq, HE.out ▸ Y.out.1, Y.out.2.1⟩
  have hlz : (q : Int) < (nk : Int) := by omega
  have hqs : q < ks.length := by have := HNK.out; omega
  obtain ⟨adk, e, y0⟩ := Kd.at_int (Y.out.2.2.C_int HCK.out HAK.out) (q : Int) (by omega) (by omega)
  cases e
  simp only [Int.toNat_natCast] at y0
  obtain ⟨kv, hkv⟩ : ∃ kv, kv = rd ks (q : Int) := ⟨_, rfl⟩
  have hkq : kv = ks[q] := by rw [hkv]; simp [rd, List.getD_eq_getElem?_getD, List.getElem?_eq_getElem hqs]
  rw [← hkv] at y0
  have hkb := HKM.out kv (by rw [hkq]; exact List.getElem_mem hqs)
  have HTS : Hid ((ks.take (q + 1)).map (fourthR c i) = (ks.take q).map (fourthR c i) ++ [fourthR c i kv]) := Lib.hid (by rw [List.take_succ_eq_append_getElem hqs, List.map_append, hkq]; rfl)
  have HM := Lib.hid Y.out.1
  have HY := Lib.hid Y.out.2
  have HB := Lib.hid (Below.refl wO.heap.size wO)
  have hlim : (rs ++ (ks.take q).map (fourthR c i)).length ≤ 100000 := by rw [List.length_append, List.length_map, List.length_take]; omega
  clear Y hkv hkq
  have hp := pass_any c wO g i 5 (HM.out.below HB.out).mg hla (by omega) (by omega)
  go_wp2_with fail
  refine hp.mono ?_
  rintro e v1_ ⟨rfl, rfl⟩
  clear hp
  go_wp2_with fail
  refine (puts1_call (passF c.la i 5) v1_).mono ?_
  rintro e v2_ ⟨A2, c2, rfl, hR2, hb⟩
  have HR2 := Lib.hid hR2
  have HS2 := Lib.hid (Nat.le_succ_of_le HB.out.size)
  clear hR2
  have HB := Lib.hid (q63 HB.out HB.out.size hb)
  clear hb
  have hp := flag_call i 2 v2_ (by omega) (by omega)
  go_wp2_with fail
  refine hp.mono ?_
  rintro e v3_ ⟨rfl, hb⟩
  clear hp
  have HB := Lib.hid (q63 HB.out HB.out.size hb)
  have HR2 := Lib.hid (Kd.R_below HR2.out hb)
  clear hb
  have hp := up_call (flagF i 2) v3_
  go_wp2_with fail
  refine hp.mono ?_
  rintro e v4_ ⟨rfl, hb⟩
  clear hp
  have HB := Lib.hid (q63 HB.out HB.out.size hb)
  have HR2 := Lib.hid (Kd.R_below HR2.out hb)
  clear hb
  have hp := pass_any c v4_ g kv 1 (HM.out.below HB.out).mg hla (by omega) (by omega)
  go_wp2_with fail
  refine hp.mono ?_
  rintro e v5_ ⟨rfl, rfl⟩
  clear hp
  have hp := up_call (passF c.la kv 1) v5_
  go_wp2_with fail
  refine hp.mono ?_
  rintro e v6_ ⟨rfl, hb⟩
  clear hp
  have HB := Lib.hid (q63 HB.out HB.out.size hb)
  have HR2 := Lib.hid (Kd.R_below HR2.out hb)
  clear hb
  have hlit := lits_row v6_ [⟨flagF i 2, false⟩, ⟨passF c.la kv 1, false⟩] (by simp)
  have hb8 := q60 HB.out (.cells (litCells [⟨flagF i 2, false⟩, ⟨passF c.la kv 1, false⟩]).toArray 93)
  have hru := HM.out.rule 4 hb8 (Kd.R_alloc HR2.out _) HS2.out hlit HB.out.size rfl rfl hlim
  go_wp2_with fail
  refine hru.mono ?_
  rintro e v7_ ⟨rfl, vr', h1, h2⟩
  have HM := Lib.hid h1
  have HG := Lib.hid h2
  have HB := Lib.hid (Below.refl v7_.heap.size v7_)
  clear hlit hb8 hru h1 h2 HR2 HS2
  go_wp2
  go_roundg (nk - (q + 1))
  case measure => omega
  case rel => exact ⟨q + 1, vr', by go_num, by omega, Nat.le_refl _, Lib.hid ⟨by rw [HTS.out, ← List.append_assoc]; exact HM.out, HY.out.1.then_ HG.out, HY.out.2.then_ HG.out⟩⟩
end Go.Proofs.Yteddgedacjdjgaa.Pm
end
