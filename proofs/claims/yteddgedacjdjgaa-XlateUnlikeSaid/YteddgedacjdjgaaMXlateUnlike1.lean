/- Walks and plain laws on the way to the law XlateUnlike: several texts of this workplace and of the kit's printer, merged; what is not used is struck, by a program. No condition. -/
import Derived.Test.YteddgedacjdjgaaMXlateUnlike0
import Derived.Lib.Hide
import Derived.Shelf.Abstract
import Derived.Deep.RegionHeld3
import Derived.Outline
section
namespace Go.Proofs.Yteddgedacjdjgaa.Pm
open Go.RowKit Go.Proofs.YteddgedacjdjgaaW.PrintWords Go.Proofs.YteddgedacjdjgaaW.PrintLast Go.Proofs.YteddgedacjdjgaaW.PrintMore
attribute [local go_sem] max2_int min2_int max_two min_two max_three min_three max_four min_four   -- for this text's walks alone
set_option linter.unusedVariables false
set_option linter.unusedSimpArgs false
def q13.l0 : Nat → List (S41) → List (S41) → Int → Option (Bool)
 | 0, _, _, _ => none
 | k + 1, x0, x1, x5 => if x5 < (x0.length : Int) then (if 0 ≤ x5 then (if x5 < (x1.length : Int) then ((q15.f k ((q81 x0 x5).f0) ((q81 x0 x5).f1) ((q81 x0 x5).f2) ((q81 x0 x5).f3) ((q81 x0 x5).f4) ((q81 x0 x5).f5) ((q81 x0 x5).f6) ((q81 x1 x5).f0) ((q81 x1 x5).f1) ((q81 x1 x5).f2) ((q81 x1 x5).f3) ((q81 x1 x5).f4) ((q81 x1 x5).f5) ((q81 x1 x5).f6)).bind fun t177 => (if t177 = true then (q13.l0 k x0 x1 (wrap64 (x5 + 1))) else (some false))) else (none)) else (none)) else (some true)
def q13.f (k : Nat) (l0 : List (S41)) (l1 : List (S41)) : Option (Bool) := if (l0.length : Int) = (l1.length : Int) then (q13.l0 k l0 l1 0) else (some false)
theorem q13.mono_l : ∀ k, (∀ y0 y1 y2, LeO (q13.l0 k y0 y1 y2) (q13.l0 (k + 1) y0 y1 y2))
 | 0 => fun _ _ _ r h => by simp [q13.l0] at h
 | k + 1 => by
  have ih0 := q13.mono_l k
  ·intro y0 y1 y2
   unfold q13.l0
   repeat' first
   | (with_reducible exact ih0 _ _ _)
   | (with_reducible exact q15.mono _ _ _ _ _ _ _ _ _ _ _ _ _ _ _)
   | (with_reducible exact LeO.refl _)
   | (with_reducible exact LeO.none _)
   | (with_reducible refine LeO.ite ?_ ?_)
   | (with_reducible refine LeO.bind ?_ (fun _ => ?_))
   | exact ih0 _ _ _
   | exact q15.mono _ _ _ _ _ _ _ _ _ _ _ _ _ _ _
   | exact LeO.none _
   | refine LeO.ite ?_ ?_
   | refine LeO.bind ?_ (fun _ => ?_)
theorem q13.mono : ∀ a0 a1 k, LeO (q13.f k a0 a1) (q13.f (k + 1) a0 a1) := by
 intro a0 a1 k
 have ih0 := q13.mono_l k
 unfold q13.f
 repeat' first
  | (with_reducible exact ih0 _ _ _)
  | (with_reducible exact q15.mono _ _ _ _ _ _ _ _ _ _ _ _ _ _ _)
  | (with_reducible exact LeO.refl _)
  | (with_reducible exact LeO.none _)
  | (with_reducible refine LeO.ite ?_ ?_)
  | (with_reducible refine LeO.bind ?_ (fun _ => ?_))
  | exact ih0 _ _ _
  | exact q15.mono _ _ _ _ _ _ _ _ _ _ _ _ _ _ _
  | exact LeO.none _
  | refine LeO.ite ?_ ?_
  | refine LeO.bind ?_ (fun _ => ?_)
def q13.T6 : Bool × List (List Nat × List Nat) := (true, [([], []), ([], []), ([0, 1], [0, 1]), ([2], [2]), ([], []), ([], []), ([4, 5], [4, 5]), ([6], [6]), ([3, 7], [3, 7]), ([8], [8])])
def q13.B6 : List Nat := [0, 0, 3, 7, 0, 0, 48, 112, 255, 511]
theorem q13.tab6 : rtab .any (opsOf Try.f42 6) = q13.T6 := by kernel_rfl
theorem q13.bits6 : waitsOk q13.T6.2 q13.B6 = true := by kernel_rfl
set_option maxHeartbeats 8000000 in
set_option maxRecDepth 100000 in
theorem q13.calls (k : Nat) (A0 : Option Addr) (c0 : Nat) (l0 : List (S41)) (A1 : Option Addr) (c1 : Nat) (l1 : List (S41)) (r : Bool) (w : World) (hr0 : Kd.C k41 w A0 l0.length l0) (hc0 : l0.length ≤ c0) (hr1 : Kd.C k41 w A1 l1.length l1) (hc1 : l1.length ≤ c1) (h : q13.f k l0 l1 = some r) :
 Calls Try.prog 42 #[.slice A0 l0.length c0, .slice A1 l1.length c1] w fun e w' => e = .returned (.bool r) ∧ Below w.heap.size w w' := by
 have hu41 := Try.underlying41
 have HR0 := q56.mk hr0
 have HC0 := q56.mk hc0
 clear hr0 hc0
 have HR1 := q56.mk hr1
 have HC1 := q56.mk hc1
 clear hr1 hc1
 have HB := q56.mk (Below.refl w.heap.size w)
 unfold q13.f at h
 have H := h
 clear h
 by_cases c3 : (l0.length : Int) = (l1.length : Int)
 rotate_left
 ·rw [if_neg c3] at H
  have c3b0 : ((l0.length : Int) == (l1.length : Int)) = false := beq_eq_false_iff_ne.mpr c3
  have c3b1 : ((l0.length : Int) != (l1.length : Int)) = true := bne_iff_ne.mpr c3
  have c3b2 : (l0.length == l1.length) = false := by first | simpa using c3 | (simp at c3 ⊢; omega)
  obtain rfl := Option.some.inj H
  go_enter Try.func42, Try.ntmps42
  go_wp2
  go_ret
  exact ⟨er_, hf_⟩
 rw [if_pos c3] at H
 have c3b0 : ((l0.length : Int) == (l1.length : Int)) = true := beq_iff_eq.mpr c3
 have c3b1 : ((l0.length : Int) != (l1.length : Int)) = false := bne_eq_false_iff_eq.mpr c3
 have c3b2 : (l0.length == l1.length) = true := by first | simpa using c3 | (simp at c3 ⊢; omega)
 clear c3
 have H' := q56.mk H
 clear H
 go_enter Try.func42, Try.ntmps42
 go_wp2
 go_loopg [5] k (fun kq v5 w' => ∃ (x5_1 : Int), v5 = .int .i64 x5_1 ∧ q56 (q13.l0 kq l0 l1 x5_1 = some r) ∧ q56 (kq ≤ k) ∧ q56 (Below w.heap.size w w'))
 case atStart => exact ⟨(0), rf_, H', ⟨Nat.le_refl _⟩, ⟨hf_⟩⟩
 case round =>
 clear H'
 clear c3b0 c3b1 c3b2
 obtain ⟨x5_1, rfl, HA, HK1, HB⟩ := hrel
 cases gk with
 | zero => exact absurd HA.out (by simp [q13.l0])
 | succ k1 =>
 have H := HA.out
 clear HA
 simp only [q13.l0] at H
 by_cases c4 : x5_1 < (l0.length : Int)
 rotate_left
 ·rw [if_neg c4] at H
  replace c4 := decide_eq_false c4
  obtain rfl := Option.some.inj H
  go_wp2
  go_ret
  exact ⟨er_, hf_⟩
 rw [if_pos c4] at H
 replace c4 := decide_eq_true c4
 by_cases c5 : 0 ≤ x5_1
 rotate_left
 ·rw [if_neg c5] at H
  exact absurd H (by simp)
 rw [if_pos c5] at H
 replace c5 := decide_eq_true c5
 by_cases c6 : x5_1 < (l1.length : Int)
 rotate_left
 ·rw [if_neg c6] at H
  exact absurd H (by simp)
 rw [if_pos c6] at H
 replace c6 := decide_eq_true c6
 replace H := bd_ H
 obtain ⟨t177, A7, H⟩ := H
 by_cases c8 : t177 = true
 ·subst c8
  replace H := it_ H
  have H' := q56.mk H
  clear H
  try go_wp2
  replace HB := q56.mk (q58 HB.out)
  have p175 : 0 ≤ (x5_1 : Int) := od_
  have q175 : x5_1 < (l0.length : Int) := od_
  obtain ⟨ad175, A175_5, c175_5, A175_6, c175_6, e175, hx175_0, hx175_1, hx175_2, hx175_3, hx175_4, hx175_5, hx175_6, hl175_5, hi175_5, hl175_6, hi175_6⟩ := at_T41 HR0.out x5_1 p175 q175
  have hw175_6 := hx175_6
  have hw175_5 := hx175_5
  have hw175_4 := hx175_4
  have hw175_3 := hx175_3
  have hw175_2 := hx175_2
  have hw175_1 := hx175_1
  have hw175_0 := hx175_0
  cases e175
  replace hx175_0 := rr_ HB hx175_0
  replace hx175_1 := rr_ HB hx175_1
  replace hx175_2 := rr_ HB hx175_2
  replace hx175_3 := rr_ HB hx175_3
  replace hx175_4 := rr_ HB hx175_4
  replace hx175_5 := rr_ HB hx175_5
  replace hx175_6 := rr_ HB hx175_6
  have HR175_5 := q56.mk hi175_5
  have HC175_5 := q56.mk hl175_5
  clear hi175_5 hl175_5
  have HR175_6 := q56.mk hi175_6
  have HC175_6 := q56.mk hl175_6
  clear hi175_6 hl175_6
  replace p175 := eq_true p175
  replace q175 := eq_true q175
  have p176 : 0 ≤ (x5_1 : Int) := od_
  have q176 : x5_1 < (l1.length : Int) := od_
  obtain ⟨ad176, A176_5, c176_5, A176_6, c176_6, e176, hx176_0, hx176_1, hx176_2, hx176_3, hx176_4, hx176_5, hx176_6, hl176_5, hi176_5, hl176_6, hi176_6⟩ := at_T41 HR1.out x5_1 p176 q176
  have hw176_6 := hx176_6
  have hw176_5 := hx176_5
  have hw176_4 := hx176_4
  have hw176_3 := hx176_3
  have hw176_2 := hx176_2
  have hw176_1 := hx176_1
  have hw176_0 := hx176_0
  cases e176
  replace hx176_0 := rr_ HB hx176_0
  replace hx176_1 := rr_ HB hx176_1
  replace hx176_2 := rr_ HB hx176_2
  replace hx176_3 := rr_ HB hx176_3
  replace hx176_4 := rr_ HB hx176_4
  replace hx176_5 := rr_ HB hx176_5
  replace hx176_6 := rr_ HB hx176_6
  have HR176_5 := q56.mk hi176_5
  have HC176_5 := q56.mk hl176_5
  clear hi176_5 hl176_5
  have HR176_6 := q56.mk hi176_6
  have HC176_6 := q56.mk hl176_6
  clear hi176_6 hl176_6
  replace p176 := eq_true p176
  replace q176 := eq_true q176
  refine start_ (n := 10) (S := fun w' => w'.cell? (ad175.add ((x5_1).toNat * 7)) = some (.string ((q81 l0 x5_1).f0)) ∧ w'.cell? ⟨(ad175.add ((x5_1).toNat * 7)).block, (ad175.add ((x5_1).toNat * 7)).off + 1, none⟩ = some (.int .i64 ((q81 l0 x5_1).f1)) ∧ w'.cell? ⟨(ad175.add ((x5_1).toNat * 7)).block, (ad175.add ((x5_1).toNat * 7)).off + 2, none⟩ = some (.string ((q81 l0 x5_1).f2)) ∧ w'.cell? ⟨(ad175.add ((x5_1).toNat * 7)).block, (ad175.add ((x5_1).toNat * 7)).off + 3, none⟩ = some (.bool ((q81 l0 x5_1).f3)) ∧ w'.cell? ⟨(ad175.add ((x5_1).toNat * 7)).block, (ad175.add ((x5_1).toNat * 7)).off + 4, none⟩ = some (.int .i64 ((q81 l0 x5_1).f4)) ∧ w'.cell? ⟨(ad175.add ((x5_1).toNat * 7)).block, (ad175.add ((x5_1).toNat * 7)).off + 5, none⟩ = some (.slice A175_5 ((q81 l0 x5_1).f5).length c175_5) ∧ w'.cell? ⟨(ad175.add ((x5_1).toNat * 7)).block, (ad175.add ((x5_1).toNat * 7)).off + 6, none⟩ = some (.slice A175_6 ((q81 l0 x5_1).f6).length c175_6) ∧ w'.cell? (ad176.add ((x5_1).toNat * 7)) = some (.string ((q81 l1 x5_1).f0)) ∧ w'.cell? ⟨(ad176.add ((x5_1).toNat * 7)).block, (ad176.add ((x5_1).toNat * 7)).off + 1, none⟩ = some (.int .i64 ((q81 l1 x5_1).f1)) ∧ w'.cell? ⟨(ad176.add ((x5_1).toNat * 7)).block, (ad176.add ((x5_1).toNat * 7)).off + 2, none⟩ = some (.string ((q81 l1 x5_1).f2)) ∧ w'.cell? ⟨(ad176.add ((x5_1).toNat * 7)).block, (ad176.add ((x5_1).toNat * 7)).off + 3, none⟩ = some (.bool ((q81 l1 x5_1).f3)) ∧ w'.cell? ⟨(ad176.add ((x5_1).toNat * 7)).block, (ad176.add ((x5_1).toNat * 7)).off + 4, none⟩ = some (.int .i64 ((q81 l1 x5_1).f4)) ∧ w'.cell? ⟨(ad176.add ((x5_1).toNat * 7)).block, (ad176.add ((x5_1).toNat * 7)).off + 5, none⟩ = some (.slice A176_5 ((q81 l1 x5_1).f5).length c176_5) ∧ w'.cell? ⟨(ad176.add ((x5_1).toNat * 7)).block, (ad176.add ((x5_1).toNat * 7)).off + 6, none⟩ = some (.slice A176_6 ((q81 l1 x5_1).f6).length c176_6)) (ds := []) (bits_ 10 0) (by kernel_rfl) rfl rfl ⟨(rr_ HB hw175_0 :), (rr_ HB hw175_1 :), (rr_ HB hw175_2 :), (rr_ HB hw175_3 :), (rr_ HB hw175_4 :), (rr_ HB hw175_5 :), (rr_ HB hw175_6 :), (rr_ HB hw176_0 :), (rr_ HB hw176_1 :), (rr_ HB hw176_2 :), (rr_ HB hw176_3 :), (rr_ HB hw176_4 :), (rr_ HB hw176_5 :), (rr_ HB hw176_6 :)⟩ (fun hHeld => ?_); refine with_tabW q13.tab6 q13.bits6 (fun HT_ HW_ => ?_)
  generalize wr.drew = w9 at HB HR175_5 HR175_6 HR176_5 HR176_6 hx175_0 hx175_1 hx175_2 hx175_3 hx175_4 hx175_5 hx175_6 hx176_0 hx176_1 hx176_2 hx176_3 hx176_4 hx176_5 hx176_6 hHeld ⊢
  refine pz_ 0 (some 17) (bits_ 10 1) HT_.out ?_
  refine pz_ 1 (some 18) (bits_ 10 3) HT_.out ?_
  refine pz_ 2 (some 19) (bits_ 10 7) HT_.out ?_
  refine pz_ 4 (some 21) (bits_ 10 23) HT_.out ?_
  refine pz_ 5 (some 22) (bits_ 10 55) HT_.out ?_
  refine pz_ 6 (some 23) (bits_ 10 119) HT_.out ?_
  refine tz_ 3 (some 20) (bits_ 10 127) HT_.out HW_.out hHeld ?_ (hy := by rintro w' ⟨s0, s1, s2, s3, s4, s5, s6, s7, s8, s9, s10, s11, s12, s13⟩; go_simp; with_reducible rfl)
  refine tz_ 7 (some 24) (bits_ 10 255) HT_.out HW_.out hHeld ?_ (hy := by rintro w' ⟨s0, s1, s2, s3, s4, s5, s6, s7, s8, s9, s10, s11, s12, s13⟩; go_simp; with_reducible rfl)
  refine oz_ 8 (some 25) (bits_ 10 511) HT_.out (fun K hK => ?_)
  refine go_s_ Try.func78 #[.agg #[.string ((q81 l0 x5_1).f0), .int .i64 ((q81 l0 x5_1).f1), .string ((q81 l0 x5_1).f2), .bool ((q81 l0 x5_1).f3), .int .i64 ((q81 l0 x5_1).f4), .slice A175_5 ((q81 l0 x5_1).f5).length c175_5, .slice A175_6 ((q81 l0 x5_1).f6).length c175_6], .agg #[.string ((q81 l1 x5_1).f0), .int .i64 ((q81 l1 x5_1).f1), .string ((q81 l1 x5_1).f2), .bool ((q81 l1 x5_1).f3), .int .i64 ((q81 l1 x5_1).f4), .slice A176_5 ((q81 l1 x5_1).f5).length c176_5, .slice A176_6 ((q81 l1 x5_1).f6).length c176_6]] ?_
  with_reducible refine (q15.calls k1 ((q81 l0 x5_1).f0) ((q81 l0 x5_1).f1) ((q81 l0 x5_1).f2) ((q81 l0 x5_1).f3) ((q81 l0 x5_1).f4) _ _ ((q81 l0 x5_1).f5) _ _ ((q81 l0 x5_1).f6) ((q81 l1 x5_1).f0) ((q81 l1 x5_1).f1) ((q81 l1 x5_1).f2) ((q81 l1 x5_1).f3) ((q81 l1 x5_1).f4) _ _ ((q81 l1 x5_1).f5) _ _ ((q81 l1 x5_1).f6) true _ ?side1 ?side2 ?side3 ?side4 ?side5 ?side6 ?side7 ?side8 A7.out).mono ?_
  (case side1 => exact kc_ HR175_5 HB)
  (case side2 => exact HC175_5.out)
  (case side3 => exact kc_ HR175_6 HB)
  (case side4 => exact HC175_6.out)
  (case side5 => exact kc_ HR176_5 HB)
  (case side6 => exact HC176_5.out)
  (case side7 => exact kc_ HR176_6 HB)
  (case side8 => exact HC176_6.out)
  rintro e w10 ⟨rfl, hb⟩
  refine ⟨_, rfl, ?_⟩
  replace HB := hb_ HB hb
  clear hb
  refine hK.out _ _ ⟨(rr_ HB hw175_0 :), (rr_ HB hw175_1 :), (rr_ HB hw175_2 :), (rr_ HB hw175_3 :), (rr_ HB hw175_4 :), (rr_ HB hw175_5 :), (rr_ HB hw175_6 :), (rr_ HB hw176_0 :), (rr_ HB hw176_1 :), (rr_ HB hw176_2 :), (rr_ HB hw176_3 :), (rr_ HB hw176_4 :), (rr_ HB hw176_5 :), (rr_ HB hw176_6 :)⟩ (fun hHeld => ?_)
  clear hK K
  refine nz_ (some 25) ?_
  refine pz_ 9 (some 26) (bits_ 10 1023) HT_.out ?_
  refine done_ (done_of HT_.out (by kernel_rfl)) ?_
  try go_wp2
  go_roundg k1
  case measure => have := HK1.out; omega
  case rel => exact ⟨(wrap64 (x5_1 + 1)), rf_, H', ⟨by have := HK1.out; omega⟩, ⟨hf_⟩⟩
 replace c8 := Bool.eq_false_iff.mpr c8
 subst c8
 replace H := ie_ H
 obtain rfl := Option.some.inj H
 try go_wp2
 replace HB := q56.mk (q58 HB.out)
 have p175 : 0 ≤ (x5_1 : Int) := od_
 have q175 : x5_1 < (l0.length : Int) := od_
 obtain ⟨ad175, A175_5, c175_5, A175_6, c175_6, e175, hx175_0, hx175_1, hx175_2, hx175_3, hx175_4, hx175_5, hx175_6, hl175_5, hi175_5, hl175_6, hi175_6⟩ := at_T41 HR0.out x5_1 p175 q175
 have hw175_6 := hx175_6
 have hw175_5 := hx175_5
 have hw175_4 := hx175_4
 have hw175_3 := hx175_3
 have hw175_2 := hx175_2
 have hw175_1 := hx175_1
 have hw175_0 := hx175_0
 cases e175
 replace hx175_0 := rr_ HB hx175_0
 replace hx175_1 := rr_ HB hx175_1
 replace hx175_2 := rr_ HB hx175_2
 replace hx175_3 := rr_ HB hx175_3
 replace hx175_4 := rr_ HB hx175_4
 replace hx175_5 := rr_ HB hx175_5
 replace hx175_6 := rr_ HB hx175_6
 have HR175_5 := q56.mk hi175_5
 have HC175_5 := q56.mk hl175_5
 clear hi175_5 hl175_5
 have HR175_6 := q56.mk hi175_6
 have HC175_6 := q56.mk hl175_6
 clear hi175_6 hl175_6
 replace p175 := eq_true p175
 replace q175 := eq_true q175
 have p176 : 0 ≤ (x5_1 : Int) := od_
 have q176 : x5_1 < (l1.length : Int) := od_
 obtain ⟨ad176, A176_5, c176_5, A176_6, c176_6, e176, hx176_0, hx176_1, hx176_2, hx176_3, hx176_4, hx176_5, hx176_6, hl176_5, hi176_5, hl176_6, hi176_6⟩ := at_T41 HR1.out x5_1 p176 q176
 have hw176_6 := hx176_6
 have hw176_5 := hx176_5
 have hw176_4 := hx176_4
 have hw176_3 := hx176_3
 have hw176_2 := hx176_2
 have hw176_1 := hx176_1
 have hw176_0 := hx176_0
 cases e176
 replace hx176_0 := rr_ HB hx176_0
 replace hx176_1 := rr_ HB hx176_1
 replace hx176_2 := rr_ HB hx176_2
 replace hx176_3 := rr_ HB hx176_3
 replace hx176_4 := rr_ HB hx176_4
 replace hx176_5 := rr_ HB hx176_5
 replace hx176_6 := rr_ HB hx176_6
 have HR176_5 := q56.mk hi176_5
 have HC176_5 := q56.mk hl176_5
 clear hi176_5 hl176_5
 have HR176_6 := q56.mk hi176_6
 have HC176_6 := q56.mk hl176_6
 clear hi176_6 hl176_6
 replace p176 := eq_true p176
 replace q176 := eq_true q176
 refine start_ (n := 10) (S := fun w' => w'.cell? (ad175.add ((x5_1).toNat * 7)) = some (.string ((q81 l0 x5_1).f0)) ∧ w'.cell? ⟨(ad175.add ((x5_1).toNat * 7)).block, (ad175.add ((x5_1).toNat * 7)).off + 1, none⟩ = some (.int .i64 ((q81 l0 x5_1).f1)) ∧ w'.cell? ⟨(ad175.add ((x5_1).toNat * 7)).block, (ad175.add ((x5_1).toNat * 7)).off + 2, none⟩ = some (.string ((q81 l0 x5_1).f2)) ∧ w'.cell? ⟨(ad175.add ((x5_1).toNat * 7)).block, (ad175.add ((x5_1).toNat * 7)).off + 3, none⟩ = some (.bool ((q81 l0 x5_1).f3)) ∧ w'.cell? ⟨(ad175.add ((x5_1).toNat * 7)).block, (ad175.add ((x5_1).toNat * 7)).off + 4, none⟩ = some (.int .i64 ((q81 l0 x5_1).f4)) ∧ w'.cell? ⟨(ad175.add ((x5_1).toNat * 7)).block, (ad175.add ((x5_1).toNat * 7)).off + 5, none⟩ = some (.slice A175_5 ((q81 l0 x5_1).f5).length c175_5) ∧ w'.cell? ⟨(ad175.add ((x5_1).toNat * 7)).block, (ad175.add ((x5_1).toNat * 7)).off + 6, none⟩ = some (.slice A175_6 ((q81 l0 x5_1).f6).length c175_6) ∧ w'.cell? (ad176.add ((x5_1).toNat * 7)) = some (.string ((q81 l1 x5_1).f0)) ∧ w'.cell? ⟨(ad176.add ((x5_1).toNat * 7)).block, (ad176.add ((x5_1).toNat * 7)).off + 1, none⟩ = some (.int .i64 ((q81 l1 x5_1).f1)) ∧ w'.cell? ⟨(ad176.add ((x5_1).toNat * 7)).block, (ad176.add ((x5_1).toNat * 7)).off + 2, none⟩ = some (.string ((q81 l1 x5_1).f2)) ∧ w'.cell? ⟨(ad176.add ((x5_1).toNat * 7)).block, (ad176.add ((x5_1).toNat * 7)).off + 3, none⟩ = some (.bool ((q81 l1 x5_1).f3)) ∧ w'.cell? ⟨(ad176.add ((x5_1).toNat * 7)).block, (ad176.add ((x5_1).toNat * 7)).off + 4, none⟩ = some (.int .i64 ((q81 l1 x5_1).f4)) ∧ w'.cell? ⟨(ad176.add ((x5_1).toNat * 7)).block, (ad176.add ((x5_1).toNat * 7)).off + 5, none⟩ = some (.slice A176_5 ((q81 l1 x5_1).f5).length c176_5) ∧ w'.cell? ⟨(ad176.add ((x5_1).toNat * 7)).block, (ad176.add ((x5_1).toNat * 7)).off + 6, none⟩ = some (.slice A176_6 ((q81 l1 x5_1).f6).length c176_6)) (ds := []) (bits_ 10 0) (by kernel_rfl) rfl rfl ⟨(rr_ HB hw175_0 :), (rr_ HB hw175_1 :), (rr_ HB hw175_2 :), (rr_ HB hw175_3 :), (rr_ HB hw175_4 :), (rr_ HB hw175_5 :), (rr_ HB hw175_6 :), (rr_ HB hw176_0 :), (rr_ HB hw176_1 :), (rr_ HB hw176_2 :), (rr_ HB hw176_3 :), (rr_ HB hw176_4 :), (rr_ HB hw176_5 :), (rr_ HB hw176_6 :)⟩ (fun hHeld => ?_); refine with_tabW q13.tab6 q13.bits6 (fun HT_ HW_ => ?_)
 generalize wr.drew = w11 at HB HR175_5 HR175_6 HR176_5 HR176_6 hx175_0 hx175_1 hx175_2 hx175_3 hx175_4 hx175_5 hx175_6 hx176_0 hx176_1 hx176_2 hx176_3 hx176_4 hx176_5 hx176_6 hHeld ⊢
 refine pz_ 0 (some 17) (bits_ 10 1) HT_.out ?_
 refine pz_ 1 (some 18) (bits_ 10 3) HT_.out ?_
 refine pz_ 2 (some 19) (bits_ 10 7) HT_.out ?_
 refine pz_ 4 (some 21) (bits_ 10 23) HT_.out ?_
 refine pz_ 5 (some 22) (bits_ 10 55) HT_.out ?_
 refine pz_ 6 (some 23) (bits_ 10 119) HT_.out ?_
 refine tz_ 3 (some 20) (bits_ 10 127) HT_.out HW_.out hHeld ?_ (hy := by rintro w' ⟨s0, s1, s2, s3, s4, s5, s6, s7, s8, s9, s10, s11, s12, s13⟩; go_simp; with_reducible rfl)
 refine tz_ 7 (some 24) (bits_ 10 255) HT_.out HW_.out hHeld ?_ (hy := by rintro w' ⟨s0, s1, s2, s3, s4, s5, s6, s7, s8, s9, s10, s11, s12, s13⟩; go_simp; with_reducible rfl)
 refine oz_ 8 (some 25) (bits_ 10 511) HT_.out (fun K hK => ?_)
 refine go_s_ Try.func78 #[.agg #[.string ((q81 l0 x5_1).f0), .int .i64 ((q81 l0 x5_1).f1), .string ((q81 l0 x5_1).f2), .bool ((q81 l0 x5_1).f3), .int .i64 ((q81 l0 x5_1).f4), .slice A175_5 ((q81 l0 x5_1).f5).length c175_5, .slice A175_6 ((q81 l0 x5_1).f6).length c175_6], .agg #[.string ((q81 l1 x5_1).f0), .int .i64 ((q81 l1 x5_1).f1), .string ((q81 l1 x5_1).f2), .bool ((q81 l1 x5_1).f3), .int .i64 ((q81 l1 x5_1).f4), .slice A176_5 ((q81 l1 x5_1).f5).length c176_5, .slice A176_6 ((q81 l1 x5_1).f6).length c176_6]] ?_
 with_reducible refine (q15.calls k1 ((q81 l0 x5_1).f0) ((q81 l0 x5_1).f1) ((q81 l0 x5_1).f2) ((q81 l0 x5_1).f3) ((q81 l0 x5_1).f4) _ _ ((q81 l0 x5_1).f5) _ _ ((q81 l0 x5_1).f6) ((q81 l1 x5_1).f0) ((q81 l1 x5_1).f1) ((q81 l1 x5_1).f2) ((q81 l1 x5_1).f3) ((q81 l1 x5_1).f4) _ _ ((q81 l1 x5_1).f5) _ _ ((q81 l1 x5_1).f6) false _ ?side1 ?side2 ?side3 ?side4 ?side5 ?side6 ?side7 ?side8 A7.out).mono ?_
 (case side1 => exact kc_ HR175_5 HB)
 (case side2 => exact HC175_5.out)
 (case side3 => exact kc_ HR175_6 HB)
 (case side4 => exact HC175_6.out)
 (case side5 => exact kc_ HR176_5 HB)
 (case side6 => exact HC176_5.out)
 (case side7 => exact kc_ HR176_6 HB)
 (case side8 => exact HC176_6.out)
 rintro e w12 ⟨rfl, hb⟩
 refine ⟨_, rfl, ?_⟩
 replace HB := hb_ HB hb
 clear hb
 refine hK.out _ _ ⟨(rr_ HB hw175_0 :), (rr_ HB hw175_1 :), (rr_ HB hw175_2 :), (rr_ HB hw175_3 :), (rr_ HB hw175_4 :), (rr_ HB hw175_5 :), (rr_ HB hw175_6 :), (rr_ HB hw176_0 :), (rr_ HB hw176_1 :), (rr_ HB hw176_2 :), (rr_ HB hw176_3 :), (rr_ HB hw176_4 :), (rr_ HB hw176_5 :), (rr_ HB hw176_6 :)⟩ (fun hHeld => ?_)
 clear hK K
 refine nz_ (some 25) ?_
 refine pz_ 9 (some 26) (bits_ 10 1023) HT_.out ?_
 refine done_ (done_of HT_.out (by kernel_rfl)) ?_
 try go_wp2
 go_ret
 exact ⟨er_, hf_⟩
def q14.l0 : Nat → List ByteArray → List ByteArray → Int → Option (Bool)
 | 0, _, _, _ => none
 | k + 1, x0, x1, x5 => if x5 < (x0.length : Int) then (if 0 ≤ x5 then (if x5 < (x1.length : Int) then (if (rdOf ByteArray.empty x0 x5).toList = (rdOf ByteArray.empty x1 x5).toList then (q14.l0 k x0 x1 (wrap64 (x5 + 1))) else (some false)) else (none)) else (none)) else (some true)
def q14.f (k : Nat) (l0 : List ByteArray) (l1 : List ByteArray) : Option (Bool) := if (l0.length : Int) = (l1.length : Int) then (q14.l0 k l0 l1 0) else (some false)
theorem q14.mono_l : ∀ k, (∀ y0 y1 y2, LeO (q14.l0 k y0 y1 y2) (q14.l0 (k + 1) y0 y1 y2))
 | 0 => fun _ _ _ r h => by simp [q14.l0] at h
 | k + 1 => by
  have ih0 := q14.mono_l k
  ·intro y0 y1 y2
   unfold q14.l0
   repeat' first
   | (with_reducible exact ih0 _ _ _)
   | (with_reducible exact LeO.refl _)
   | (with_reducible exact LeO.none _)
   | (with_reducible refine LeO.ite ?_ ?_)
   | (with_reducible refine LeO.bind ?_ (fun _ => ?_))
   | exact ih0 _ _ _
   | exact LeO.none _
   | refine LeO.ite ?_ ?_
   | refine LeO.bind ?_ (fun _ => ?_)
theorem q14.mono : ∀ a0 a1 k, LeO (q14.f k a0 a1) (q14.f (k + 1) a0 a1) := by
 intro a0 a1 k
 have ih0 := q14.mono_l k
 unfold q14.f
 repeat' first
  | (with_reducible exact ih0 _ _ _)
  | (with_reducible exact LeO.refl _)
  | (with_reducible exact LeO.none _)
  | (with_reducible refine LeO.ite ?_ ?_)
  | (with_reducible refine LeO.bind ?_ (fun _ => ?_))
  | exact ih0 _ _ _
  | exact LeO.none _
  | refine LeO.ite ?_ ?_
  | refine LeO.bind ?_ (fun _ => ?_)
set_option maxHeartbeats 8000000 in
set_option maxRecDepth 100000 in
theorem q14.calls (k : Nat) (A0 : Option Addr) (c0 : Nat) (l0 : List ByteArray) (A1 : Option Addr) (c1 : Nat) (l1 : List ByteArray) (r : Bool) (w : World) (hr0 : Kd.C Kd.string w A0 l0.length l0) (hc0 : l0.length ≤ c0) (hr1 : Kd.C Kd.string w A1 l1.length l1) (hc1 : l1.length ≤ c1) (h : q14.f k l0 l1 = some r) :
 Calls Try.prog 41 #[.slice A0 l0.length c0, .slice A1 l1.length c1] w fun e w' => e = .returned (.bool r) ∧ Drawn0 w w' := by
 have HR0 := q56.mk hr0
 have HC0 := q56.mk hc0
 clear hr0 hc0
 have HR1 := q56.mk hr1
 have HC1 := q56.mk hc1
 clear hr1 hc1
 unfold q14.f at h
 have H := h
 clear h
 by_cases c3 : (l0.length : Int) = (l1.length : Int)
 rotate_left
 ·rw [if_neg c3] at H
  have c3b0 : ((l0.length : Int) == (l1.length : Int)) = false := beq_eq_false_iff_ne.mpr c3
  have c3b1 : ((l0.length : Int) != (l1.length : Int)) = true := bne_iff_ne.mpr c3
  have c3b2 : (l0.length == l1.length) = false := by first | simpa using c3 | (simp at c3 ⊢; omega)
  obtain rfl := Option.some.inj H
  go_enter Try.func41, Try.ntmps41
  go_wp2
  repeat (go_quiet (fail); try go_wp2)
  go_ret
  exact ⟨by first | rfl | (simp; done) | (simp [*]; done), by repeat (first | exact Drawn0.refl _ | apply Drawn0.step)⟩
 rw [if_pos c3] at H
 have c3b0 : ((l0.length : Int) == (l1.length : Int)) = true := beq_iff_eq.mpr c3
 have c3b1 : ((l0.length : Int) != (l1.length : Int)) = false := bne_eq_false_iff_eq.mpr c3
 have c3b2 : (l0.length == l1.length) = true := by first | simpa using c3 | (simp at c3 ⊢; omega)
 clear c3
 have H' := q56.mk H
 clear H
 go_enter Try.func41, Try.ntmps41
 go_wp2
 repeat (go_quiet (fail); try go_wp2)
 go_loopg [5] k (fun kq v5 w' => ∃ (x5_1 : Int), v5 = .int .i64 x5_1 ∧ q56 (q14.l0 kq l0 l1 x5_1 = some r) ∧ q56 (kq ≤ k) ∧ Drawn0 w w')
 case atStart => exact ⟨(0), rf_, H', ⟨Nat.le_refl _⟩, by repeat (first | exact Drawn0.refl _ | apply Drawn0.step)⟩
 case round =>
 clear H'
 clear c3b0 c3b1 c3b2
 obtain ⟨x5_1, rfl, HA, HK1, ⟨m1, rfl⟩⟩ := hrel
 cases gk with
 | zero => exact absurd HA.out (by simp [q14.l0])
 | succ k1 =>
 have H := HA.out
 clear HA
 simp only [q14.l0] at H
 by_cases c4 : x5_1 < (l0.length : Int)
 rotate_left
 ·rw [if_neg c4] at H
  replace c4 := decide_eq_false c4
  obtain rfl := Option.some.inj H
  go_wp2
  repeat (go_quiet (fail); try go_wp2)
  go_ret
  exact ⟨by first | rfl | (simp; done) | (simp [*]; done), by repeat (first | exact Drawn0.refl _ | apply Drawn0.step)⟩
 rw [if_pos c4] at H
 replace c4 := decide_eq_true c4
 by_cases c5 : 0 ≤ x5_1
 rotate_left
 ·rw [if_neg c5] at H
  exact absurd H (by simp)
 rw [if_pos c5] at H
 replace c5 := decide_eq_true c5
 by_cases c6 : x5_1 < (l1.length : Int)
 rotate_left
 ·rw [if_neg c6] at H
  exact absurd H (by simp)
 rw [if_pos c6] at H
 replace c6 := decide_eq_true c6
 by_cases c7 : (rdOf ByteArray.empty l0 x5_1).toList = (rdOf ByteArray.empty l1 x5_1).toList
 ·rw [if_pos c7] at H
  have c7b0 : ((rdOf ByteArray.empty l0 x5_1).toList == (rdOf ByteArray.empty l1 x5_1).toList) = true := beq_iff_eq.mpr c7
  have c7b1 : ((rdOf ByteArray.empty l0 x5_1).toList != (rdOf ByteArray.empty l1 x5_1).toList) = false := bne_eq_false_iff_eq.mpr c7
  clear c7
  have H' := q56.mk H
  clear H
  obtain ⟨ad155, e155, hx155_0, p155, q155⟩ := au_string HR0 ⟨Below.refl _ _⟩ (x5_1)
  cases e155
  obtain ⟨ad156, e156, hx156_0, p156, q156⟩ := au_string HR1 ⟨Below.refl _ _⟩ (x5_1)
  cases e156
  go_wp2
  repeat (go_quiet (fail); try go_wp2)
  go_roundg k1
  case measure => have := HK1.out; omega
  case rel => exact ⟨(wrap64 (x5_1 + 1)), rf_, H', ⟨by have := HK1.out; omega⟩, by repeat (first | exact Drawn0.refl _ | apply Drawn0.step)⟩
 rw [if_neg c7] at H
 have c7b0 : ((rdOf ByteArray.empty l0 x5_1).toList == (rdOf ByteArray.empty l1 x5_1).toList) = false := beq_eq_false_iff_ne.mpr c7
 have c7b1 : ((rdOf ByteArray.empty l0 x5_1).toList != (rdOf ByteArray.empty l1 x5_1).toList) = true := bne_iff_ne.mpr c7
 obtain rfl := Option.some.inj H
 obtain ⟨ad155, e155, hx155_0, p155, q155⟩ := au_string HR0 ⟨Below.refl _ _⟩ (x5_1)
 cases e155
 obtain ⟨ad156, e156, hx156_0, p156, q156⟩ := au_string HR1 ⟨Below.refl _ _⟩ (x5_1)
 cases e156
 go_wp2
 repeat (go_quiet (fail); try go_wp2)
 go_ret
 exact ⟨by first | rfl | (simp; done) | (simp [*]; done), by repeat (first | exact Drawn0.refl _ | apply Drawn0.step)⟩
def q26.f (k : Nat) (l0_0 : List ByteArray) (l0_1 : List (S41)) (l1_0 : List ByteArray) (l1_1 : List (S41)) : Option (Bool) := (q14.f k l0_0 l1_0).bind fun t180 => (if t180 = true then ((q13.f k l0_1 l1_1).bind fun t181 => (some t181)) else (some false))
theorem q26.mono : ∀ a0 a1 a2 a3 k, LeO (q26.f k a0 a1 a2 a3) (q26.f (k + 1) a0 a1 a2 a3) := by
 intro a0 a1 a2 a3 k
 unfold q26.f
 repeat' first
  | (with_reducible exact q13.mono _ _ _)
  | (with_reducible exact q14.mono _ _ _)
  | (with_reducible exact LeO.refl _)
  | (with_reducible exact LeO.none _)
  | (with_reducible refine LeO.ite ?_ ?_)
  | (with_reducible refine LeO.bind ?_ (fun _ => ?_))
  | exact q13.mono _ _ _
  | exact q14.mono _ _ _
  | exact LeO.none _
  | refine LeO.ite ?_ ?_
  | refine LeO.bind ?_ (fun _ => ?_)
set_option maxHeartbeats 8000000 in
set_option maxRecDepth 100000 in
theorem q26.calls (k : Nat) (A0_0 : Option Addr) (c0_0 : Nat) (l0_0 : List ByteArray) (A0_1 : Option Addr) (c0_1 : Nat) (l0_1 : List (S41)) (A1_0 : Option Addr) (c1_0 : Nat) (l1_0 : List ByteArray) (A1_1 : Option Addr) (c1_1 : Nat) (l1_1 : List (S41)) (r : Bool) (w : World) (hr0_0 : Kd.C Kd.string w A0_0 l0_0.length l0_0) (hc0_0 : l0_0.length ≤ c0_0) (hr0_1 : Kd.C k41 w A0_1 l0_1.length l0_1) (hc0_1 : l0_1.length ≤ c0_1) (hr1_0 : Kd.C Kd.string w A1_0 l1_0.length l1_0) (hc1_0 : l1_0.length ≤ c1_0) (hr1_1 : Kd.C k41 w A1_1 l1_1.length l1_1) (hc1_1 : l1_1.length ≤ c1_1) (h : q26.f k l0_0 l0_1 l1_0 l1_1 = some r) :
 Calls Try.prog 10 #[.agg #[.slice A0_0 l0_0.length c0_0, .slice A0_1 l0_1.length c0_1], .agg #[.slice A1_0 l1_0.length c1_0, .slice A1_1 l1_1.length c1_1]] w fun e w' => e = .returned (.bool r) ∧ Below w.heap.size w w' := by
 have hu25 := Try.underlying25
 have HR0_0 := q56.mk hr0_0
 have HC0_0 := q56.mk hc0_0
 clear hr0_0 hc0_0
 have HR0_1 := q56.mk hr0_1
 have HC0_1 := q56.mk hc0_1
 clear hr0_1 hc0_1
 have HR1_0 := q56.mk hr1_0
 have HC1_0 := q56.mk hc1_0
 clear hr1_0 hc1_0
 have HR1_1 := q56.mk hr1_1
 have HC1_1 := q56.mk hc1_1
 clear hr1_1 hc1_1
 have HB := q56.mk (Below.refl w.heap.size w)
 unfold q26.f at h
 have H := h
 clear h
 replace H := bd_ H
 obtain ⟨t180, A3, H⟩ := H
 by_cases c4 : t180 = true
 ·subst c4
  replace H := it_ H
  replace H := bd_ H
  obtain ⟨t181, A5, H⟩ := H
  obtain rfl := Option.some.inj H
  go_enter Try.func10, Try.ntmps10
  go_wp2_with (first | ((with_reducible refine q71 (N := 2) rfl ?_); refine bx_ 2 #[.slice A0_0 l0_0.length c0_0, .slice A0_1 l0_1.length c0_1] 25 ?_; intro gb178 hg w6 hbox hb; have BK178 := q56.mk (hbox); have GW178 := zz_ (w := w) hg; have GE178 := zz_ (w := w) hg; replace HB := hb_ HB hb;  clear hb hbox hg) | ((with_reducible refine q71 (N := 3) rfl ?_); refine bx_ 3 #[.slice A1_0 l1_0.length c1_0, .slice A1_1 l1_1.length c1_1] 25 ?_; intro gb179 hg w7 hbox hb; have BK179 := q56.mk (hbox); have GW179 := zz_ (w := w) hg; have GE179 := zz_ (w := w) hg; replace HB := hb_ HB hb; have NB178_179 := ne1_ hg BK178; have NB179_178 := ne2_ hg BK178; replace BK178 := bb_ BK178 hb;  clear hb hbox hg; have hnb8 := NB178_179.out; have hnc8 := NB179_178.out; obtain ⟨hcz9_0, hcz9_1, hfz9_0, hfz9_1⟩ := bs2_ BK178; obtain ⟨hcz10_0, hcz10_1, hfz10_0, hfz10_1⟩ := bs2_ BK179) | ((with_reducible refine q70 (f := 41) rfl ?_); refine gl_ (some 9) Try.func41 #[.slice A0_0 l0_0.length c0_0, .slice A1_0 l1_0.length c1_0] ?_; (with_reducible refine (q14.calls k _ _ l0_0 _ _ l1_0 true _ ?side1 ?side2 ?side3 ?side4 A3.out).mono ?_); (case side1 => exact kc_ HR0_0 HB); (case side2 => exact HC0_0.out); (case side3 => exact kc_ HR1_0 HB); (case side4 => exact HC1_0.out); rintro e w' ⟨rfl, ⟨nd, rfl⟩⟩; refine ⟨_, rfl, ?_⟩) | (go_at_call 42; (with_reducible refine (q13.calls k _ _ l0_1 _ _ l1_1 t181 _ ?side1 ?side2 ?side3 ?side4 A5.out).mono ?_); (case side1 => repeat (first | exact (Kd.C_below HR0_1.out hf_) | (with_reducible refine Kd.C_alloc ?_ _) | (with_reducible refine Kd.C_drewN ?_ _) | (with_reducible refine Kd.C_drew ?_))); (case side2 => exact HC0_1.out); (case side3 => repeat (first | exact (Kd.C_below HR1_1.out hf_) | (with_reducible refine Kd.C_alloc ?_ _) | (with_reducible refine Kd.C_drewN ?_ _) | (with_reducible refine Kd.C_drew ?_))); (case side4 => exact HC1_1.out); rintro e w11 ⟨rfl, hb⟩; replace BK178 := bb_ BK178 hb; replace BK179 := bb_ BK179 hb; replace HB := hb_ HB hb;  (try clear hb)))
  go_ret
  exact ⟨er_, hf_⟩
 replace c4 := Bool.eq_false_iff.mpr c4
 subst c4
 replace H := ie_ H
 obtain rfl := Option.some.inj H
 go_enter Try.func10, Try.ntmps10
 go_wp2_with (first | ((with_reducible refine q71 (N := 2) rfl ?_); refine bx_ 2 #[.slice A0_0 l0_0.length c0_0, .slice A0_1 l0_1.length c0_1] 25 ?_; intro gb178 hg w12 hbox hb; have BK178 := q56.mk (hbox); have GW178 := zz_ (w := w) hg; have GE178 := zz_ (w := w) hg; replace HB := hb_ HB hb;  clear hb hbox hg) | ((with_reducible refine q71 (N := 3) rfl ?_); refine bx_ 3 #[.slice A1_0 l1_0.length c1_0, .slice A1_1 l1_1.length c1_1] 25 ?_; intro gb179 hg w13 hbox hb; have BK179 := q56.mk (hbox); have GW179 := zz_ (w := w) hg; have GE179 := zz_ (w := w) hg; replace HB := hb_ HB hb; have NB178_179 := ne1_ hg BK178; have NB179_178 := ne2_ hg BK178; replace BK178 := bb_ BK178 hb;  clear hb hbox hg; have hnb14 := NB178_179.out; have hnc14 := NB179_178.out; obtain ⟨hcz15_0, hcz15_1, hfz15_0, hfz15_1⟩ := bs2_ BK178; obtain ⟨hcz16_0, hcz16_1, hfz16_0, hfz16_1⟩ := bs2_ BK179) | ((with_reducible refine q70 (f := 41) rfl ?_); refine gl_ (some 9) Try.func41 #[.slice A0_0 l0_0.length c0_0, .slice A1_0 l1_0.length c1_0] ?_; (with_reducible refine (q14.calls k _ _ l0_0 _ _ l1_0 false _ ?side1 ?side2 ?side3 ?side4 A3.out).mono ?_); (case side1 => exact kc_ HR0_0 HB); (case side2 => exact HC0_0.out); (case side3 => exact kc_ HR1_0 HB); (case side4 => exact HC1_0.out); rintro e w' ⟨rfl, ⟨nd, rfl⟩⟩; refine ⟨_, rfl, ?_⟩))
 go_ret
 exact ⟨er_, hf_⟩
theorem eqA111 (d : Nat) (w : World) (x0 y0 : Int) (x1 y1 : Bool) :
 (Op.equalIn (d + 2) 111 (.agg #[.int .i64 x0, .bool x1]) (.agg #[.int .i64 y0, .bool y1])).run Try.prog w = .ok (x0 == y0 && (x1 == y1)) w := by
 refine eqA_of Try.underlying111 (by kernel_rfl) ?_
 refine eqf_cons (by rfl) (by go_simp; rfl) (by go_simp; rfl) (by go_simp) ?_
 exact eqf_last (by rfl) (by go_simp; rfl) (by go_simp; rfl) (by go_simp)
theorem eqA93 (d : Nat) (w : World) (x0 y0 : Int) (x1 y1 : Bool) :
 (Op.equalIn (d + 2) 93 (.agg #[.int .i64 x0, .bool x1]) (.agg #[.int .i64 y0, .bool y1])).run Try.prog w = .ok (x0 == y0 && (x1 == y1)) w := by
 refine eqA_of Try.underlying93 (by kernel_rfl) ?_
 refine eqf_cons (by rfl) (by go_simp; rfl) (by go_simp; rfl) (by go_simp) ?_
 exact eqf_last (by rfl) (by go_simp; rfl) (by go_simp; rfl) (by go_simp)
end Go.Proofs.Yteddgedacjdjgaa.Pm
end
section
namespace Go.Proofs.Yteddgedacjdjgaa.Pm
open Go.RowKit Go.Proofs.YteddgedacjdjgaaW.PrintWords Go.Proofs.YteddgedacjdjgaaW.PrintLast Go.Proofs.YteddgedacjdjgaaW.PrintMore
attribute [local go_sem] max2_int min2_int max_two min_two max_three min_three max_four min_four   -- for this text's walks alone
set_option linter.unusedVariables false
set_option linter.unusedSimpArgs false
attribute [local go_sem high] eqA93
def q10.l0 : Nat → List (S93) → List (S93) → Int → Option (Bool)
 | 0, _, _, _ => none
 | k + 1, x0, x1, x5 => if x5 < (x0.length : Int) then (if 0 ≤ x5 then (if x5 < (x1.length : Int) then (if (!(((q85 x0 x5).f0) == ((q85 x1 x5).f0)) || (!(((q85 x0 x5).f1) == ((q85 x1 x5).f1)))) = true then (some false) else (q10.l0 k x0 x1 (wrap64 (x5 + 1)))) else (none)) else (none)) else (some true)
def q10.f (k : Nat) (l0 : List (S93)) (l1 : List (S93)) : Option (Bool) := if (l0.length : Int) = (l1.length : Int) then (q10.l0 k l0 l1 0) else (some false)
theorem q10.mono_l : ∀ k, (∀ y0 y1 y2, LeO (q10.l0 k y0 y1 y2) (q10.l0 (k + 1) y0 y1 y2))
 | 0 => fun _ _ _ r h => by simp [q10.l0] at h
 | k + 1 => by
  have ih0 := q10.mono_l k
  ·intro y0 y1 y2
   unfold q10.l0
   repeat' first
   | (with_reducible exact ih0 _ _ _)
   | (with_reducible exact LeO.refl _)
   | (with_reducible exact LeO.none _)
   | (with_reducible refine LeO.ite ?_ ?_)
   | (with_reducible refine LeO.bind ?_ (fun _ => ?_))
   | exact ih0 _ _ _
   | exact LeO.none _
   | refine LeO.ite ?_ ?_
   | refine LeO.bind ?_ (fun _ => ?_)
theorem q10.mono : ∀ a0 a1 k, LeO (q10.f k a0 a1) (q10.f (k + 1) a0 a1) := by
 intro a0 a1 k
 have ih0 := q10.mono_l k
 unfold q10.f
 repeat' first
  | (with_reducible exact ih0 _ _ _)
  | (with_reducible exact LeO.refl _)
  | (with_reducible exact LeO.none _)
  | (with_reducible refine LeO.ite ?_ ?_)
  | (with_reducible refine LeO.bind ?_ (fun _ => ?_))
  | exact ih0 _ _ _
  | exact LeO.none _
  | refine LeO.ite ?_ ?_
  | refine LeO.bind ?_ (fun _ => ?_)
set_option maxHeartbeats 8000000 in
set_option maxRecDepth 100000 in
theorem q10.calls (k : Nat) (A0 : Option Addr) (c0 : Nat) (l0 : List (S93)) (A1 : Option Addr) (c1 : Nat) (l1 : List (S93)) (r : Bool) (w : World) (hr0 : Kd.C k93 w A0 l0.length l0) (hc0 : l0.length ≤ c0) (hr1 : Kd.C k93 w A1 l1.length l1) (hc1 : l1.length ≤ c1) (h : q10.f k l0 l1 = some r) :
 Calls Try.prog 79 #[.slice A0 l0.length c0, .slice A1 l1.length c1] w fun e w' => e = .returned (.bool r) ∧ Drawn0 w w' := by
 have hu93 := Try.underlying93
 have HR0 := q56.mk hr0
 have HC0 := q56.mk hc0
 clear hr0 hc0
 have HR1 := q56.mk hr1
 have HC1 := q56.mk hc1
 clear hr1 hc1
 unfold q10.f at h
 have H := h
 clear h
 by_cases c3 : (l0.length : Int) = (l1.length : Int)
 rotate_left
 ·rw [if_neg c3] at H
  have c3b0 : ((l0.length : Int) == (l1.length : Int)) = false := beq_eq_false_iff_ne.mpr c3
  have c3b1 : ((l0.length : Int) != (l1.length : Int)) = true := bne_iff_ne.mpr c3
  have c3b2 : (l0.length == l1.length) = false := by first | simpa using c3 | (simp at c3 ⊢; omega)
  obtain rfl := Option.some.inj H
  go_enter Try.func79, Try.ntmps79
  go_wp2
  repeat (go_quiet (fail); try go_wp2)
  go_ret
  exact ⟨by first | rfl | (simp; done) | (simp [*]; done), by repeat (first | exact Drawn0.refl _ | apply Drawn0.step)⟩
 rw [if_pos c3] at H
 have c3b0 : ((l0.length : Int) == (l1.length : Int)) = true := beq_iff_eq.mpr c3
 have c3b1 : ((l0.length : Int) != (l1.length : Int)) = false := bne_eq_false_iff_eq.mpr c3
 have c3b2 : (l0.length == l1.length) = true := by first | simpa using c3 | (simp at c3 ⊢; omega)
 clear c3
 have H' := q56.mk H
 clear H
 go_enter Try.func79, Try.ntmps79
 go_wp2
 repeat (go_quiet (fail); try go_wp2)
 go_loopg [5] k (fun kq v5 w' => ∃ (x5_1 : Int), v5 = .int .i64 x5_1 ∧ q56 (q10.l0 kq l0 l1 x5_1 = some r) ∧ q56 (kq ≤ k) ∧ Drawn0 w w')
 case atStart => exact ⟨(0), rf_, H', ⟨Nat.le_refl _⟩, by repeat (first | exact Drawn0.refl _ | apply Drawn0.step)⟩
 case round =>
 clear H'
 clear c3b0 c3b1 c3b2
 obtain ⟨x5_1, rfl, HA, HK1, ⟨m1, rfl⟩⟩ := hrel
 cases gk with
 | zero => exact absurd HA.out (by simp [q10.l0])
 | succ k1 =>
 have H := HA.out
 clear HA
 simp only [q10.l0] at H
 by_cases c4 : x5_1 < (l0.length : Int)
 rotate_left
 ·rw [if_neg c4] at H
  replace c4 := decide_eq_false c4
  obtain rfl := Option.some.inj H
  go_wp2
  repeat (go_quiet (fail); try go_wp2)
  go_ret
  exact ⟨by first | rfl | (simp; done) | (simp [*]; done), by repeat (first | exact Drawn0.refl _ | apply Drawn0.step)⟩
 rw [if_pos c4] at H
 replace c4 := decide_eq_true c4
 by_cases c5 : 0 ≤ x5_1
 rotate_left
 ·rw [if_neg c5] at H
  exact absurd H (by simp)
 rw [if_pos c5] at H
 replace c5 := decide_eq_true c5
 by_cases c6 : x5_1 < (l1.length : Int)
 rotate_left
 ·rw [if_neg c6] at H
  exact absurd H (by simp)
 rw [if_pos c6] at H
 replace c6 := decide_eq_true c6
 by_cases c7 : (!(((q85 l0 x5_1).f0) == ((q85 l1 x5_1).f0)) || (!(((q85 l0 x5_1).f1) == ((q85 l1 x5_1).f1)))) = true
 ·rw [if_pos c7] at H
  have c7b0 : (!(((q85 l0 x5_1).f0) == ((q85 l1 x5_1).f0)) || (!(((q85 l0 x5_1).f1) == ((q85 l1 x5_1).f1)))) = true := c7
  clear c7
  obtain rfl := Option.some.inj H
  obtain ⟨ad221, e221, hx221_0, hx221_1, p221, q221⟩ := au_T93 HR0 ⟨Below.refl _ _⟩ (x5_1)
  cases e221
  obtain ⟨ad222, e222, hx222_0, hx222_1, p222, q222⟩ := au_T93 HR1 ⟨Below.refl _ _⟩ (x5_1)
  cases e222
  go_wp2
  repeat (go_quiet (fail); try go_wp2)
  go_ret
  exact ⟨by first | rfl | (simp; done) | (simp [*]; done), by repeat (first | exact Drawn0.refl _ | apply Drawn0.step)⟩
 rw [if_neg c7] at H
 have c7b0 : (!(((q85 l0 x5_1).f0) == ((q85 l1 x5_1).f0)) || (!(((q85 l0 x5_1).f1) == ((q85 l1 x5_1).f1)))) = false := by simpa using c7
 clear c7
 have H' := q56.mk H
 clear H
 obtain ⟨ad221, e221, hx221_0, hx221_1, p221, q221⟩ := au_T93 HR0 ⟨Below.refl _ _⟩ (x5_1)
 cases e221
 obtain ⟨ad222, e222, hx222_0, hx222_1, p222, q222⟩ := au_T93 HR1 ⟨Below.refl _ _⟩ (x5_1)
 cases e222
 go_wp2
 repeat (go_quiet (fail); try go_wp2)
 go_roundg k1
 case measure => have := HK1.out; omega
 case rel => exact ⟨(wrap64 (x5_1 + 1)), rf_, H', ⟨by have := HK1.out; omega⟩, by repeat (first | exact Drawn0.refl _ | apply Drawn0.step)⟩
end Go.Proofs.Yteddgedacjdjgaa.Pm
end
section
namespace Go.Proofs.Yteddgedacjdjgaa.Pm
open Go.RowKit Go.Proofs.YteddgedacjdjgaaW.PrintWords Go.Proofs.YteddgedacjdjgaaW.PrintLast Go.Proofs.YteddgedacjdjgaaW.PrintMore
attribute [local go_sem] max2_int min2_int max_two min_two max_three min_three max_four min_four   -- for this text's walks alone
set_option linter.unusedVariables false
set_option linter.unusedSimpArgs false
attribute [local go_sem high] eqA90 eqA111
mutual
def q12.j0 : Nat → Bool → Int → List (S93) → List (S90) → List (S111) → Int → List (S93) → List (S90) → List (S111) → Option (Bool)
 | 0, _, _, _, _, _, _, _, _, _ => none
 | k + 1, x37, x233000, x233001, x233002, x233003, x234000, x234001, x234002, x234003 => if x37 = true then (some false) else (q12.l0 k 0 x233000 x233001 x233002 x233003 x234000 x234001 x234002 x234003)
def q12.l0 : Nat → Int → Int → List (S93) → List (S90) → List (S111) → Int → List (S93) → List (S90) → List (S111) → Option (Bool)
 | 0, _, _, _, _, _, _, _, _, _ => none
 | k + 1, x5, x233000, x233001, x233002, x233003, x234000, x234001, x234002, x234003 => if x5 < (x233002.length : Int) then (if 0 ≤ x5 then (if x5 < (x234002.length : Int) then (if (!((((q84 x233002 x5).f0).toList) == (((q84 x234002 x5).f0).toList)) || (!((((q84 x233002 x5).f1).toList) == (((q84 x234002 x5).f1).toList)) || (!(((q84 x233002 x5).f2) == ((q84 x234002 x5).f2))))) = true then (some false) else (q12.l0 k (wrap64 (x5 + 1)) x233000 x233001 x233002 x233003 x234000 x234001 x234002 x234003)) else (none)) else (none)) else (q12.l1 k 0 x233000 x233001 x233002 x233003 x234000 x234001 x234002 x234003)
def q12.l1 : Nat → Int → Int → List (S93) → List (S90) → List (S111) → Int → List (S93) → List (S90) → List (S111) → Option (Bool)
 | 0, _, _, _, _, _, _, _, _, _ => none
 | k + 1, x6, x233000, x233001, x233002, x233003, x234000, x234001, x234002, x234003 => if x6 < (x233003.length : Int) then (if 0 ≤ x6 then (if x6 < (x234003.length : Int) then (if (!(((q79 x233003 x6).f0) == ((q79 x234003 x6).f0)) || (!(((q79 x233003 x6).f1) == ((q79 x234003 x6).f1)))) = true then (some false) else (q12.l1 k (wrap64 (x6 + 1)) x233000 x233001 x233002 x233003 x234000 x234001 x234002 x234003)) else (none)) else (none)) else (some true)
end
def q12.f (k : Nat) (a0_0 : Int) (l0_1 : List (S93)) (l0_2 : List (S90)) (l0_3 : List (S111)) (a1_0 : Int) (l1_1 : List (S93)) (l1_2 : List (S90)) (l1_3 : List (S111)) : Option (Bool) := if a0_0 = a1_0 then ((q10.f k l0_1 l1_1).bind fun t234 => (if t234 = true then (if (l0_2.length : Int) = (l1_2.length : Int) then (q12.j0 k ((l0_3.length : Int) != (l1_3.length : Int)) a0_0 l0_1 l0_2 l0_3 a1_0 l1_1 l1_2 l1_3) else (q12.j0 k true a0_0 l0_1 l0_2 l0_3 a1_0 l1_1 l1_2 l1_3)) else (q12.j0 k true a0_0 l0_1 l0_2 l0_3 a1_0 l1_1 l1_2 l1_3))) else (q12.j0 k true a0_0 l0_1 l0_2 l0_3 a1_0 l1_1 l1_2 l1_3)
theorem q12.mono_l : ∀ k, (∀ y0 y1 y2 y3 y4 y5 y6 y7 y8, LeO (q12.j0 k y0 y1 y2 y3 y4 y5 y6 y7 y8) (q12.j0 (k + 1) y0 y1 y2 y3 y4 y5 y6 y7 y8)) ∧ (∀ y0 y1 y2 y3 y4 y5 y6 y7 y8, LeO (q12.l0 k y0 y1 y2 y3 y4 y5 y6 y7 y8) (q12.l0 (k + 1) y0 y1 y2 y3 y4 y5 y6 y7 y8)) ∧ (∀ y0 y1 y2 y3 y4 y5 y6 y7 y8, LeO (q12.l1 k y0 y1 y2 y3 y4 y5 y6 y7 y8) (q12.l1 (k + 1) y0 y1 y2 y3 y4 y5 y6 y7 y8))
 | 0 => ⟨fun _ _ _ _ _ _ _ _ _ r h => by simp [q12.j0] at h, fun _ _ _ _ _ _ _ _ _ r h => by simp [q12.l0] at h, fun _ _ _ _ _ _ _ _ _ r h => by simp [q12.l1] at h⟩
 | k + 1 => by
  obtain ⟨ih0, ih1, ih2⟩ := q12.mono_l k
  refine ⟨?_, ?_, ?_⟩
  intro y0 y1 y2 y3 y4 y5 y6 y7 y8
  unfold q12.j0
  rotate_left
  intro y0 y1 y2 y3 y4 y5 y6 y7 y8
  unfold q12.l0
  rotate_left
  intro y0 y1 y2 y3 y4 y5 y6 y7 y8
  unfold q12.l1
  rotate_left
  all_goals repeat' first
   | (with_reducible exact ih0 _ _ _ _ _ _ _ _ _)
   | (with_reducible exact ih1 _ _ _ _ _ _ _ _ _)
   | (with_reducible exact ih2 _ _ _ _ _ _ _ _ _)
   | (with_reducible exact q10.mono _ _ _)
   | (with_reducible exact LeO.refl _)
   | (with_reducible exact LeO.none _)
   | (with_reducible refine LeO.ite ?_ ?_)
   | (with_reducible refine LeO.bind ?_ (fun _ => ?_))
   | exact ih0 _ _ _ _ _ _ _ _ _
   | exact ih1 _ _ _ _ _ _ _ _ _
   | exact ih2 _ _ _ _ _ _ _ _ _
   | exact q10.mono _ _ _
   | exact LeO.none _
   | refine LeO.ite ?_ ?_
   | refine LeO.bind ?_ (fun _ => ?_)
theorem q12.mono : ∀ a0 a1 a2 a3 a4 a5 a6 a7 k, LeO (q12.f k a0 a1 a2 a3 a4 a5 a6 a7) (q12.f (k + 1) a0 a1 a2 a3 a4 a5 a6 a7) := by
 intro a0 a1 a2 a3 a4 a5 a6 a7 k
 obtain ⟨ih0, ih1, ih2⟩ := q12.mono_l k
 unfold q12.f
 repeat' first
  | (with_reducible exact ih0 _ _ _ _ _ _ _ _ _)
  | (with_reducible exact ih1 _ _ _ _ _ _ _ _ _)
  | (with_reducible exact ih2 _ _ _ _ _ _ _ _ _)
  | (with_reducible exact q10.mono _ _ _)
  | (with_reducible exact LeO.refl _)
  | (with_reducible exact LeO.none _)
  | (with_reducible refine LeO.ite ?_ ?_)
  | (with_reducible refine LeO.bind ?_ (fun _ => ?_))
  | exact ih0 _ _ _ _ _ _ _ _ _
  | exact ih1 _ _ _ _ _ _ _ _ _
  | exact ih2 _ _ _ _ _ _ _ _ _
  | exact q10.mono _ _ _
  | exact LeO.none _
  | refine LeO.ite ?_ ?_
  | refine LeO.bind ?_ (fun _ => ?_)
set_option maxHeartbeats 8000000 in
set_option maxRecDepth 100000 in
theorem q12.calls (k : Nat) (a0_0 : Int) (A0_1 : Option Addr) (c0_1 : Nat) (l0_1 : List (S93)) (A0_2 : Option Addr) (c0_2 : Nat) (l0_2 : List (S90)) (A0_3 : Option Addr) (c0_3 : Nat) (l0_3 : List (S111)) (a1_0 : Int) (A1_1 : Option Addr) (c1_1 : Nat) (l1_1 : List (S93)) (A1_2 : Option Addr) (c1_2 : Nat) (l1_2 : List (S90)) (A1_3 : Option Addr) (c1_3 : Nat) (l1_3 : List (S111)) (r : Bool) (w : World) (hr0_1 : Kd.C k93 w A0_1 l0_1.length l0_1) (hc0_1 : l0_1.length ≤ c0_1) (hr0_2 : Kd.C k90 w A0_2 l0_2.length l0_2) (hc0_2 : l0_2.length ≤ c0_2) (hr0_3 : Kd.C k111 w A0_3 l0_3.length l0_3) (hc0_3 : l0_3.length ≤ c0_3) (hr1_1 : Kd.C k93 w A1_1 l1_1.length l1_1) (hc1_1 : l1_1.length ≤ c1_1) (hr1_2 : Kd.C k90 w A1_2 l1_2.length l1_2) (hc1_2 : l1_2.length ≤ c1_2) (hr1_3 : Kd.C k111 w A1_3 l1_3.length l1_3) (hc1_3 : l1_3.length ≤ c1_3) (h : q12.f k a0_0 l0_1 l0_2 l0_3 a1_0 l1_1 l1_2 l1_3 = some r) :
 Calls Try.prog 44 #[.agg #[.int .i64 a0_0, .slice A0_1 l0_1.length c0_1, .slice A0_2 l0_2.length c0_2, .slice A0_3 l0_3.length c0_3], .agg #[.int .i64 a1_0, .slice A1_1 l1_1.length c1_1, .slice A1_2 l1_2.length c1_2, .slice A1_3 l1_3.length c1_3]] w fun e w' => e = .returned (.bool r) ∧ Below w.heap.size w w' := by
 have hu72 := Try.underlying72
 have hu90 := Try.underlying90
 have hu111 := Try.underlying111
 have HR0_1 := q56.mk hr0_1
 have HC0_1 := q56.mk hc0_1
 clear hr0_1 hc0_1
 have HR0_2 := q56.mk hr0_2
 have HC0_2 := q56.mk hc0_2
 clear hr0_2 hc0_2
 have HR0_3 := q56.mk hr0_3
 have HC0_3 := q56.mk hc0_3
 clear hr0_3 hc0_3
 have HR1_1 := q56.mk hr1_1
 have HC1_1 := q56.mk hc1_1
 clear hr1_1 hc1_1
 have HR1_2 := q56.mk hr1_2
 have HC1_2 := q56.mk hc1_2
 clear hr1_2 hc1_2
 have HR1_3 := q56.mk hr1_3
 have HC1_3 := q56.mk hc1_3
 clear hr1_3 hc1_3
 have HB := q56.mk (Below.refl w.heap.size w)
 unfold q12.f at h
 have H := h
 clear h
 have HC3 := q56.mk H
 clear H
 go_enter Try.func44, Try.ntmps44
 go_upto_region 1 with (first | ((with_reducible refine q71 (N := 2) rfl ?_); (try (refine gate_guard (by rfl) ?_; dsimp only)); refine bx_ 2 #[.int .i64 a0_0, .slice A0_1 l0_1.length c0_1, .slice A0_2 l0_2.length c0_2, .slice A0_3 l0_3.length c0_3] 72 ?_; intro gb232 hg w4 hbox hb; have BK232 := q56.mk (hbox); have GW232 := zz_ (w := w) hg; have GE232 := zz_ (w := w) hg; replace HB := hb_ HB hb;  clear hb hbox hg) | ((with_reducible refine q71 (N := 3) rfl ?_); (try (refine gate_guard (by rfl) ?_; dsimp only)); refine bx_ 3 #[.int .i64 a1_0, .slice A1_1 l1_1.length c1_1, .slice A1_2 l1_2.length c1_2, .slice A1_3 l1_3.length c1_3] 72 ?_; intro gb233 hg w5 hbox hb; have BK233 := q56.mk (hbox); have GW233 := zz_ (w := w) hg; have GE233 := zz_ (w := w) hg; replace HB := hb_ HB hb; have NB232_233 := ne1_ hg BK232; have NB233_232 := ne2_ hg BK232; replace BK232 := bb_ BK232 hb;  clear hb hbox hg))
 repeat (go_quiet (first | ((with_reducible refine q71 (N := 2) rfl ?_); (try (refine gate_guard (by rfl) ?_; dsimp only)); refine bx_ 2 #[.int .i64 a0_0, .slice A0_1 l0_1.length c0_1, .slice A0_2 l0_2.length c0_2, .slice A0_3 l0_3.length c0_3] 72 ?_; intro gb232 hg w4 hbox hb; have BK232 := q56.mk (hbox); have GW232 := zz_ (w := w) hg; have GE232 := zz_ (w := w) hg; replace HB := hb_ HB hb;  clear hb hbox hg) | ((with_reducible refine q71 (N := 3) rfl ?_); (try (refine gate_guard (by rfl) ?_; dsimp only)); refine bx_ 3 #[.int .i64 a1_0, .slice A1_1 l1_1.length c1_1, .slice A1_2 l1_2.length c1_2, .slice A1_3 l1_3.length c1_3] 72 ?_; intro gb233 hg w5 hbox hb; have BK233 := q56.mk (hbox); have GW233 := zz_ (w := w) hg; have GE233 := zz_ (w := w) hg; replace HB := hb_ HB hb; have NB232_233 := ne1_ hg BK232; have NB233_232 := ne2_ hg BK232; replace BK232 := bb_ BK232 hb;  clear hb hbox hg)); go_upto_region 1 with (first | ((with_reducible refine q71 (N := 2) rfl ?_); (try (refine gate_guard (by rfl) ?_; dsimp only)); refine bx_ 2 #[.int .i64 a0_0, .slice A0_1 l0_1.length c0_1, .slice A0_2 l0_2.length c0_2, .slice A0_3 l0_3.length c0_3] 72 ?_; intro gb232 hg w4 hbox hb; have BK232 := q56.mk (hbox); have GW232 := zz_ (w := w) hg; have GE232 := zz_ (w := w) hg; replace HB := hb_ HB hb;  clear hb hbox hg) | ((with_reducible refine q71 (N := 3) rfl ?_); (try (refine gate_guard (by rfl) ?_; dsimp only)); refine bx_ 3 #[.int .i64 a1_0, .slice A1_1 l1_1.length c1_1, .slice A1_2 l1_2.length c1_2, .slice A1_3 l1_3.length c1_3] 72 ?_; intro gb233 hg w5 hbox hb; have BK233 := q56.mk (hbox); have GW233 := zz_ (w := w) hg; have GE233 := zz_ (w := w) hg; replace HB := hb_ HB hb; have NB232_233 := ne1_ hg BK232; have NB233_232 := ne2_ hg BK232; replace BK232 := bb_ BK232 hb;  clear hb hbox hg)))
 (try simp only [Act.put, List.setIfInBounds_toArray, List.set_cons_zero, List.set_cons_succ])
 go_cut [37] (fun v37 wc => ∃ (kq : Nat) (x37_2 : Bool), v37 = .bool x37_2 ∧ q56 (q12.j0 kq x37_2 a0_0 l0_1 l0_2 l0_3 a1_0 l1_1 l1_2 l1_3 = some r) ∧ q56 (kq ≤ k) ∧ q56 (wc.heap[gb232]? = some (.cells #[.int .i64 a0_0, (.slice A0_1 l0_1.length c0_1), (.slice A0_2 l0_2.length c0_2), (.slice A0_3 l0_3.length c0_3)] 72 (0, 0))) ∧ q56 (wc.heap[gb233]? = some (.cells #[.int .i64 a1_0, (.slice A1_1 l1_1.length c1_1), (.slice A1_2 l1_2.length c1_2), (.slice A1_3 l1_3.length c1_3)] 72 (0, 0))) ∧ q56 (Below w.heap.size w wc))
 case first =>
  have H := HC3.out
  clear HC3
  by_cases c6 : a0_0 = a1_0
  rotate_left
  ·rw [if_neg c6] at H
   have c6b0 : (a0_0 == a1_0) = false := beq_eq_false_iff_ne.mpr c6
   have c6b1 : (a0_0 != a1_0) = true := bne_iff_ne.mpr c6
   (first | rw [c6b0] | (simp only [i64_w, i32_w]; rw [c6b0]) | skip)
   have H' := q56.mk H
   clear H
   have hnb19 := NB232_233.out
   have hnc19 := NB233_232.out
   obtain ⟨hcz20_0, hcz20_1, hcz20_2, hcz20_3, hfz20_0, hfz20_1, hfz20_2, hfz20_3⟩ := bs4_ BK232
   obtain ⟨hcz21_0, hcz21_1, hcz21_2, hcz21_3, hfz21_0, hfz21_1, hfz21_2, hfz21_3⟩ := bs4_ BK233
   go_wp2
   repeat (go_quiet (fail); try go_wp2)
   go_meet
   case rel => exact ⟨_, (true), rf_, H', ⟨by first | omega | exact Nat.le_refl _⟩, ⟨gx_ BK232⟩, ⟨gx_ BK233⟩, ⟨hf_⟩⟩
  rw [if_pos c6] at H
  have c6b0 : (a0_0 == a1_0) = true := beq_iff_eq.mpr c6
  have c6b1 : (a0_0 != a1_0) = false := bne_eq_false_iff_eq.mpr c6
  clear c6
  (first | rw [c6b0] | (simp only [i64_w, i32_w]; rw [c6b0]) | skip)
  replace H := bd_ H
  obtain ⟨t234, A7, H⟩ := H
  by_cases c8 : t234 = true
  rotate_left
  ·replace c8 := Bool.eq_false_iff.mpr c8
   subst c8
   replace H := ie_ H
   have H' := q56.mk H
   clear H
   have hnb16 := NB232_233.out
   have hnc16 := NB233_232.out
   obtain ⟨hcz17_0, hcz17_1, hcz17_2, hcz17_3, hfz17_0, hfz17_1, hfz17_2, hfz17_3⟩ := bs4_ BK232
   obtain ⟨hcz18_0, hcz18_1, hcz18_2, hcz18_3, hfz18_0, hfz18_1, hfz18_2, hfz18_3⟩ := bs4_ BK233
   go_wp2_with (first | (go_at_call 79; (with_reducible refine (q10.calls k _ _ l0_1 _ _ l1_1 false _ ?side1 ?side2 ?side3 ?side4 A7.out).mono ?_); (case side1 => exact kc_ HR0_1 HB); (case side2 => exact HC0_1.out); (case side3 => exact kc_ HR1_1 HB); (case side4 => exact HC1_1.out); rintro e w' ⟨rfl, ⟨nd, rfl⟩⟩; (try first | exact ⟨rfl, _, World.drewN_drewN _ _ _⟩ | exact ⟨rfl, _, Eq.trans (World.drewN_drewN _ _ _) (congrArg (World.drewN _) (Nat.add_assoc _ _ _))⟩)))
   repeat (go_quiet (first | (go_at_call 79; (with_reducible refine (q10.calls k _ _ l0_1 _ _ l1_1 false _ ?side1 ?side2 ?side3 ?side4 A7.out).mono ?_); (case side1 => exact kc_ HR0_1 HB); (case side2 => exact HC0_1.out); (case side3 => exact kc_ HR1_1 HB); (case side4 => exact HC1_1.out); rintro e w' ⟨rfl, ⟨nd, rfl⟩⟩; (try first | exact ⟨rfl, _, World.drewN_drewN _ _ _⟩ | exact ⟨rfl, _, Eq.trans (World.drewN_drewN _ _ _) (congrArg (World.drewN _) (Nat.add_assoc _ _ _))⟩))); try go_wp2_with (first | (go_at_call 79; (with_reducible refine (q10.calls k _ _ l0_1 _ _ l1_1 false _ ?side1 ?side2 ?side3 ?side4 A7.out).mono ?_); (case side1 => exact kc_ HR0_1 HB); (case side2 => exact HC0_1.out); (case side3 => exact kc_ HR1_1 HB); (case side4 => exact HC1_1.out); rintro e w' ⟨rfl, ⟨nd, rfl⟩⟩; (try first | exact ⟨rfl, _, World.drewN_drewN _ _ _⟩ | exact ⟨rfl, _, Eq.trans (World.drewN_drewN _ _ _) (congrArg (World.drewN _) (Nat.add_assoc _ _ _))⟩))))
   go_meet
   case rel => exact ⟨_, (true), rf_, H', ⟨by first | omega | exact Nat.le_refl _⟩, ⟨gx_ BK232⟩, ⟨gx_ BK233⟩, ⟨hf_⟩⟩
  subst c8
  replace H := it_ H
  by_cases c9 : (l0_2.length : Int) = (l1_2.length : Int)
  ·rw [if_pos c9] at H
   have c9b0 : ((l0_2.length : Int) == (l1_2.length : Int)) = true := beq_iff_eq.mpr c9
   have c9b1 : ((l0_2.length : Int) != (l1_2.length : Int)) = false := bne_eq_false_iff_eq.mpr c9
   have c9b2 : (l0_2.length == l1_2.length) = true := by first | simpa using c9 | (simp at c9 ⊢; omega)
   clear c9
   have H' := q56.mk H
   clear H
   have hnb10 := NB232_233.out
   have hnc10 := NB233_232.out
   obtain ⟨hcz11_0, hcz11_1, hcz11_2, hcz11_3, hfz11_0, hfz11_1, hfz11_2, hfz11_3⟩ := bs4_ BK232
   obtain ⟨hcz12_0, hcz12_1, hcz12_2, hcz12_3, hfz12_0, hfz12_1, hfz12_2, hfz12_3⟩ := bs4_ BK233
   go_wp2_with (first | (go_at_call 79; (with_reducible refine (q10.calls k _ _ l0_1 _ _ l1_1 true _ ?side1 ?side2 ?side3 ?side4 A7.out).mono ?_); (case side1 => exact kc_ HR0_1 HB); (case side2 => exact HC0_1.out); (case side3 => exact kc_ HR1_1 HB); (case side4 => exact HC1_1.out); rintro e w' ⟨rfl, ⟨nd, rfl⟩⟩; (try first | exact ⟨rfl, _, World.drewN_drewN _ _ _⟩ | exact ⟨rfl, _, Eq.trans (World.drewN_drewN _ _ _) (congrArg (World.drewN _) (Nat.add_assoc _ _ _))⟩)))
   repeat (go_quiet (first | (go_at_call 79; (with_reducible refine (q10.calls k _ _ l0_1 _ _ l1_1 true _ ?side1 ?side2 ?side3 ?side4 A7.out).mono ?_); (case side1 => exact kc_ HR0_1 HB); (case side2 => exact HC0_1.out); (case side3 => exact kc_ HR1_1 HB); (case side4 => exact HC1_1.out); rintro e w' ⟨rfl, ⟨nd, rfl⟩⟩; (try first | exact ⟨rfl, _, World.drewN_drewN _ _ _⟩ | exact ⟨rfl, _, Eq.trans (World.drewN_drewN _ _ _) (congrArg (World.drewN _) (Nat.add_assoc _ _ _))⟩))); try go_wp2_with (first | (go_at_call 79; (with_reducible refine (q10.calls k _ _ l0_1 _ _ l1_1 true _ ?side1 ?side2 ?side3 ?side4 A7.out).mono ?_); (case side1 => exact kc_ HR0_1 HB); (case side2 => exact HC0_1.out); (case side3 => exact kc_ HR1_1 HB); (case side4 => exact HC1_1.out); rintro e w' ⟨rfl, ⟨nd, rfl⟩⟩; (try first | exact ⟨rfl, _, World.drewN_drewN _ _ _⟩ | exact ⟨rfl, _, Eq.trans (World.drewN_drewN _ _ _) (congrArg (World.drewN _) (Nat.add_assoc _ _ _))⟩))))
   go_meet
   case rel => exact ⟨_, (((l0_3.length : Int) != (l1_3.length : Int))), rf_, H', ⟨by first | omega | exact Nat.le_refl _⟩, ⟨gx_ BK232⟩, ⟨gx_ BK233⟩, ⟨hf_⟩⟩
  rw [if_neg c9] at H
  have c9b0 : ((l0_2.length : Int) == (l1_2.length : Int)) = false := beq_eq_false_iff_ne.mpr c9
  have c9b1 : ((l0_2.length : Int) != (l1_2.length : Int)) = true := bne_iff_ne.mpr c9
  have c9b2 : (l0_2.length == l1_2.length) = false := by first | simpa using c9 | (simp at c9 ⊢; omega)
  have H' := q56.mk H
  clear H
  have hnb13 := NB232_233.out
  have hnc13 := NB233_232.out
  obtain ⟨hcz14_0, hcz14_1, hcz14_2, hcz14_3, hfz14_0, hfz14_1, hfz14_2, hfz14_3⟩ := bs4_ BK232
  obtain ⟨hcz15_0, hcz15_1, hcz15_2, hcz15_3, hfz15_0, hfz15_1, hfz15_2, hfz15_3⟩ := bs4_ BK233
  go_wp2_with (first | (go_at_call 79; (with_reducible refine (q10.calls k _ _ l0_1 _ _ l1_1 true _ ?side1 ?side2 ?side3 ?side4 A7.out).mono ?_); (case side1 => exact kc_ HR0_1 HB); (case side2 => exact HC0_1.out); (case side3 => exact kc_ HR1_1 HB); (case side4 => exact HC1_1.out); rintro e w' ⟨rfl, ⟨nd, rfl⟩⟩; (try first | exact ⟨rfl, _, World.drewN_drewN _ _ _⟩ | exact ⟨rfl, _, Eq.trans (World.drewN_drewN _ _ _) (congrArg (World.drewN _) (Nat.add_assoc _ _ _))⟩)))
  repeat (go_quiet (first | (go_at_call 79; (with_reducible refine (q10.calls k _ _ l0_1 _ _ l1_1 true _ ?side1 ?side2 ?side3 ?side4 A7.out).mono ?_); (case side1 => exact kc_ HR0_1 HB); (case side2 => exact HC0_1.out); (case side3 => exact kc_ HR1_1 HB); (case side4 => exact HC1_1.out); rintro e w' ⟨rfl, ⟨nd, rfl⟩⟩; (try first | exact ⟨rfl, _, World.drewN_drewN _ _ _⟩ | exact ⟨rfl, _, Eq.trans (World.drewN_drewN _ _ _) (congrArg (World.drewN _) (Nat.add_assoc _ _ _))⟩))); try go_wp2_with (first | (go_at_call 79; (with_reducible refine (q10.calls k _ _ l0_1 _ _ l1_1 true _ ?side1 ?side2 ?side3 ?side4 A7.out).mono ?_); (case side1 => exact kc_ HR0_1 HB); (case side2 => exact HC0_1.out); (case side3 => exact kc_ HR1_1 HB); (case side4 => exact HC1_1.out); rintro e w' ⟨rfl, ⟨nd, rfl⟩⟩; (try first | exact ⟨rfl, _, World.drewN_drewN _ _ _⟩ | exact ⟨rfl, _, Eq.trans (World.drewN_drewN _ _ _) (congrArg (World.drewN _) (Nat.add_assoc _ _ _))⟩))))
  go_meet
  case rel => exact ⟨_, (true), rf_, H', ⟨by first | omega | exact Nat.le_refl _⟩, ⟨gx_ BK232⟩, ⟨gx_ BK233⟩, ⟨hf_⟩⟩
 case rest =>
 clear HC3
 obtain ⟨kq, x37_2, rfl, HA, HJ2, BK232, BK233, HB⟩ := hcut
 cases kq with
 | zero => exact absurd HA.out (by simp [q12.j0])
 | succ kj2 =>
 have H := HA.out
 clear HA
 simp only [q12.j0] at H
 by_cases c22 : x37_2 = true
 ·subst c22
  replace H := it_ H
  obtain rfl := Option.some.inj H
  go_wp2
  repeat (go_quiet (fail); try go_wp2)
  go_ret
  exact ⟨er_, hf_⟩
 replace c22 := Bool.eq_false_iff.mpr c22
 subst c22
 replace H := ie_ H
 have H' := q56.mk H
 clear H
 go_wp2
 repeat (go_quiet (fail); try go_wp2)
 go_loopg [5] kj2 (fun kq v5 w' => ∃ (x5_2 : Int), v5 = .int .i64 x5_2 ∧ q56 (q12.l0 kq x5_2 a0_0 l0_1 l0_2 l0_3 a1_0 l1_1 l1_2 l1_3 = some r) ∧ q56 (kq ≤ kj2) ∧ q56 (w'.heap[gb232]? = some (.cells #[.int .i64 a0_0, (.slice A0_1 l0_1.length c0_1), (.slice A0_2 l0_2.length c0_2), (.slice A0_3 l0_3.length c0_3)] 72 (0, 0))) ∧ q56 (w'.heap[gb233]? = some (.cells #[.int .i64 a1_0, (.slice A1_1 l1_1.length c1_1), (.slice A1_2 l1_2.length c1_2), (.slice A1_3 l1_3.length c1_3)] 72 (0, 0))) ∧ q56 (Below w.heap.size w w'))
 case atStart => exact ⟨(0), rf_, H', ⟨Nat.le_refl _⟩, ⟨gx_ BK232⟩, ⟨gx_ BK233⟩, ⟨hf_⟩⟩
 case round =>
 clear H'
 obtain ⟨x5_2, rfl, HA, HK2, BK232, BK233, HB⟩ := hrel
 cases gk with
 | zero => exact absurd HA.out (by simp [q12.l0])
 | succ k2 =>
 have H := HA.out
 clear HA
 simp only [q12.l0] at H
 by_cases c23 : x5_2 < (l0_2.length : Int)
 ·rw [if_pos c23] at H
  have c23b0 := decide_eq_true c23
  clear c23
  by_cases c24 : 0 ≤ x5_2
  rotate_left
  ·rw [if_neg c24] at H
   exact absurd H (by simp)
  rw [if_pos c24] at H
  replace c24 := decide_eq_true c24
  by_cases c25 : x5_2 < (l1_2.length : Int)
  rotate_left
  ·rw [if_neg c25] at H
   exact absurd H (by simp)
  rw [if_pos c25] at H
  replace c25 := decide_eq_true c25
  by_cases c26 : (!((((q84 l0_2 x5_2).f0).toList) == (((q84 l1_2 x5_2).f0).toList)) || (!((((q84 l0_2 x5_2).f1).toList) == (((q84 l1_2 x5_2).f1).toList)) || (!(((q84 l0_2 x5_2).f2) == ((q84 l1_2 x5_2).f2))))) = true
  ·rw [if_pos c26] at H
   have c26b0 : (!((((q84 l0_2 x5_2).f0).toList) == (((q84 l1_2 x5_2).f0).toList)) || (!((((q84 l0_2 x5_2).f1).toList) == (((q84 l1_2 x5_2).f1).toList)) || (!(((q84 l0_2 x5_2).f2) == ((q84 l1_2 x5_2).f2))))) = true := c26
   clear c26
   obtain rfl := Option.some.inj H
   have hnb27 := NB232_233.out
   have hnc27 := NB233_232.out
   obtain ⟨hcz28_0, hcz28_1, hcz28_2, hcz28_3, hfz28_0, hfz28_1, hfz28_2, hfz28_3⟩ := bs4_ BK232
   obtain ⟨ad235, e235, hx235_0, hx235_1, hx235_2, p235, q235⟩ := au_T90 HR0_2 HB (x5_2)
   cases e235
   obtain ⟨hcz29_0, hcz29_1, hcz29_2, hcz29_3, hfz29_0, hfz29_1, hfz29_2, hfz29_3⟩ := bs4_ BK233
   obtain ⟨ad236, e236, hx236_0, hx236_1, hx236_2, p236, q236⟩ := au_T90 HR1_2 HB (x5_2)
   cases e236
   go_wp2
   repeat (go_quiet (fail); try go_wp2)
   go_ret
   exact ⟨er_, hf_⟩
  rw [if_neg c26] at H
  have c26b0 : (!((((q84 l0_2 x5_2).f0).toList) == (((q84 l1_2 x5_2).f0).toList)) || (!((((q84 l0_2 x5_2).f1).toList) == (((q84 l1_2 x5_2).f1).toList)) || (!(((q84 l0_2 x5_2).f2) == ((q84 l1_2 x5_2).f2))))) = false := by simpa using c26
  clear c26
  have H' := q56.mk H
  clear H
  have hnb30 := NB232_233.out
  have hnc30 := NB233_232.out
  obtain ⟨hcz31_0, hcz31_1, hcz31_2, hcz31_3, hfz31_0, hfz31_1, hfz31_2, hfz31_3⟩ := bs4_ BK232
  obtain ⟨ad235, e235, hx235_0, hx235_1, hx235_2, p235, q235⟩ := au_T90 HR0_2 HB (x5_2)
  cases e235
  obtain ⟨hcz32_0, hcz32_1, hcz32_2, hcz32_3, hfz32_0, hfz32_1, hfz32_2, hfz32_3⟩ := bs4_ BK233
  obtain ⟨ad236, e236, hx236_0, hx236_1, hx236_2, p236, q236⟩ := au_T90 HR1_2 HB (x5_2)
  cases e236
  go_wp2
  repeat (go_quiet (fail); try go_wp2)
  go_roundg k2
  case measure => have := HJ2.out; have := HK2.out; omega
  case rel => exact ⟨(wrap64 (x5_2 + 1)), rf_, H', ⟨by have := HJ2.out; have := HK2.out; omega⟩, ⟨gx_ BK232⟩, ⟨gx_ BK233⟩, ⟨hf_⟩⟩
 rw [if_neg c23] at H
 have c23b0 := decide_eq_false c23
 clear c23
 have H' := q56.mk H
 clear H
 have hnb33 := NB232_233.out
 have hnc33 := NB233_232.out
 obtain ⟨hcz34_0, hcz34_1, hcz34_2, hcz34_3, hfz34_0, hfz34_1, hfz34_2, hfz34_3⟩ := bs4_ BK232
 go_wp2
 repeat (go_quiet (fail); try go_wp2)
 go_loopg [6] k2 (fun kq v6 w' => ∃ (x6_3 : Int), v6 = .int .i64 x6_3 ∧ q56 (q12.l1 kq x6_3 a0_0 l0_1 l0_2 l0_3 a1_0 l1_1 l1_2 l1_3 = some r) ∧ q56 (kq ≤ k2) ∧ q56 (w'.heap[gb232]? = some (.cells #[.int .i64 a0_0, (.slice A0_1 l0_1.length c0_1), (.slice A0_2 l0_2.length c0_2), (.slice A0_3 l0_3.length c0_3)] 72 (0, 0))) ∧ q56 (w'.heap[gb233]? = some (.cells #[.int .i64 a1_0, (.slice A1_1 l1_1.length c1_1), (.slice A1_2 l1_2.length c1_2), (.slice A1_3 l1_3.length c1_3)] 72 (0, 0))) ∧ q56 (Below w.heap.size w w'))
 case atStart => exact ⟨(0), rf_, H', ⟨Nat.le_refl _⟩, ⟨gx_ BK232⟩, ⟨gx_ BK233⟩, ⟨hf_⟩⟩
 case round =>
 clear H'
 clear c23b0 hcz34_0 hcz34_1 hcz34_2 hcz34_3 hfz34_0 hfz34_1 hfz34_2 hfz34_3
 obtain ⟨x6_3, rfl, HA, HK3, BK232, BK233, HB⟩ := hrel
 cases gk with
 | zero => exact absurd HA.out (by simp [q12.l1])
 | succ k3 =>
 have H := HA.out
 clear HA
 simp only [q12.l1] at H
 by_cases c35 : x6_3 < (l0_3.length : Int)
 rotate_left
 ·rw [if_neg c35] at H
  replace c35 := decide_eq_false c35
  obtain rfl := Option.some.inj H
  have hnb45 := NB232_233.out
  have hnc45 := NB233_232.out
  obtain ⟨hcz46_0, hcz46_1, hcz46_2, hcz46_3, hfz46_0, hfz46_1, hfz46_2, hfz46_3⟩ := bs4_ BK232
  go_wp2
  repeat (go_quiet (fail); try go_wp2)
  go_ret
  exact ⟨er_, hf_⟩
 rw [if_pos c35] at H
 replace c35 := decide_eq_true c35
 by_cases c36 : 0 ≤ x6_3
 rotate_left
 ·rw [if_neg c36] at H
  exact absurd H (by simp)
 rw [if_pos c36] at H
 replace c36 := decide_eq_true c36
 by_cases c37 : x6_3 < (l1_3.length : Int)
 rotate_left
 ·rw [if_neg c37] at H
  exact absurd H (by simp)
 rw [if_pos c37] at H
 replace c37 := decide_eq_true c37
 by_cases c38 : (!(((q79 l0_3 x6_3).f0) == ((q79 l1_3 x6_3).f0)) || (!(((q79 l0_3 x6_3).f1) == ((q79 l1_3 x6_3).f1)))) = true
 ·rw [if_pos c38] at H
  have c38b0 : (!(((q79 l0_3 x6_3).f0) == ((q79 l1_3 x6_3).f0)) || (!(((q79 l0_3 x6_3).f1) == ((q79 l1_3 x6_3).f1)))) = true := c38
  clear c38
  obtain rfl := Option.some.inj H
  have hnb39 := NB232_233.out
  have hnc39 := NB233_232.out
  obtain ⟨hcz40_0, hcz40_1, hcz40_2, hcz40_3, hfz40_0, hfz40_1, hfz40_2, hfz40_3⟩ := bs4_ BK232
  obtain ⟨ad237, e237, hx237_0, hx237_1, p237, q237⟩ := au_T111 HR0_3 HB (x6_3)
  cases e237
  obtain ⟨hcz41_0, hcz41_1, hcz41_2, hcz41_3, hfz41_0, hfz41_1, hfz41_2, hfz41_3⟩ := bs4_ BK233
  obtain ⟨ad238, e238, hx238_0, hx238_1, p238, q238⟩ := au_T111 HR1_3 HB (x6_3)
  cases e238
  go_wp2
  repeat (go_quiet (fail); try go_wp2)
  go_ret
  exact ⟨er_, hf_⟩
 rw [if_neg c38] at H
 have c38b0 : (!(((q79 l0_3 x6_3).f0) == ((q79 l1_3 x6_3).f0)) || (!(((q79 l0_3 x6_3).f1) == ((q79 l1_3 x6_3).f1)))) = false := by simpa using c38
 clear c38
 have H' := q56.mk H
 clear H
 have hnb42 := NB232_233.out
 have hnc42 := NB233_232.out
 obtain ⟨hcz43_0, hcz43_1, hcz43_2, hcz43_3, hfz43_0, hfz43_1, hfz43_2, hfz43_3⟩ := bs4_ BK232
 obtain ⟨ad237, e237, hx237_0, hx237_1, p237, q237⟩ := au_T111 HR0_3 HB (x6_3)
 cases e237
 obtain ⟨hcz44_0, hcz44_1, hcz44_2, hcz44_3, hfz44_0, hfz44_1, hfz44_2, hfz44_3⟩ := bs4_ BK233
 obtain ⟨ad238, e238, hx238_0, hx238_1, p238, q238⟩ := au_T111 HR1_3 HB (x6_3)
 cases e238
 go_wp2
 repeat (go_quiet (fail); try go_wp2)
 go_roundg k3
 case measure => have := HJ2.out; have := HK2.out; have := HK3.out; omega
 case rel => exact ⟨(wrap64 (x6_3 + 1)), rf_, H', ⟨by have := HJ2.out; have := HK2.out; have := HK3.out; omega⟩, ⟨gx_ BK232⟩, ⟨gx_ BK233⟩, ⟨hf_⟩⟩
end Go.Proofs.Yteddgedacjdjgaa.Pm
end
section
namespace Go.Proofs.Yteddgedacjdjgaa.Pm
open Go.RowKit Go.Proofs.YteddgedacjdjgaaW.PrintWords Go.Proofs.YteddgedacjdjgaaW.PrintLast Go.Proofs.YteddgedacjdjgaaW.PrintMore
attribute [local go_sem] max2_int min2_int max_two min_two max_three min_three max_four min_four   -- for this text's walks alone
set_option linter.unusedVariables false
set_option linter.unusedSimpArgs false
def q17.l0 : Nat → List Int → List Int → Int → Option (Bool)
 | 0, _, _, _ => none
 | k + 1, x0, x1, x5 => if x5 < (x0.length : Int) then (if 0 ≤ x5 then (if x5 < (x1.length : Int) then (if (rd x0 x5) = (rd x1 x5) then (q17.l0 k x0 x1 (wrap64 (x5 + 1))) else (some false)) else (none)) else (none)) else (some true)
def q17.f (k : Nat) (l0 : List Int) (l1 : List Int) : Option (Bool) := if (l0.length : Int) = (l1.length : Int) then (q17.l0 k l0 l1 0) else (some false)
theorem q17.mono_l : ∀ k, (∀ y0 y1 y2, LeO (q17.l0 k y0 y1 y2) (q17.l0 (k + 1) y0 y1 y2))
 | 0 => fun _ _ _ r h => by simp [q17.l0] at h
 | k + 1 => by
  have ih0 := q17.mono_l k
  ·intro y0 y1 y2
   unfold q17.l0
   repeat' first
   | (with_reducible exact ih0 _ _ _)
   | (with_reducible exact LeO.refl _)
   | (with_reducible exact LeO.none _)
   | (with_reducible refine LeO.ite ?_ ?_)
   | (with_reducible refine LeO.bind ?_ (fun _ => ?_))
   | exact ih0 _ _ _
   | exact LeO.none _
   | refine LeO.ite ?_ ?_
   | refine LeO.bind ?_ (fun _ => ?_)
theorem q17.mono : ∀ a0 a1 k, LeO (q17.f k a0 a1) (q17.f (k + 1) a0 a1) := by
 intro a0 a1 k
 have ih0 := q17.mono_l k
 unfold q17.f
 repeat' first
  | (with_reducible exact ih0 _ _ _)
  | (with_reducible exact LeO.refl _)
  | (with_reducible exact LeO.none _)
  | (with_reducible refine LeO.ite ?_ ?_)
  | (with_reducible refine LeO.bind ?_ (fun _ => ?_))
  | exact ih0 _ _ _
  | exact LeO.none _
  | refine LeO.ite ?_ ?_
  | refine LeO.bind ?_ (fun _ => ?_)
set_option maxHeartbeats 8000000 in
set_option maxRecDepth 100000 in
theorem q17.calls (k : Nat) (A0 : Option Addr) (c0 : Nat) (l0 : List Int) (A1 : Option Addr) (c1 : Nat) (l1 : List Int) (r : Bool) (w : World) (hr0 : Kd.C (Kd.int .i64) w A0 l0.length l0) (hc0 : l0.length ≤ c0) (hr1 : Kd.C (Kd.int .i64) w A1 l1.length l1) (hc1 : l1.length ≤ c1) (h : q17.f k l0 l1 = some r) :
 Calls Try.prog 12 #[.slice A0 l0.length c0, .slice A1 l1.length c1] w fun e w' => e = .returned (.bool r) ∧ Drawn0 w w' := by
 have HR0 := q56.mk hr0
 have HC0 := q56.mk hc0
 clear hr0 hc0
 have HR1 := q56.mk hr1
 have HC1 := q56.mk hc1
 clear hr1 hc1
 unfold q17.f at h
 have H := h
 clear h
 by_cases c3 : (l0.length : Int) = (l1.length : Int)
 rotate_left
 ·rw [if_neg c3] at H
  have c3b0 : ((l0.length : Int) == (l1.length : Int)) = false := beq_eq_false_iff_ne.mpr c3
  have c3b1 : ((l0.length : Int) != (l1.length : Int)) = true := bne_iff_ne.mpr c3
  have c3b2 : (l0.length == l1.length) = false := by first | simpa using c3 | (simp at c3 ⊢; omega)
  obtain rfl := Option.some.inj H
  go_enter Try.func12, Try.ntmps12
  go_wp2
  repeat (go_quiet (fail); try go_wp2)
  go_ret
  exact ⟨by first | rfl | (simp; done) | (simp [*]; done), by repeat (first | exact Drawn0.refl _ | apply Drawn0.step)⟩
 rw [if_pos c3] at H
 have c3b0 : ((l0.length : Int) == (l1.length : Int)) = true := beq_iff_eq.mpr c3
 have c3b1 : ((l0.length : Int) != (l1.length : Int)) = false := bne_eq_false_iff_eq.mpr c3
 have c3b2 : (l0.length == l1.length) = true := by first | simpa using c3 | (simp at c3 ⊢; omega)
 clear c3
 have H' := q56.mk H
 clear H
 go_enter Try.func12, Try.ntmps12
 go_wp2
 repeat (go_quiet (fail); try go_wp2)
 go_loopg [5] k (fun kq v5 w' => ∃ (x5_1 : Int), v5 = .int .i64 x5_1 ∧ q56 (q17.l0 kq l0 l1 x5_1 = some r) ∧ q56 (kq ≤ k) ∧ Drawn0 w w')
 case atStart => exact ⟨(0), rf_, H', ⟨Nat.le_refl _⟩, by repeat (first | exact Drawn0.refl _ | apply Drawn0.step)⟩
 case round =>
 clear H'
 clear c3b0 c3b1 c3b2
 obtain ⟨x5_1, rfl, HA, HK1, ⟨m1, rfl⟩⟩ := hrel
 cases gk with
 | zero => exact absurd HA.out (by simp [q17.l0])
 | succ k1 =>
 have H := HA.out
 clear HA
 simp only [q17.l0] at H
 by_cases c4 : x5_1 < (l0.length : Int)
 rotate_left
 ·rw [if_neg c4] at H
  replace c4 := decide_eq_false c4
  obtain rfl := Option.some.inj H
  go_wp2
  repeat (go_quiet (fail); try go_wp2)
  go_ret
  exact ⟨by first | rfl | (simp; done) | (simp [*]; done), by repeat (first | exact Drawn0.refl _ | apply Drawn0.step)⟩
 rw [if_pos c4] at H
 replace c4 := decide_eq_true c4
 by_cases c5 : 0 ≤ x5_1
 rotate_left
 ·rw [if_neg c5] at H
  exact absurd H (by simp)
 rw [if_pos c5] at H
 replace c5 := decide_eq_true c5
 by_cases c6 : x5_1 < (l1.length : Int)
 rotate_left
 ·rw [if_neg c6] at H
  exact absurd H (by simp)
 rw [if_pos c6] at H
 replace c6 := decide_eq_true c6
 by_cases c7 : (rd l0 x5_1) = (rd l1 x5_1)
 ·rw [if_pos c7] at H
  have c7b0 : ((rd l0 x5_1) == (rd l1 x5_1)) = true := beq_iff_eq.mpr c7
  have c7b1 : ((rd l0 x5_1) != (rd l1 x5_1)) = false := bne_eq_false_iff_eq.mpr c7
  clear c7
  have H' := q56.mk H
  clear H
  obtain ⟨ad219, e219, hx219_0, p219, q219⟩ := au_int HR0 ⟨Below.refl _ _⟩ (x5_1)
  cases e219
  obtain ⟨ad220, e220, hx220_0, p220, q220⟩ := au_int HR1 ⟨Below.refl _ _⟩ (x5_1)
  cases e220
  go_wp2
  repeat (go_quiet (fail); try go_wp2)
  go_roundg k1
  case measure => have := HK1.out; omega
  case rel => exact ⟨(wrap64 (x5_1 + 1)), rf_, H', ⟨by have := HK1.out; omega⟩, by repeat (first | exact Drawn0.refl _ | apply Drawn0.step)⟩
 rw [if_neg c7] at H
 have c7b0 : ((rd l0 x5_1) == (rd l1 x5_1)) = false := beq_eq_false_iff_ne.mpr c7
 have c7b1 : ((rd l0 x5_1) != (rd l1 x5_1)) = true := bne_iff_ne.mpr c7
 obtain rfl := Option.some.inj H
 obtain ⟨ad219, e219, hx219_0, p219, q219⟩ := au_int HR0 ⟨Below.refl _ _⟩ (x5_1)
 cases e219
 obtain ⟨ad220, e220, hx220_0, p220, q220⟩ := au_int HR1 ⟨Below.refl _ _⟩ (x5_1)
 cases e220
 go_wp2
 repeat (go_quiet (fail); try go_wp2)
 go_ret
 exact ⟨by first | rfl | (simp; done) | (simp [*]; done), by repeat (first | exact Drawn0.refl _ | apply Drawn0.step)⟩
def bits (n m : Nat) : Array Bool := ((List.range n).map (fun i => m.testBit i)).toArray
section
variable {P : Program} {md : Region.Mode} {ops : Array Oper} {Q : Exit → Act → World → Prop} {S : World → Prop} {ds : List Nat}
theorem st_ {id : Nat} {a : Act} {w : World} (S : World → Prop) (n : Nat) (hS : S w.drew) (h : S w.drew → q86 P .any ops Q S [] n (bits n 0) a w.drew)
 (hm : P.follows .mixedOrders = true := by kernel_rfl) (hn : ops.size = n := by exact rfl) (hl : Array.replicate n false = bits n 0 := by kernel_rfl) : (Code.region id ops true).wp P Q a w :=
 start_ (bits n 0) hm hn hl hS h
theorem pu_ {n m fuel : Nat} {oi : Oper} {v : Value} {a a' : Act} {w : World} (i : Nat) (N : Option Tmp) (h : q86 P md ops Q S ds fuel (bits n (m ||| 1 <<< i)) a' w)
 (hi : ops[i]? = some oi := by exact rfl) (hN : oi.dst = N := by exact rfl) (hc : anyB md ops (bits n m) (bits n (m ||| 1 <<< i)) i = true := by kernel_rfl)
 (hw : Region.wanted oi (yielded ops a.tmps) = true := by exact rfl) (hy : ∀ w', (execOp a.eval oi).run P w' = .ok (.value v) w' := by (intro w'; go_simp; with_reducible rfl))
 (ha : a.put N v = a' := by (simp only [Act.put, List.setIfInBounds_toArray, List.set_cons_zero, List.set_cons_succ, i64_w, i32_w]; rfl))
 (hQ : ∀ c a w, Q (.panic c) (a.put oi.dst v) w → Q (.panic c) a w := by exact fun _ _ _ h => h) : q86 P md ops Q S ds (fuel + 1) (bits n m) a w :=
 pure_ _ hi hN hc hQ (Or.inl ⟨hw, hy⟩) ha h
theorem sk_ {n m fuel : Nat} {oi : Oper} {a a' : Act} {w : World} (i : Nat) (N : Option Tmp) (h : q86 P md ops Q S ds fuel (bits n (m ||| 1 <<< i)) a' w)
 (hi : ops[i]? = some oi := by exact rfl) (hN : oi.dst = N := by exact rfl) (hc : anyB md ops (bits n m) (bits n (m ||| 1 <<< i)) i = true := by kernel_rfl)
 (hw : Region.wanted oi (yielded ops a.tmps) = false := by exact rfl)
 (ha : a.put N undef = a' := by (simp only [Act.put, List.setIfInBounds_toArray, List.set_cons_zero, List.set_cons_succ, i64_w, i32_w]; rfl))
 (hQ : ∀ c a w, Q (.panic c) (a.put oi.dst undef) w → Q (.panic c) a w := by exact fun _ _ _ h => h) : q86 P md ops Q S ds (fuel + 1) (bits n m) a w :=
 pure_ _ hi hN hc hQ (Or.inr ⟨hw, rfl⟩) ha h
theorem tk_ {n m fuel : Nat} {oi : Oper} {v : Value} {a a' : Act} {w : World} (i : Nat) (N : Option Tmp) (hS : S w) (h : q86 P md ops Q S ds fuel (bits n (m ||| 1 <<< i)) a' w)
 (hi : ops[i]? = some oi := by exact rfl) (hN : oi.dst = N := by exact rfl) (hc : takeB md ops ds (bits n m) (bits n (m ||| 1 <<< i)) i = true := by kernel_rfl)
 (hw : Region.wanted oi (yielded ops a.tmps) = true := by exact rfl) (hy : ∀ w', S w' → (execOp a.eval oi).run P w' = .ok (.value v) w')
 (ha : a.put N v = a' := by (simp only [Act.put, List.setIfInBounds_toArray, List.set_cons_zero, List.set_cons_succ, i64_w, i32_w]; rfl))
 (hQ : ∀ c a w, Q (.panic c) (a.put oi.dst v) w → Q (.panic c) a w := by exact fun _ _ _ h => h) : q86 P md ops Q S ds (fuel + 1) (bits n m) a w :=
 take_ _ hi hN hc hQ (Or.inl ⟨hw, hy⟩) hS ha h
theorem ca_ {n m fuel : Nat} {oi : Oper} {a : Act} {w : World} {f : FuncId} {fn : Func} {os : Array Operand} {ts : Array TypeId} (i : Nat) (N : Option Tmp) (hf : P.funcs[f]? = some fn) (args : Array Value)
 (h : Calls P f args w fun e w' => ∃ v, e = .returned v ∧ S w' ∧ (S w' → ∃ a', a.put N v = a' ∧ q86 P md ops Q S ds fuel (bits n (m ||| 1 <<< i)) a' w'))
 (hi : ops[i]? = some oi := by exact rfl) (hN : oi.dst = N := by exact rfl) (hc : readyB md ops (bits n m) (bits n (m ||| 1 <<< i)) i = true := by kernel_rfl) (hd : i ∉ ds := by decide)
 (hop : oi.op = .call { callee := .value (.func f), args := os, argTypes := ts } := by exact rfl) (hargs : os.map a.eval = args := by ((try simp only [List.map_toArray, List.map_cons, List.map_nil]); first | done | rfl))
 (hw : Region.wanted oi (yielded ops a.tmps) = true := by exact rfl)
 (hname : (fn.name == "runtime.NumGoroutine") = false := by kernel_rfl) (hb : fn.body.isSome = true := by exact rfl) : q86 P md ops Q S ds (fuel + 1) (bits n m) a w :=
 one_ _ hi hN hc hd fun K hK => goes_ hf hname hb args hw hN hop hargs (h.mono fun e w' hh => by
  obtain ⟨v, rfl, hS, hW⟩ := hh
  refine ⟨v, rfl, hK.out _ _ hS fun hs => ?_⟩
  obtain ⟨a', rfl, h'⟩ := hW hs
  exact h')
theorem dn_ {n m : Nat} {a : Act} {w : World} {k : Nat} (h : Q .normal a w) (hr : (Region.ready md ops (bits n m) == []) = true := by kernel_rfl) : q86 P md ops Q S ds k (bits n m) a w := done_ hr h
end
end Go.Proofs.Yteddgedacjdjgaa.Pm
end
section
namespace Go.Proofs.Yteddgedacjdjgaa.Pm
open Go.RowKit Go.Proofs.YteddgedacjdjgaaW.PrintWords Go.Proofs.YteddgedacjdjgaaW.PrintLast Go.Proofs.YteddgedacjdjgaaW.PrintMore
attribute [local go_sem] max2_int min2_int max_two min_two max_three min_three max_four min_four   -- for this text's walks alone
set_option linter.unusedVariables false
set_option linter.unusedSimpArgs false
attribute [local go_sem high] eqA101
def q51.l0 : Nat → List (S101) → Int → Int → ByteArray → Int → Option (Int)
 | 0, _, _, _, _, _ => none
 | k + 1, x0, x7, x8, x208000, x208001 => if x8 < x7 then (if 0 ≤ x8 then (if x8 < (x0.length : Int) then (if (x208000.toList == (((q76 x0 x8).f0).toList) && (x208001 == ((q76 x0 x8).f1))) = true then (some x8) else (q51.l0 k x0 x7 (wrap64 (x8 + 1)) x208000 x208001)) else (none)) else (none)) else (some (-1))
def q51.f (k : Nat) (l0 : List (S101)) (a1_0 : ByteArray) (a1_1 : Int) : Option (Int) := q51.l0 k l0 (l0.length : Int) 0 a1_0 a1_1
theorem q51.mono_l : ∀ k, (∀ y0 y1 y2 y3 y4, LeO (q51.l0 k y0 y1 y2 y3 y4) (q51.l0 (k + 1) y0 y1 y2 y3 y4))
 | 0 => fun _ _ _ _ _ r h => by simp [q51.l0] at h
 | k + 1 => by
  have ih0 := q51.mono_l k
  ·intro y0 y1 y2 y3 y4
   unfold q51.l0
   repeat' first
   | (with_reducible exact ih0 _ _ _ _ _)
   | (with_reducible exact LeO.refl _)
   | (with_reducible exact LeO.none _)
   | (with_reducible refine LeO.ite ?_ ?_)
   | (with_reducible refine LeO.bind ?_ (fun _ => ?_))
   | exact ih0 _ _ _ _ _
   | exact LeO.none _
   | refine LeO.ite ?_ ?_
   | refine LeO.bind ?_ (fun _ => ?_)
theorem q51.mono : ∀ a0 a1 a2 k, LeO (q51.f k a0 a1 a2) (q51.f (k + 1) a0 a1 a2) := by
 intro a0 a1 a2 k
 have ih0 := q51.mono_l k
 unfold q51.f
 repeat' first
  | (with_reducible exact ih0 _ _ _ _ _)
  | (with_reducible exact LeO.refl _)
  | (with_reducible exact LeO.none _)
  | (with_reducible refine LeO.ite ?_ ?_)
  | (with_reducible refine LeO.bind ?_ (fun _ => ?_))
  | exact ih0 _ _ _ _ _
  | exact LeO.none _
  | refine LeO.ite ?_ ?_
  | refine LeO.bind ?_ (fun _ => ?_)
set_option maxHeartbeats 8000000 in
set_option maxRecDepth 100000 in
theorem q51.calls (k : Nat) (A0 : Option Addr) (c0 : Nat) (l0 : List (S101)) (a1_0 : ByteArray) (a1_1 : Int) (r : Int) (w : World) (hr0 : Kd.C k101 w A0 l0.length l0) (hc0 : l0.length ≤ c0) (h : q51.f k l0 a1_0 a1_1 = some r) :
 Calls Try.prog 105 #[.slice A0 l0.length c0, .agg #[.string a1_0, .int .i64 a1_1]] w fun e w' => e = .returned (.int .i64 r) ∧ Below w.heap.size w w' := by
 have hu101 := Try.underlying101
 have HR0 := q56.mk hr0
 have HC0 := q56.mk hc0
 clear hr0 hc0
 have HB := q56.mk (Below.refl w.heap.size w)
 have H : (q51.l0 k l0 (l0.length : Int) 0 a1_0 a1_1) = some r := h
 clear h
 have H' := q56.mk H
 clear H
 go_enter Try.func105, Try.ntmps105
 go_wp2_with (first | ((with_reducible refine q71 (N := 3) rfl ?_); refine bx_ 3 #[.string a1_0, .int .i64 a1_1] 101 ?_; intro gb207 hg w3 hbox hb; have BK207 := q56.mk (hbox); have GW207 := zz_ (w := w) hg; have GE207 := zz_ (w := w) hg; replace HB := hb_ HB hb;  clear hb hbox hg))
 repeat (go_quiet (first | ((with_reducible refine q71 (N := 3) rfl ?_); refine bx_ 3 #[.string a1_0, .int .i64 a1_1] 101 ?_; intro gb207 hg w3 hbox hb; have BK207 := q56.mk (hbox); have GW207 := zz_ (w := w) hg; have GE207 := zz_ (w := w) hg; replace HB := hb_ HB hb;  clear hb hbox hg)); try go_wp2_with (first | ((with_reducible refine q71 (N := 3) rfl ?_); refine bx_ 3 #[.string a1_0, .int .i64 a1_1] 101 ?_; intro gb207 hg w3 hbox hb; have BK207 := q56.mk (hbox); have GW207 := zz_ (w := w) hg; have GE207 := zz_ (w := w) hg; replace HB := hb_ HB hb;  clear hb hbox hg)))
 go_loopg [8] k (fun kq v8 w' => ∃ (x8_1 : Int), v8 = .int .i64 x8_1 ∧ q56 (q51.l0 kq l0 (l0.length : Int) x8_1 a1_0 a1_1 = some r) ∧ q56 (kq ≤ k) ∧ q56 (w'.heap[gb207]? = some (.cells #[.string a1_0, .int .i64 a1_1] 101 (0, 0))) ∧ q56 (Below w.heap.size w w'))
 case atStart => exact ⟨(0), rf_, H', ⟨Nat.le_refl _⟩, ⟨gx_ BK207⟩, ⟨hf_⟩⟩
 case round =>
 clear H'
 obtain ⟨x8_1, rfl, HA, HK1, BK207, HB⟩ := hrel
 cases gk with
 | zero => exact absurd HA.out (by simp [q51.l0])
 | succ k1 =>
 have H := HA.out
 clear HA
 simp only [q51.l0] at H
 by_cases c4 : x8_1 < (l0.length : Int)
 rotate_left
 ·rw [if_neg c4] at H
  replace c4 := decide_eq_false c4
  obtain rfl := Option.some.inj H
  go_wp2
  repeat (go_quiet (fail); try go_wp2)
  go_ret
  exact ⟨er_, hf_⟩
 rw [if_pos c4] at H
 replace c4 := decide_eq_true c4
 by_cases c5 : 0 ≤ x8_1
 rotate_left
 ·rw [if_neg c5] at H
  exact absurd H (by simp)
 rw [if_pos c5] at H
 replace c5 := decide_eq_true c5
 by_cases c6 : x8_1 < (l0.length : Int)
 rotate_left
 ·rw [if_neg c6] at H
  exact absurd H (by simp)
 rw [if_pos c6] at H
 replace c6 := decide_eq_true c6
 by_cases c7 : (a1_0.toList == (((q76 l0 x8_1).f0).toList) && (a1_1 == ((q76 l0 x8_1).f1))) = true
 ·rw [if_pos c7] at H
  have c7b0 : (a1_0.toList == (((q76 l0 x8_1).f0).toList) && (a1_1 == ((q76 l0 x8_1).f1))) = true := c7
  (try (have c7b1 : decide (a1_0.toList = (((q76 l0 x8_1).f0).toList) && (a1_1 == ((q76 l0 x8_1).f1))) = true := by simpa using c7))
  (try (have c7b2 : (a1_0.toList == (((q76 l0 x8_1).f0).toList) && (a1_1 == ((q76 l0 x8_1).f1))) = true := by simpa using c7))
  clear c7
  obtain rfl := Option.some.inj H
  obtain ⟨hcz8_0, hcz8_1, hfz8_0, hfz8_1⟩ := bs2_ BK207
  obtain ⟨ad208, e208, hx208_0, hx208_1, p208, q208⟩ := au_T101 HR0 HB (x8_1)
  cases e208
  go_wp2
  repeat (go_quiet (fail); try go_wp2)
  go_ret
  exact ⟨er_, hf_⟩
 rw [if_neg c7] at H
 have c7b0 : (a1_0.toList == (((q76 l0 x8_1).f0).toList) && (a1_1 == ((q76 l0 x8_1).f1))) = false := by simpa using c7
 (try (have c7b1 : decide (a1_0.toList = (((q76 l0 x8_1).f0).toList) && (a1_1 == ((q76 l0 x8_1).f1))) = false := by simpa using c7))
 (try (have c7b2 : (a1_0.toList == (((q76 l0 x8_1).f0).toList) && (a1_1 == ((q76 l0 x8_1).f1))) = false := by simpa using c7))
 (try (have c7b3 : ¬ (a1_0.toList = (((q76 l0 x8_1).f0).toList) && (a1_1 == ((q76 l0 x8_1).f1))) := by simpa using c7))
 clear c7
 have H' := q56.mk H
 clear H
 obtain ⟨hcz9_0, hcz9_1, hfz9_0, hfz9_1⟩ := bs2_ BK207
 obtain ⟨ad208, e208, hx208_0, hx208_1, p208, q208⟩ := au_T101 HR0 HB (x8_1)
 cases e208
 go_wp2
 repeat (go_quiet (fail); try go_wp2)
 go_roundg k1
 case measure => have := HK1.out; omega
 case rel => exact ⟨(wrap64 (x8_1 + 1)), rf_, H', ⟨by have := HK1.out; omega⟩, ⟨gx_ BK207⟩, ⟨hf_⟩⟩
end Go.Proofs.Yteddgedacjdjgaa.Pm
end
section
namespace Go.Proofs.Yteddgedacjdjgaa.Pm
open Go.RowKit Go.Proofs.YteddgedacjdjgaaW.PrintWords Go.Proofs.YteddgedacjdjgaaW.PrintLast Go.Proofs.YteddgedacjdjgaaW.PrintMore
attribute [local go_sem] max2_int min2_int max_two min_two max_three min_three max_four min_four   -- for this text's walks alone
set_option linter.unusedVariables false
set_option linter.unusedSimpArgs false
def q45.f (k : Nat) (l0 : List (S101)) (a1_0 : ByteArray) (a1_1 : Int) : Option (Bool) := (q51.f k l0 a1_0 a1_1).bind fun t210 => (some (decide (t210 ≥ 0)))
theorem q45.mono : ∀ a0 a1 a2 k, LeO (q45.f k a0 a1 a2) (q45.f (k + 1) a0 a1 a2) := by
 intro a0 a1 a2 k
 unfold q45.f
 repeat' first
  | (with_reducible exact q51.mono _ _ _ _)
  | (with_reducible exact LeO.refl _)
  | (with_reducible exact LeO.none _)
  | (with_reducible refine LeO.ite ?_ ?_)
  | (with_reducible refine LeO.bind ?_ (fun _ => ?_))
  | exact q51.mono _ _ _ _
  | exact LeO.none _
  | refine LeO.ite ?_ ?_
  | refine LeO.bind ?_ (fun _ => ?_)
set_option maxHeartbeats 8000000 in
set_option maxRecDepth 100000 in
theorem q45.calls (k : Nat) (A0 : Option Addr) (c0 : Nat) (l0 : List (S101)) (a1_0 : ByteArray) (a1_1 : Int) (r : Bool) (w : World) (hr0 : Kd.C k101 w A0 l0.length l0) (hc0 : l0.length ≤ c0) (h : q45.f k l0 a1_0 a1_1 = some r) :
 Calls Try.prog 100 #[.slice A0 l0.length c0, .agg #[.string a1_0, .int .i64 a1_1]] w fun e w' => e = .returned (.bool r) ∧ Below w.heap.size w w' := by
 have hu101 := Try.underlying101
 have HR0 := q56.mk hr0
 have HC0 := q56.mk hc0
 clear hr0 hc0
 have HB := q56.mk (Below.refl w.heap.size w)
 have H : ((q51.f k l0 a1_0 a1_1).bind fun t210 => (some (decide (t210 ≥ 0)))) = some r := h
 clear h
 replace H := bd_ H
 obtain ⟨t210, A3, H⟩ := H
 obtain rfl := Option.some.inj H
 go_enter Try.func100, Try.ntmps100
 go_wp2_with (first | ((with_reducible refine q71 (N := 3) rfl ?_); refine bx_ 3 #[.string a1_0, .int .i64 a1_1] 101 ?_; intro gb209 hg w4 hbox hb; have BK209 := q56.mk (hbox); have GW209 := zz_ (w := w) hg; have GE209 := zz_ (w := w) hg; replace HB := hb_ HB hb;  clear hb hbox hg; obtain ⟨hcz5_0, hcz5_1, hfz5_0, hfz5_1⟩ := bs2_ BK209) | ((with_reducible refine q70 (f := 105) rfl ?_); refine gl_ (some 7) Try.func105 #[.slice A0 l0.length c0, .agg #[.string a1_0, .int .i64 a1_1]] ?_; (with_reducible refine (q51.calls k _ _ l0 a1_0 a1_1 t210 _ ?side1 ?side2 A3.out).mono ?_); (case side1 => exact kc_ HR0 HB); (case side2 => exact HC0.out); rintro e w6 ⟨rfl, hb⟩; refine ⟨_, rfl, ?_⟩; replace BK209 := bb_ BK209 hb; replace HB := hb_ HB hb;  (try clear hb)))
 go_ret
 exact ⟨er_, hf_⟩
def q8.l0 : Nat → List ByteArray → ByteArray → Int → Int → Option (Int)
 | 0, _, _, _, _ => none
 | k + 1, x0, x1, x7, x8 => if x8 < x7 then (if 0 ≤ x8 then (if x8 < (x0.length : Int) then (if x1.toList = (rdOf ByteArray.empty x0 x8).toList then (some x8) else (q8.l0 k x0 x1 x7 (wrap64 (x8 + 1)))) else (none)) else (none)) else (some (-1))
def q8.f (k : Nat) (l0 : List ByteArray) (a1 : ByteArray) : Option (Int) := q8.l0 k l0 a1 (l0.length : Int) 0
theorem q8.mono_l : ∀ k, (∀ y0 y1 y2 y3, LeO (q8.l0 k y0 y1 y2 y3) (q8.l0 (k + 1) y0 y1 y2 y3))
 | 0 => fun _ _ _ _ r h => by simp [q8.l0] at h
 | k + 1 => by
  have ih0 := q8.mono_l k
  ·intro y0 y1 y2 y3
   unfold q8.l0
   repeat' first
   | (with_reducible exact ih0 _ _ _ _)
   | (with_reducible exact LeO.refl _)
   | (with_reducible exact LeO.none _)
   | (with_reducible refine LeO.ite ?_ ?_)
   | (with_reducible refine LeO.bind ?_ (fun _ => ?_))
   | exact ih0 _ _ _ _
   | exact LeO.none _
   | refine LeO.ite ?_ ?_
   | refine LeO.bind ?_ (fun _ => ?_)
theorem q8.mono : ∀ a0 a1 k, LeO (q8.f k a0 a1) (q8.f (k + 1) a0 a1) := by
 intro a0 a1 k
 have ih0 := q8.mono_l k
 unfold q8.f
 repeat' first
  | (with_reducible exact ih0 _ _ _ _)
  | (with_reducible exact LeO.refl _)
  | (with_reducible exact LeO.none _)
  | (with_reducible refine LeO.ite ?_ ?_)
  | (with_reducible refine LeO.bind ?_ (fun _ => ?_))
  | exact ih0 _ _ _ _
  | exact LeO.none _
  | refine LeO.ite ?_ ?_
  | refine LeO.bind ?_ (fun _ => ?_)
set_option maxHeartbeats 8000000 in
set_option maxRecDepth 100000 in
theorem q8.calls (k : Nat) (A0 : Option Addr) (c0 : Nat) (l0 : List ByteArray) (a1 : ByteArray) (r : Int) (w : World) (hr0 : Kd.C Kd.string w A0 l0.length l0) (hc0 : l0.length ≤ c0) (h : q8.f k l0 a1 = some r) :
 Calls Try.prog 86 #[.slice A0 l0.length c0, .string a1] w fun e w' => e = .returned (.int .i64 r) ∧ Drawn0 w w' := by
 have HR0 := q56.mk hr0
 have HC0 := q56.mk hc0
 clear hr0 hc0
 have H : (q8.l0 k l0 a1 (l0.length : Int) 0) = some r := h
 clear h
 have H' := q56.mk H
 clear H
 go_enter Try.func86, Try.ntmps86
 go_wp2
 go_loopg [8] k (fun kq v8 w' => ∃ (x8_1 : Int), v8 = .int .i64 x8_1 ∧ q56 (q8.l0 kq l0 a1 (l0.length : Int) x8_1 = some r) ∧ q56 (kq ≤ k) ∧ Drawn0 w w')
 case atStart => exact ⟨(0), rf_, H', ⟨Nat.le_refl _⟩, by repeat (first | exact Drawn0.refl _ | apply Drawn0.step)⟩
 case round =>
 clear H'
 try clear p2
 obtain ⟨x8_1, rfl, HA, HK1, ⟨m1, rfl⟩⟩ := hrel
 cases gk with
 | zero => exact absurd HA.out (by simp [q8.l0])
 | succ k1 =>
 have H := HA.out
 clear HA
 simp only [q8.l0] at H
 by_cases c3 : x8_1 < (l0.length : Int)
 rotate_left
 ·rw [if_neg c3] at H
  replace c3 := decide_eq_false c3
  obtain rfl := Option.some.inj H
  go_wp2
  go_ret
  exact ⟨by first | rfl | (simp; done) | (simp [*]; done), by repeat (first | exact Drawn0.refl _ | apply Drawn0.step)⟩
 rw [if_pos c3] at H
 replace c3 := decide_eq_true c3
 by_cases c4 : 0 ≤ x8_1
 rotate_left
 ·rw [if_neg c4] at H
  exact absurd H (by simp)
 rw [if_pos c4] at H
 replace c4 := decide_eq_true c4
 by_cases c5 : x8_1 < (l0.length : Int)
 rotate_left
 ·rw [if_neg c5] at H
  exact absurd H (by simp)
 rw [if_pos c5] at H
 replace c5 := decide_eq_true c5
 by_cases c6 : a1.toList = (rdOf ByteArray.empty l0 x8_1).toList
 ·rw [if_pos c6] at H
  have c6b0 : (a1.toList == (rdOf ByteArray.empty l0 x8_1).toList) = true := beq_iff_eq.mpr c6
  have c6b1 : (a1.toList != (rdOf ByteArray.empty l0 x8_1).toList) = false := bne_eq_false_iff_eq.mpr c6
  clear c6
  obtain rfl := Option.some.inj H
  obtain ⟨ad189, e189, hx189_0, p189, q189⟩ := au_string HR0 ⟨Below.refl _ _⟩ (x8_1)
  cases e189
  go_wp2
  go_ret
  exact ⟨by first | rfl | (simp; done) | (simp [*]; done), by repeat (first | exact Drawn0.refl _ | apply Drawn0.step)⟩
 rw [if_neg c6] at H
 have c6b0 : (a1.toList == (rdOf ByteArray.empty l0 x8_1).toList) = false := beq_eq_false_iff_ne.mpr c6
 have c6b1 : (a1.toList != (rdOf ByteArray.empty l0 x8_1).toList) = true := bne_iff_ne.mpr c6
 have H' := q56.mk H
 clear H
 obtain ⟨ad189, e189, hx189_0, p189, q189⟩ := au_string HR0 ⟨Below.refl _ _⟩ (x8_1)
 cases e189
 go_wp2
 go_roundg k1
 case measure => have := HK1.out; omega
 case rel => exact ⟨(wrap64 (x8_1 + 1)), rf_, H', ⟨by have := HK1.out; omega⟩, by repeat (first | exact Drawn0.refl _ | apply Drawn0.step)⟩
def q7.f (k : Nat) (l0 : List ByteArray) (a1 : ByteArray) : Option (Bool) := (q8.f k l0 a1).bind fun t190 => (some (decide (t190 ≥ 0)))
theorem q7.mono : ∀ a0 a1 k, LeO (q7.f k a0 a1) (q7.f (k + 1) a0 a1) := by
 intro a0 a1 k
 unfold q7.f
 repeat' first
  | (with_reducible exact q8.mono _ _ _)
  | (with_reducible exact LeO.refl _)
  | (with_reducible exact LeO.none _)
  | (with_reducible refine LeO.ite ?_ ?_)
  | (with_reducible refine LeO.bind ?_ (fun _ => ?_))
  | exact q8.mono _ _ _
  | exact LeO.none _
  | refine LeO.ite ?_ ?_
  | refine LeO.bind ?_ (fun _ => ?_)
set_option maxHeartbeats 8000000 in
set_option maxRecDepth 100000 in
theorem q7.calls (k : Nat) (A0 : Option Addr) (c0 : Nat) (l0 : List ByteArray) (a1 : ByteArray) (r : Bool) (w : World) (hr0 : Kd.C Kd.string w A0 l0.length l0) (hc0 : l0.length ≤ c0) (h : q7.f k l0 a1 = some r) :
 Calls Try.prog 85 #[.slice A0 l0.length c0, .string a1] w fun e w' => e = .returned (.bool r) ∧ Drawn0 w w' := by
 have HR0 := q56.mk hr0
 have HC0 := q56.mk hc0
 clear hr0 hc0
 have H : ((q8.f k l0 a1).bind fun t190 => (some (decide (t190 ≥ 0)))) = some r := h
 clear h
 replace H := bd_ H
 obtain ⟨t190, A3, H⟩ := H
 obtain rfl := Option.some.inj H
 go_enter Try.func85, Try.ntmps85
 go_wp2_with (first | ((with_reducible refine q70 (f := 86) rfl ?_); refine gl_ (some 7) Try.func86 #[.slice A0 l0.length c0, .string a1] ?_; (with_reducible refine (q8.calls k _ _ l0 a1 t190 _ ?side1 ?side2 A3.out).mono ?_); (case side1 => repeat (first | exact HR0.out | (with_reducible refine Kd.C_alloc ?_ _) | (with_reducible refine Kd.C_drewN ?_ _) | (with_reducible refine Kd.C_drew ?_))); (case side2 => exact HC0.out); rintro e w' ⟨rfl, ⟨nd, rfl⟩⟩; refine ⟨_, rfl, ?_⟩))
 go_ret
 exact ⟨by first | rfl | (simp; done) | (simp [*]; done), by repeat (first | exact Drawn0.refl _ | apply Drawn0.step)⟩
def q46.f (k : Nat) (l0_0 : List ByteArray) (l0_1 : List (S41)) (a1_0 : ByteArray) (a1_1 : ByteArray) (a1_2 : Int) : Option (Bool) := (q7.f k (([(⟨#[60]⟩ : ByteArray), (⟨#[60, 61]⟩ : ByteArray), (⟨#[61]⟩ : ByteArray), (⟨#[33, 61]⟩ : ByteArray), (⟨#[62, 61]⟩ : ByteArray), (⟨#[62]⟩ : ByteArray)] : List ByteArray)) a1_1).bind fun t196 => (if t196 = true then ((q7.f k l0_0 a1_0).bind fun t197 => (if t197 = true then (if a1_2 ≥ (-1000000) then (some (decide (a1_2 ≤ 1000000))) else (some false)) else (some false))) else (some false))
theorem q46.mono : ∀ a0 a1 a2 a3 a4 k, LeO (q46.f k a0 a1 a2 a3 a4) (q46.f (k + 1) a0 a1 a2 a3 a4) := by
 intro a0 a1 a2 a3 a4 k
 unfold q46.f
 repeat' first
  | (with_reducible exact q7.mono _ _ _)
  | (with_reducible exact LeO.refl _)
  | (with_reducible exact LeO.none _)
  | (with_reducible refine LeO.ite ?_ ?_)
  | (with_reducible refine LeO.bind ?_ (fun _ => ?_))
  | exact q7.mono _ _ _
  | exact LeO.none _
  | refine LeO.ite ?_ ?_
  | refine LeO.bind ?_ (fun _ => ?_)
set_option maxHeartbeats 8000000 in
set_option maxRecDepth 100000 in
theorem q46.calls (k : Nat) (A0_0 : Option Addr) (c0_0 : Nat) (l0_0 : List ByteArray) (A0_1 : Option Addr) (c0_1 : Nat) (l0_1 : List (S41)) (a1_0 : ByteArray) (a1_1 : ByteArray) (a1_2 : Int) (r : Bool) (w : World) (hr0_0 : Kd.C Kd.string w A0_0 l0_0.length l0_0) (hc0_0 : l0_0.length ≤ c0_0) (hr0_1 : Kd.C k41 w A0_1 l0_1.length l0_1) (hc0_1 : l0_1.length ≤ c0_1) (h : q46.f k l0_0 l0_1 a1_0 a1_1 a1_2 = some r) :
 Calls Try.prog 103 #[.agg #[.slice A0_0 l0_0.length c0_0, .slice A0_1 l0_1.length c0_1], .agg #[.string a1_0, .string a1_1, .int .i64 a1_2]] w fun e w' => e = .returned (.bool r) ∧ Below w.heap.size w w' := by
 have hu25 := Try.underlying25
 have hu90 := Try.underlying90
 have HR0_0 := q56.mk hr0_0
 have HC0_0 := q56.mk hc0_0
 clear hr0_0 hc0_0
 have HR0_1 := q56.mk hr0_1
 have HC0_1 := q56.mk hc0_1
 clear hr0_1 hc0_1
 have HB := q56.mk (Below.refl w.heap.size w)
 unfold q46.f at h
 have H := h
 clear h
 obtain ⟨y193, hy193⟩ : ∃ y_ : List ByteArray, y_ = (([(⟨#[60]⟩ : ByteArray), (⟨#[60, 61]⟩ : ByteArray), (⟨#[61]⟩ : ByteArray), (⟨#[33, 61]⟩ : ByteArray), (⟨#[62, 61]⟩ : ByteArray), (⟨#[62]⟩ : ByteArray)] : List ByteArray)) := ⟨_, rfl⟩
 rw [← hy193] at H
 have Ny193 := q56.mk hy193
 clear hy193
 replace H := bd_ H
 obtain ⟨t196, A3, H⟩ := H
 by_cases c4 : t196 = true
 rotate_left
 ·replace c4 := Bool.eq_false_iff.mpr c4
  subst c4
  replace H := ie_ H
  obtain rfl := Option.some.inj H
  go_enter Try.func103, Try.ntmps103
  go_wp2_with (first | ((with_reducible refine q71 (N := 2) rfl ?_); refine bx_ 2 #[.slice A0_0 l0_0.length c0_0, .slice A0_1 l0_1.length c0_1] 25 ?_; intro gb191 hg w32 hbox hb; have BK191 := q56.mk (hbox); have GW191 := zz_ (w := w) hg; have GE191 := zz_ (w := w) hg; replace HB := hb_ HB hb;  clear hb hbox hg) | ((with_reducible refine q71 (N := 3) rfl ?_); refine bx_ 3 #[.string a1_0, .string a1_1, .int .i64 a1_2] 90 ?_; intro gb192 hg w33 hbox hb; have BK192 := q56.mk (hbox); have GW192 := zz_ (w := w) hg; have GE192 := zz_ (w := w) hg; replace HB := hb_ HB hb; have NB191_192 := ne1_ hg BK191; have NB192_191 := ne2_ hg BK191; replace BK191 := bb_ BK191 hb;  clear hb hbox hg) | ((with_reducible refine q71 (N := 6) rfl ?_); refine Kd.R_lit Kd.string _ 9 ?hg (N := 6) ?hd (xs := ([(⟨#[60]⟩ : ByteArray), (⟨#[60, 61]⟩ : ByteArray), (⟨#[61]⟩ : ByteArray), (⟨#[33, 61]⟩ : ByteArray), (⟨#[62, 61]⟩ : ByteArray), (⟨#[62]⟩ : ByteArray)] : List ByteArray)) (inner := [.string (⟨#[60]⟩ : ByteArray), .string (⟨#[60, 61]⟩ : ByteArray), .string (⟨#[61]⟩ : ByteArray), .string (⟨#[33, 61]⟩ : ByteArray), .string (⟨#[62, 61]⟩ : ByteArray), .string (⟨#[62]⟩ : ByteArray)]) (ok := fun _ => True) (okp := fun _ => True) ?hr ?hp (fun _ hk => hk) trivial (Below.refl _ _) (Nat.le_refl _) (by simp) ?_; (case hd => rfl); (case hg => rfl); (case hr => first | (go_simp; done) | (go_simp; rfl)); (case hp => exact (Reps.one (show Kd.M Kd.string _ _ _ (⟨#[60]⟩ : ByteArray) [.string (⟨#[60]⟩ : ByteArray)] from rfl) (Reps.one (show Kd.M Kd.string _ _ _ (⟨#[60, 61]⟩ : ByteArray) [.string (⟨#[60, 61]⟩ : ByteArray)] from rfl) (Reps.one (show Kd.M Kd.string _ _ _ (⟨#[61]⟩ : ByteArray) [.string (⟨#[61]⟩ : ByteArray)] from rfl) (Reps.one (show Kd.M Kd.string _ _ _ (⟨#[33, 61]⟩ : ByteArray) [.string (⟨#[33, 61]⟩ : ByteArray)] from rfl) (Reps.one (show Kd.M Kd.string _ _ _ (⟨#[62, 61]⟩ : ByteArray) [.string (⟨#[62, 61]⟩ : ByteArray)] from rfl) (Reps.one (show Kd.M Kd.string _ _ _ (⟨#[62]⟩ : ByteArray) [.string (⟨#[62]⟩ : ByteArray)] from rfl) (Reps.none _ _)))))))); intro v194 w34 ho35 hb hg_ hnew_; clear hg_ hnew_; (first | rw [← Ny193.out] at ho35 | (simp only [Int.reduceToNat] at ho35; rw [← Ny193.out] at ho35)); have HO195 := q56.mk (Kd.R_lower ho35 (q59 hf_)); replace BK191 := bb_ BK191 hb; replace BK192 := bb_ BK192 hb; replace HB := hb_ HB hb;  clear hb ho35; have hnb36 := NB192_191.out; have hnc36 := NB191_192.out; obtain ⟨hcz37_0, hcz37_1, hcz37_2, hfz37_0, hfz37_1, hfz37_2⟩ := bs3_ BK192; obtain ⟨Ao38, co38, eo38⟩ := Kd.R_slice HO195.out; subst eo38) | ((with_reducible refine q70 (f := 85) rfl ?_); refine gl_ (some 9) Try.func85 #[.slice Ao38 y193.length co38, .string a1_1] ?_; (with_reducible refine (q7.calls k _ _ y193 a1_1 false _ ?side1 ?side2 A3.out).mono ?_); (case side1 => repeat (first | exact (Kd.R_reads' HO195.out).2.2 | (with_reducible refine Kd.C_alloc ?_ _) | (with_reducible refine Kd.C_drewN ?_ _) | (with_reducible refine Kd.C_drew ?_))); (case side2 => exact (Kd.R_reads' HO195.out).2.1); rintro e w' ⟨rfl, ⟨nd, rfl⟩⟩; refine ⟨_, rfl, ?_⟩))
  go_ret
  exact ⟨er_, hf_⟩
 subst c4
 replace H := it_ H
 replace H := bd_ H
 obtain ⟨t197, A5, H⟩ := H
 by_cases c6 : t197 = true
 ·subst c6
  replace H := it_ H
  by_cases c7 : a1_2 ≥ (-1000000)
  ·rw [if_pos c7] at H
   replace c7 := decide_eq_true c7
   obtain rfl := Option.some.inj H
   go_enter Try.func103, Try.ntmps103
   go_wp2_with (first | ((with_reducible refine q71 (N := 2) rfl ?_); refine bx_ 2 #[.slice A0_0 l0_0.length c0_0, .slice A0_1 l0_1.length c0_1] 25 ?_; intro gb191 hg w8 hbox hb; have BK191 := q56.mk (hbox); have GW191 := zz_ (w := w) hg; have GE191 := zz_ (w := w) hg; replace HB := hb_ HB hb;  clear hb hbox hg) | ((with_reducible refine q71 (N := 3) rfl ?_); refine bx_ 3 #[.string a1_0, .string a1_1, .int .i64 a1_2] 90 ?_; intro gb192 hg w9 hbox hb; have BK192 := q56.mk (hbox); have GW192 := zz_ (w := w) hg; have GE192 := zz_ (w := w) hg; replace HB := hb_ HB hb; have NB191_192 := ne1_ hg BK191; have NB192_191 := ne2_ hg BK191; replace BK191 := bb_ BK191 hb;  clear hb hbox hg) | ((with_reducible refine q71 (N := 6) rfl ?_); refine Kd.R_lit Kd.string _ 9 ?hg (N := 6) ?hd (xs := ([(⟨#[60]⟩ : ByteArray), (⟨#[60, 61]⟩ : ByteArray), (⟨#[61]⟩ : ByteArray), (⟨#[33, 61]⟩ : ByteArray), (⟨#[62, 61]⟩ : ByteArray), (⟨#[62]⟩ : ByteArray)] : List ByteArray)) (inner := [.string (⟨#[60]⟩ : ByteArray), .string (⟨#[60, 61]⟩ : ByteArray), .string (⟨#[61]⟩ : ByteArray), .string (⟨#[33, 61]⟩ : ByteArray), .string (⟨#[62, 61]⟩ : ByteArray), .string (⟨#[62]⟩ : ByteArray)]) (ok := fun _ => True) (okp := fun _ => True) ?hr ?hp (fun _ hk => hk) trivial (Below.refl _ _) (Nat.le_refl _) (by simp) ?_; (case hd => rfl); (case hg => rfl); (case hr => first | (go_simp; done) | (go_simp; rfl)); (case hp => exact (Reps.one (show Kd.M Kd.string _ _ _ (⟨#[60]⟩ : ByteArray) [.string (⟨#[60]⟩ : ByteArray)] from rfl) (Reps.one (show Kd.M Kd.string _ _ _ (⟨#[60, 61]⟩ : ByteArray) [.string (⟨#[60, 61]⟩ : ByteArray)] from rfl) (Reps.one (show Kd.M Kd.string _ _ _ (⟨#[61]⟩ : ByteArray) [.string (⟨#[61]⟩ : ByteArray)] from rfl) (Reps.one (show Kd.M Kd.string _ _ _ (⟨#[33, 61]⟩ : ByteArray) [.string (⟨#[33, 61]⟩ : ByteArray)] from rfl) (Reps.one (show Kd.M Kd.string _ _ _ (⟨#[62, 61]⟩ : ByteArray) [.string (⟨#[62, 61]⟩ : ByteArray)] from rfl) (Reps.one (show Kd.M Kd.string _ _ _ (⟨#[62]⟩ : ByteArray) [.string (⟨#[62]⟩ : ByteArray)] from rfl) (Reps.none _ _)))))))); intro v194 w10 ho11 hb hg_ hnew_; clear hg_ hnew_; (first | rw [← Ny193.out] at ho11 | (simp only [Int.reduceToNat] at ho11; rw [← Ny193.out] at ho11)); have HO195 := q56.mk (Kd.R_lower ho11 (q59 hf_)); replace BK191 := bb_ BK191 hb; replace BK192 := bb_ BK192 hb; replace HB := hb_ HB hb;  clear hb ho11; have hnb12 := NB192_191.out; have hnc12 := NB191_192.out; obtain ⟨hcz13_0, hcz13_1, hcz13_2, hfz13_0, hfz13_1, hfz13_2⟩ := bs3_ BK192; obtain ⟨Ao14, co14, eo14⟩ := Kd.R_slice HO195.out; subst eo14) | ((with_reducible refine q70 (f := 85) rfl ?_); refine gl_ (some 9) Try.func85 #[.slice Ao14 y193.length co14, .string a1_1] ?_; (with_reducible refine (q7.calls k _ _ y193 a1_1 true _ ?side1 ?side2 A3.out).mono ?_); (case side1 => repeat (first | exact (Kd.R_reads' HO195.out).2.2 | (with_reducible refine Kd.C_alloc ?_ _) | (with_reducible refine Kd.C_drewN ?_ _) | (with_reducible refine Kd.C_drew ?_))); (case side2 => exact (Kd.R_reads' HO195.out).2.1); rintro e w' ⟨rfl, ⟨nd, rfl⟩⟩; refine ⟨_, rfl, ?_⟩; obtain ⟨hcz15_0, hcz15_1, hfz15_0, hfz15_1⟩ := bs2_ BK191) | (go_at_call 85; (with_reducible refine (q7.calls k _ _ l0_0 a1_0 true _ ?side1 ?side2 A5.out).mono ?_); (case side1 => repeat (first | exact (Kd.C_below HR0_0.out hf_) | (with_reducible refine Kd.C_alloc ?_ _) | (with_reducible refine Kd.C_drewN ?_ _) | (with_reducible refine Kd.C_drew ?_))); (case side2 => exact HC0_0.out); rintro e w' ⟨rfl, ⟨nd, rfl⟩⟩))
   go_ret
   exact ⟨er_, hf_⟩
  rw [if_neg c7] at H
  replace c7 := decide_eq_false c7
  obtain rfl := Option.some.inj H
  go_enter Try.func103, Try.ntmps103
  go_wp2_with (first | ((with_reducible refine q71 (N := 2) rfl ?_); refine bx_ 2 #[.slice A0_0 l0_0.length c0_0, .slice A0_1 l0_1.length c0_1] 25 ?_; intro gb191 hg w16 hbox hb; have BK191 := q56.mk (hbox); have GW191 := zz_ (w := w) hg; have GE191 := zz_ (w := w) hg; replace HB := hb_ HB hb;  clear hb hbox hg) | ((with_reducible refine q71 (N := 3) rfl ?_); refine bx_ 3 #[.string a1_0, .string a1_1, .int .i64 a1_2] 90 ?_; intro gb192 hg w17 hbox hb; have BK192 := q56.mk (hbox); have GW192 := zz_ (w := w) hg; have GE192 := zz_ (w := w) hg; replace HB := hb_ HB hb; have NB191_192 := ne1_ hg BK191; have NB192_191 := ne2_ hg BK191; replace BK191 := bb_ BK191 hb;  clear hb hbox hg) | ((with_reducible refine q71 (N := 6) rfl ?_); refine Kd.R_lit Kd.string _ 9 ?hg (N := 6) ?hd (xs := ([(⟨#[60]⟩ : ByteArray), (⟨#[60, 61]⟩ : ByteArray), (⟨#[61]⟩ : ByteArray), (⟨#[33, 61]⟩ : ByteArray), (⟨#[62, 61]⟩ : ByteArray), (⟨#[62]⟩ : ByteArray)] : List ByteArray)) (inner := [.string (⟨#[60]⟩ : ByteArray), .string (⟨#[60, 61]⟩ : ByteArray), .string (⟨#[61]⟩ : ByteArray), .string (⟨#[33, 61]⟩ : ByteArray), .string (⟨#[62, 61]⟩ : ByteArray), .string (⟨#[62]⟩ : ByteArray)]) (ok := fun _ => True) (okp := fun _ => True) ?hr ?hp (fun _ hk => hk) trivial (Below.refl _ _) (Nat.le_refl _) (by simp) ?_; (case hd => rfl); (case hg => rfl); (case hr => first | (go_simp; done) | (go_simp; rfl)); (case hp => exact (Reps.one (show Kd.M Kd.string _ _ _ (⟨#[60]⟩ : ByteArray) [.string (⟨#[60]⟩ : ByteArray)] from rfl) (Reps.one (show Kd.M Kd.string _ _ _ (⟨#[60, 61]⟩ : ByteArray) [.string (⟨#[60, 61]⟩ : ByteArray)] from rfl) (Reps.one (show Kd.M Kd.string _ _ _ (⟨#[61]⟩ : ByteArray) [.string (⟨#[61]⟩ : ByteArray)] from rfl) (Reps.one (show Kd.M Kd.string _ _ _ (⟨#[33, 61]⟩ : ByteArray) [.string (⟨#[33, 61]⟩ : ByteArray)] from rfl) (Reps.one (show Kd.M Kd.string _ _ _ (⟨#[62, 61]⟩ : ByteArray) [.string (⟨#[62, 61]⟩ : ByteArray)] from rfl) (Reps.one (show Kd.M Kd.string _ _ _ (⟨#[62]⟩ : ByteArray) [.string (⟨#[62]⟩ : ByteArray)] from rfl) (Reps.none _ _)))))))); intro v194 w18 ho19 hb hg_ hnew_; clear hg_ hnew_; (first | rw [← Ny193.out] at ho19 | (simp only [Int.reduceToNat] at ho19; rw [← Ny193.out] at ho19)); have HO195 := q56.mk (Kd.R_lower ho19 (q59 hf_)); replace BK191 := bb_ BK191 hb; replace BK192 := bb_ BK192 hb; replace HB := hb_ HB hb;  clear hb ho19; have hnb20 := NB192_191.out; have hnc20 := NB191_192.out; obtain ⟨hcz21_0, hcz21_1, hcz21_2, hfz21_0, hfz21_1, hfz21_2⟩ := bs3_ BK192; obtain ⟨Ao22, co22, eo22⟩ := Kd.R_slice HO195.out; subst eo22) | ((with_reducible refine q70 (f := 85) rfl ?_); refine gl_ (some 9) Try.func85 #[.slice Ao22 y193.length co22, .string a1_1] ?_; (with_reducible refine (q7.calls k _ _ y193 a1_1 true _ ?side1 ?side2 A3.out).mono ?_); (case side1 => repeat (first | exact (Kd.R_reads' HO195.out).2.2 | (with_reducible refine Kd.C_alloc ?_ _) | (with_reducible refine Kd.C_drewN ?_ _) | (with_reducible refine Kd.C_drew ?_))); (case side2 => exact (Kd.R_reads' HO195.out).2.1); rintro e w' ⟨rfl, ⟨nd, rfl⟩⟩; refine ⟨_, rfl, ?_⟩; obtain ⟨hcz23_0, hcz23_1, hfz23_0, hfz23_1⟩ := bs2_ BK191) | (go_at_call 85; (with_reducible refine (q7.calls k _ _ l0_0 a1_0 true _ ?side1 ?side2 A5.out).mono ?_); (case side1 => repeat (first | exact (Kd.C_below HR0_0.out hf_) | (with_reducible refine Kd.C_alloc ?_ _) | (with_reducible refine Kd.C_drewN ?_ _) | (with_reducible refine Kd.C_drew ?_))); (case side2 => exact HC0_0.out); rintro e w' ⟨rfl, ⟨nd, rfl⟩⟩))
  go_ret
  exact ⟨er_, hf_⟩
 replace c6 := Bool.eq_false_iff.mpr c6
 subst c6
 replace H := ie_ H
 obtain rfl := Option.some.inj H
 go_enter Try.func103, Try.ntmps103
 go_wp2_with (first | ((with_reducible refine q71 (N := 2) rfl ?_); refine bx_ 2 #[.slice A0_0 l0_0.length c0_0, .slice A0_1 l0_1.length c0_1] 25 ?_; intro gb191 hg w24 hbox hb; have BK191 := q56.mk (hbox); have GW191 := zz_ (w := w) hg; have GE191 := zz_ (w := w) hg; replace HB := hb_ HB hb;  clear hb hbox hg) | ((with_reducible refine q71 (N := 3) rfl ?_); refine bx_ 3 #[.string a1_0, .string a1_1, .int .i64 a1_2] 90 ?_; intro gb192 hg w25 hbox hb; have BK192 := q56.mk (hbox); have GW192 := zz_ (w := w) hg; have GE192 := zz_ (w := w) hg; replace HB := hb_ HB hb; have NB191_192 := ne1_ hg BK191; have NB192_191 := ne2_ hg BK191; replace BK191 := bb_ BK191 hb;  clear hb hbox hg) | ((with_reducible refine q71 (N := 6) rfl ?_); refine Kd.R_lit Kd.string _ 9 ?hg (N := 6) ?hd (xs := ([(⟨#[60]⟩ : ByteArray), (⟨#[60, 61]⟩ : ByteArray), (⟨#[61]⟩ : ByteArray), (⟨#[33, 61]⟩ : ByteArray), (⟨#[62, 61]⟩ : ByteArray), (⟨#[62]⟩ : ByteArray)] : List ByteArray)) (inner := [.string (⟨#[60]⟩ : ByteArray), .string (⟨#[60, 61]⟩ : ByteArray), .string (⟨#[61]⟩ : ByteArray), .string (⟨#[33, 61]⟩ : ByteArray), .string (⟨#[62, 61]⟩ : ByteArray), .string (⟨#[62]⟩ : ByteArray)]) (ok := fun _ => True) (okp := fun _ => True) ?hr ?hp (fun _ hk => hk) trivial (Below.refl _ _) (Nat.le_refl _) (by simp) ?_; (case hd => rfl); (case hg => rfl); (case hr => first | (go_simp; done) | (go_simp; rfl)); (case hp => exact (Reps.one (show Kd.M Kd.string _ _ _ (⟨#[60]⟩ : ByteArray) [.string (⟨#[60]⟩ : ByteArray)] from rfl) (Reps.one (show Kd.M Kd.string _ _ _ (⟨#[60, 61]⟩ : ByteArray) [.string (⟨#[60, 61]⟩ : ByteArray)] from rfl) (Reps.one (show Kd.M Kd.string _ _ _ (⟨#[61]⟩ : ByteArray) [.string (⟨#[61]⟩ : ByteArray)] from rfl) (Reps.one (show Kd.M Kd.string _ _ _ (⟨#[33, 61]⟩ : ByteArray) [.string (⟨#[33, 61]⟩ : ByteArray)] from rfl) (Reps.one (show Kd.M Kd.string _ _ _ (⟨#[62, 61]⟩ : ByteArray) [.string (⟨#[62, 61]⟩ : ByteArray)] from rfl) (Reps.one (show Kd.M Kd.string _ _ _ (⟨#[62]⟩ : ByteArray) [.string (⟨#[62]⟩ : ByteArray)] from rfl) (Reps.none _ _)))))))); intro v194 w26 ho27 hb hg_ hnew_; clear hg_ hnew_; (first | rw [← Ny193.out] at ho27 | (simp only [Int.reduceToNat] at ho27; rw [← Ny193.out] at ho27)); have HO195 := q56.mk (Kd.R_lower ho27 (q59 hf_)); replace BK191 := bb_ BK191 hb; replace BK192 := bb_ BK192 hb; replace HB := hb_ HB hb;  clear hb ho27; have hnb28 := NB192_191.out; have hnc28 := NB191_192.out; obtain ⟨hcz29_0, hcz29_1, hcz29_2, hfz29_0, hfz29_1, hfz29_2⟩ := bs3_ BK192; obtain ⟨Ao30, co30, eo30⟩ := Kd.R_slice HO195.out; subst eo30) | ((with_reducible refine q70 (f := 85) rfl ?_); refine gl_ (some 9) Try.func85 #[.slice Ao30 y193.length co30, .string a1_1] ?_; (with_reducible refine (q7.calls k _ _ y193 a1_1 true _ ?side1 ?side2 A3.out).mono ?_); (case side1 => repeat (first | exact (Kd.R_reads' HO195.out).2.2 | (with_reducible refine Kd.C_alloc ?_ _) | (with_reducible refine Kd.C_drewN ?_ _) | (with_reducible refine Kd.C_drew ?_))); (case side2 => exact (Kd.R_reads' HO195.out).2.1); rintro e w' ⟨rfl, ⟨nd, rfl⟩⟩; refine ⟨_, rfl, ?_⟩; obtain ⟨hcz31_0, hcz31_1, hfz31_0, hfz31_1⟩ := bs2_ BK191) | (go_at_call 85; (with_reducible refine (q7.calls k _ _ l0_0 a1_0 false _ ?side1 ?side2 A5.out).mono ?_); (case side1 => repeat (first | exact (Kd.C_below HR0_0.out hf_) | (with_reducible refine Kd.C_alloc ?_ _) | (with_reducible refine Kd.C_drewN ?_ _) | (with_reducible refine Kd.C_drew ?_))); (case side2 => exact HC0_0.out); rintro e w' ⟨rfl, ⟨nd, rfl⟩⟩))
 go_ret
 exact ⟨er_, hf_⟩
mutual
def q41.j0 : Nat → Int → Int → Bool → Option (Bool)
 | 0, _, _, _ => none
 | k + 1, x0, x5, x6 => if x6 = true then (if x0 ≥ 1 then (some (decide (x0 ≤ 5))) else (some false)) else (if x5 = 2 then (q41.j1 k x0 x5 (x5 == 2)) else (q41.j1 k x0 x5 (x5 == 3)))
def q41.j1 : Nat → Int → Int → Bool → Option (Bool)
 | 0, _, _, _ => none
 | k + 1, x0, x5, x15 => if x15 = true then (if x0 = 1 then (some true) else (some (x0 == 2))) else (if x5 = 4 then (if x0 ≥ 3 then (some (decide (x0 ≤ 5))) else (some false)) else (some false))
end
def q41.f (k : Nat) (a0 : Int) (a1 : Int) : Option (Bool) := if a1 = 1 then (q41.j0 k a0 a1 (a1 == 1)) else (q41.j0 k a0 a1 (a1 == 5))
theorem q41.mono_l : ∀ k, (∀ y0 y1 y2, LeO (q41.j0 k y0 y1 y2) (q41.j0 (k + 1) y0 y1 y2)) ∧ (∀ y0 y1 y2, LeO (q41.j1 k y0 y1 y2) (q41.j1 (k + 1) y0 y1 y2))
 | 0 => ⟨fun _ _ _ r h => by simp [q41.j0] at h, fun _ _ _ r h => by simp [q41.j1] at h⟩
 | k + 1 => by
  obtain ⟨ih0, ih1⟩ := q41.mono_l k
  refine ⟨?_, ?_⟩
  intro y0 y1 y2
  unfold q41.j0
  rotate_left
  intro y0 y1 y2
  unfold q41.j1
  rotate_left
  all_goals repeat' first
   | (with_reducible exact ih0 _ _ _)
   | (with_reducible exact ih1 _ _ _)
   | (with_reducible exact LeO.refl _)
   | (with_reducible exact LeO.none _)
   | (with_reducible refine LeO.ite ?_ ?_)
   | (with_reducible refine LeO.bind ?_ (fun _ => ?_))
   | exact ih0 _ _ _
   | exact ih1 _ _ _
   | exact LeO.none _
   | refine LeO.ite ?_ ?_
   | refine LeO.bind ?_ (fun _ => ?_)
theorem q41.mono : ∀ a0 a1 k, LeO (q41.f k a0 a1) (q41.f (k + 1) a0 a1) := by
 intro a0 a1 k
 obtain ⟨ih0, ih1⟩ := q41.mono_l k
 unfold q41.f
 repeat' first
  | (with_reducible exact ih0 _ _ _)
  | (with_reducible exact ih1 _ _ _)
  | (with_reducible exact LeO.refl _)
  | (with_reducible exact LeO.none _)
  | (with_reducible refine LeO.ite ?_ ?_)
  | (with_reducible refine LeO.bind ?_ (fun _ => ?_))
  | exact ih0 _ _ _
  | exact ih1 _ _ _
  | exact LeO.none _
  | refine LeO.ite ?_ ?_
  | refine LeO.bind ?_ (fun _ => ?_)
set_option maxHeartbeats 8000000 in
set_option maxRecDepth 100000 in
theorem q41.calls (k : Nat) (a0 : Int) (a1 : Int) (r : Bool) (w : World) (h : q41.f k a0 a1 = some r) :
 Calls Try.prog 104 #[.int .i64 a0, .int .i64 a1] w fun e w' => e = .returned (.bool r) ∧ Drawn0 w w' := by
 have H : (if a1 = 1 then (q41.j0 k a0 a1 (a1 == 1)) else (q41.j0 k a0 a1 (a1 == 5))) = some r := h
 clear h
 have HC3 := q56.mk H
 clear H
 go_enter Try.func104, Try.ntmps104
 go_upto_if 6 with (fail)
 go_cut [6] (fun v6 wc => ∃ (kq : Nat) (x6_2 : Bool), v6 = .bool x6_2 ∧ q56 (q41.j0 kq a0 a1 x6_2 = some r) ∧ q56 (kq ≤ k) ∧ Drawn0 w wc)
 case first =>
  have H := HC3.out
  clear HC3
  by_cases c4 : a1 = 1
  ·rw [if_pos c4] at H
   have c4b0 : (a1 == 1) = true := beq_iff_eq.mpr c4
   have c4b1 : (a1 != 1) = false := bne_eq_false_iff_eq.mpr c4
   clear c4
   (first | rw [c4b0] | (simp only [i64_w, i32_w]; rw [c4b0]) | skip)
   have H' := q56.mk H
   clear H
   go_wp2
   go_meet
   case rel => exact ⟨_, ((a1 == 1)), rf_, H', ⟨by first | omega | exact Nat.le_refl _⟩, by repeat (first | exact Drawn0.refl _ | apply Drawn0.step)⟩
  rw [if_neg c4] at H
  have c4b0 : (a1 == 1) = false := beq_eq_false_iff_ne.mpr c4
  have c4b1 : (a1 != 1) = true := bne_iff_ne.mpr c4
  (first | rw [c4b0] | (simp only [i64_w, i32_w]; rw [c4b0]) | skip)
  have H' := q56.mk H
  clear H
  go_wp2
  go_meet
  case rel => exact ⟨_, ((a1 == 5)), rf_, H', ⟨by first | omega | exact Nat.le_refl _⟩, by repeat (first | exact Drawn0.refl _ | apply Drawn0.step)⟩
 case rest =>
 clear HC3
 obtain ⟨kq, x6_2, rfl, HA, HJ2, ⟨mc2, rfl⟩⟩ := hcut
 cases kq with
 | zero => exact absurd HA.out (by simp [q41.j0])
 | succ kj2 =>
 have H := HA.out
 clear HA
 simp only [q41.j0] at H
 by_cases c5 : x6_2 = true
 ·subst c5
  replace H := it_ H
  by_cases c6 : a0 ≥ 1
  ·rw [if_pos c6] at H
   replace c6 := decide_eq_true c6
   obtain rfl := Option.some.inj H
   go_wp2
   go_ret
   exact ⟨by first | rfl | (simp; done) | (simp [*]; done), by repeat (first | exact Drawn0.refl _ | apply Drawn0.step)⟩
  rw [if_neg c6] at H
  replace c6 := decide_eq_false c6
  obtain rfl := Option.some.inj H
  go_wp2
  go_ret
  exact ⟨by first | rfl | (simp; done) | (simp [*]; done), by repeat (first | exact Drawn0.refl _ | apply Drawn0.step)⟩
 replace c5 := Bool.eq_false_iff.mpr c5
 subst c5
 replace H := ie_ H
 have HC7 := q56.mk H
 clear H
 go_upto_if 15 with (fail)
 go_cut [15] (fun v15 wc => ∃ (kq : Nat) (x15_6 : Bool), v15 = .bool x15_6 ∧ q56 (q41.j1 kq a0 a1 x15_6 = some r) ∧ q56 (kq ≤ kj2) ∧ Drawn0 w wc)
 case first =>
  have H := HC7.out
  clear HC7
  by_cases c8 : a1 = 2
  ·rw [if_pos c8] at H
   have c8b0 : (a1 == 2) = true := beq_iff_eq.mpr c8
   have c8b1 : (a1 != 2) = false := bne_eq_false_iff_eq.mpr c8
   clear c8
   (first | rw [c8b0] | (simp only [i64_w, i32_w]; rw [c8b0]) | skip)
   have H' := q56.mk H
   clear H
   go_wp2
   go_meet
   case rel => exact ⟨_, ((a1 == 2)), rf_, H', ⟨by have := HJ2.out; first | omega | exact Nat.le_refl _⟩, by repeat (first | exact Drawn0.refl _ | apply Drawn0.step)⟩
  rw [if_neg c8] at H
  have c8b0 : (a1 == 2) = false := beq_eq_false_iff_ne.mpr c8
  have c8b1 : (a1 != 2) = true := bne_iff_ne.mpr c8
  (first | rw [c8b0] | (simp only [i64_w, i32_w]; rw [c8b0]) | skip)
  have H' := q56.mk H
  clear H
  go_wp2
  go_meet
  case rel => exact ⟨_, ((a1 == 3)), rf_, H', ⟨by have := HJ2.out; first | omega | exact Nat.le_refl _⟩, by repeat (first | exact Drawn0.refl _ | apply Drawn0.step)⟩
 case rest =>
 clear HC7
 obtain ⟨kq, x15_6, rfl, HA, HJ6, ⟨mc6, rfl⟩⟩ := hcut
 cases kq with
 | zero => exact absurd HA.out (by simp [q41.j1])
 | succ kj6 =>
 have H := HA.out
 clear HA
 simp only [q41.j1] at H
 by_cases c9 : x15_6 = true
 ·subst c9
  replace H := it_ H
  by_cases c10 : a0 = 1
  ·rw [if_pos c10] at H
   have c10b0 : (a0 == 1) = true := beq_iff_eq.mpr c10
   have c10b1 : (a0 != 1) = false := bne_eq_false_iff_eq.mpr c10
   clear c10
   obtain rfl := Option.some.inj H
   go_wp2
   go_ret
   exact ⟨by first | rfl | (simp; done) | (simp [*]; done), by repeat (first | exact Drawn0.refl _ | apply Drawn0.step)⟩
  rw [if_neg c10] at H
  have c10b0 : (a0 == 1) = false := beq_eq_false_iff_ne.mpr c10
  have c10b1 : (a0 != 1) = true := bne_iff_ne.mpr c10
  obtain rfl := Option.some.inj H
  go_wp2
  go_ret
  exact ⟨by first | rfl | (simp; done) | (simp [*]; done), by repeat (first | exact Drawn0.refl _ | apply Drawn0.step)⟩
 replace c9 := Bool.eq_false_iff.mpr c9
 subst c9
 replace H := ie_ H
 by_cases c11 : a1 = 4
 ·rw [if_pos c11] at H
  have c11b0 : (a1 == 4) = true := beq_iff_eq.mpr c11
  have c11b1 : (a1 != 4) = false := bne_eq_false_iff_eq.mpr c11
  clear c11
  by_cases c12 : a0 ≥ 3
  ·rw [if_pos c12] at H
   replace c12 := decide_eq_true c12
   obtain rfl := Option.some.inj H
   go_wp2
   go_ret
   exact ⟨by first | rfl | (simp; done) | (simp [*]; done), by repeat (first | exact Drawn0.refl _ | apply Drawn0.step)⟩
  rw [if_neg c12] at H
  replace c12 := decide_eq_false c12
  obtain rfl := Option.some.inj H
  go_wp2
  go_ret
  exact ⟨by first | rfl | (simp; done) | (simp [*]; done), by repeat (first | exact Drawn0.refl _ | apply Drawn0.step)⟩
 rw [if_neg c11] at H
 have c11b0 : (a1 == 4) = false := beq_eq_false_iff_ne.mpr c11
 have c11b1 : (a1 != 4) = true := bne_iff_ne.mpr c11
 obtain rfl := Option.some.inj H
 go_wp2
 go_ret
 exact ⟨by first | rfl | (simp; done) | (simp [*]; done), by repeat (first | exact Drawn0.refl _ | apply Drawn0.step)⟩
def fidx {α : Type} (p : α → Bool) (l : List α) : Int := match l.findIdx? p with | some i => (i : Int) | none => -1
theorem fidx_hit {α : Type} (p : α → Bool) (l : List α) (k : Nat) (z : α) (hk : k < l.length) (h : p (l.getD k z) = true) (hn : ∀ j, j < k → p (l.getD j z) = false) : fidx p l = k := by
 have e : l.findIdx? p = some k := by
  rw [List.findIdx?_eq_some_iff_getElem]
  refine ⟨hk, ?_, fun j hj => ?_⟩
  ·rw [List.getD_eq_getElem?_getD, List.getElem?_eq_getElem hk] at h; exact h
  have := hn j hj
  rw [List.getD_eq_getElem?_getD, List.getElem?_eq_getElem (by omega)] at this
  simpa using this
 unfold fidx
 rw [e]
theorem fidx_miss {α : Type} (p : α → Bool) (l : List α) (z : α) (hn : ∀ j, j < l.length → p (l.getD j z) = false) : fidx p l = -1 := by
 have e : l.findIdx? p = none := by
  rw [List.findIdx?_eq_none_iff]
  intro x hx
  obtain ⟨j, hj, rfl⟩ := List.getElem_of_mem hx
  have := hn j hj
  rw [List.getD_eq_getElem?_getD, List.getElem?_eq_getElem hj] at this
  simpa using this
 unfold fidx
 rw [e]
theorem fidx_any {α : Type} (p : α → Bool) (l : List α) : decide (fidx p l ≥ 0) = l.any p := by
  unfold fidx
  cases h : l.findIdx? p with
  | none =>
    have := List.findIdx?_eq_none_iff.1 h
    have e : l.any p = false := by rw [List.any_eq_false]; intro x hx; simp [this x hx]
    rw [e]; rfl
  | some i =>
    obtain ⟨hi, hp, _⟩ := List.findIdx?_eq_some_iff_getElem.1 h
    have e : l.any p = true := List.any_eq_true.2 ⟨_, List.getElem_mem hi, hp⟩
    rw [e]; exact decide_eq_true (show (i : Int) ≥ 0 by omega)
def PaysItem (g : Nat) (lb : Array Value) (p : S41 → Bool) (l : List S41) (w : World) : Prop :=
 ∀ (W : World) (x : S41) (cs : List Value), x ∈ l → Below w.heap.size w W → Kd.K k41 W x cs → Calls Try.prog g (#[.agg cs.toArray] ++ lb) W fun e w' => e = .returned (.bool (p x)) ∧ Below W.heap.size W w'
set_option maxHeartbeats 4000000 in
set_option maxRecDepth 100000 in
theorem idxItem (A : Option Addr) (c : Nat) (l : List S41) (w : World) (hr : Kd.C k41 w A l.length l) (hc : l.length ≤ c) (g : Nat) (lb : Array Value) (eg : ∀ args w, (callFunc g args).run Try.prog w = .ok (.enter g args) w) (p : S41 → Bool) (hp : PaysItem g lb p l w) :
    Calls Try.prog 80 #[.slice A l.length c, .func (.func g) #[] lb] w fun e w' => e = .returned (.int .i64 (fidx p l)) ∧ Below w.heap.size w w' := by
  have HR := Lib.hid hr
  have HP := Lib.hid hp
  clear hr hp
  obtain ⟨n, hn⟩ : ∃ n, n = l.length := ⟨_, rfl⟩
  have HN := Lib.hid hn
  rw [← hn] at hc ⊢
  clear hn
  have hbig : n ≤ 9223372036854775807 := by have := HR.out.2.1; have := HN.out; omega
  go_enter Try.func80, Try.ntmps80
  go_wp2
  go_loopg [5, 8] n (fun gg _ s8 wr => ∃ kk : Nat, kk ≤ n ∧ n - kk ≤ gg ∧ s8 = .int .i64 kk ∧ Aside (Below w.heap.size w wr) ∧ Aside (∀ j, j < kk → p (l.getD j z41) = false))
  case atStart => exact ⟨0, Nat.zero_le _, by omega, rfl, Below.refl _ w, fun j hj => absurd hj (Nat.not_lt_zero _)⟩
  case round =>
    obtain ⟨kk, hkk, hg, rfl, BW, A⟩ := hrel
    by_cases hlt : kk < n
    · have hltz : (kk : Int) < (n : Int) := by omega
      obtain ⟨ad, A5, c5, A6, c6, e, hx0, hx1, hx2, hx3, hx4, hx5, hx6, l5, g5, l6, g6⟩ := at_T41 HR.out (kk : Int) (by omega) (by have := HN.out; omega)
      cases e
      have hcall := HP.out wr (l.getD kk z41) [.string (q81 l kk).f0, .int .i64 (q81 l kk).f1, .string (q81 l kk).f2, .bool (q81 l kk).f3, .int .i64 (q81 l kk).f4, .slice A5 (q81 l kk).f5.length c5, .slice A6 (q81 l kk).f6.length c6] (by rw [List.getD_eq_getElem?_getD, List.getElem?_eq_getElem (show kk < l.length by have := HN.out; omega)]; exact List.getElem_mem _) BW.out (k41_mk _ _ l5 (Kd.C_below g5 BW.out) l6 (Kd.C_below g6 BW.out))
      simp only [Int.toNat_natCast] at hx0 hx1 hx2 hx3 hx4 hx5 hx6
      replace hx0 := (BW.out.cell (World.block_lt_of_cell? w _ hx0)).trans hx0
      replace hx1 := (BW.out.cell (World.block_lt_of_cell? w _ hx1)).trans hx1
      replace hx2 := (BW.out.cell (World.block_lt_of_cell? w _ hx2)).trans hx2
      replace hx3 := (BW.out.cell (World.block_lt_of_cell? w _ hx3)).trans hx3
      replace hx4 := (BW.out.cell (World.block_lt_of_cell? w _ hx4)).trans hx4
      replace hx5 := (BW.out.cell (World.block_lt_of_cell? w _ hx5)).trans hx5
      replace hx6 := (BW.out.cell (World.block_lt_of_cell? w _ hx6)).trans hx6
      have B := Lib.hid (show p (l.getD kk z41) = p (l.getD kk z41) from rfl)
      cases hq : p (l.getD kk z41) with
      | true =>
        rw [hq] at hcall
        have HQ := Lib.hid hq
        clear hq
        go_wp2_with (go_at_fn g; refine hcall.mono ?_; rintro e w' ⟨rfl, hb'⟩)
        go_ret
        refine ⟨?_, q60 BW.out BW.out.size hb'⟩
        rw [fidx_hit p l kk z41 (by have := HN.out; omega) HQ.out A.out]
        rfl
      | false =>
        rw [hq] at hcall
        have HQ := Lib.hid hq
        clear hq
        go_wp2_with (go_at_fn g; refine hcall.mono ?_; rintro e w' ⟨rfl, hb'⟩)
        go_roundg (n - (kk + 1))
        case measure => omega
        case rel =>
          refine ⟨kk + 1, by omega, by omega, by go_num, q60 BW.out BW.out.size hb', (show Aside _ from fun j hj => ?_)⟩
          by_cases e : j = kk
          · subst e
            exact HQ.out
          · exact A.out j (by omega)
    · have hltz : ¬ (kk : Int) < (n : Int) := by omega
      obtain rfl : kk = n := by omega
      go_wp2
      go_ret
      refine ⟨?_, BW.out⟩
      rw [fidx_miss p l z41 (by rw [← HN.out]; exact A.out)]
      rfl
set_option maxHeartbeats 4000000 in
theorem anyItem (A : Option Addr) (c : Nat) (l : List S41) (w : World) (hr : Kd.C k41 w A l.length l) (hc : l.length ≤ c) (g : Nat) (lb : Array Value) (eg : ∀ args w, (callFunc g args).run Try.prog w = .ok (.enter g args) w) (p : S41 → Bool) (hp : PaysItem g lb p l w) :
 Calls Try.prog 59 #[.slice A l.length c, .func (.func g) #[] lb] w fun e w' => e = .returned (.bool (l.any p)) ∧ Below w.heap.size w w' := by
 have h := idxItem A c l w hr hc g lb eg p hp
 rw [← fidx_any]
 clear hr hp eg
 obtain ⟨n, hn⟩ : ∃ n : Int, n = fidx p l := ⟨_, rfl⟩
 rw [← hn] at h ⊢
 clear hn
 go_enter Try.func59, Try.ntmps59
 go_wp2_with (go_at_call 80; refine h.mono ?_; rintro e w' ⟨rfl, hb⟩)
 go_ret
 exact ⟨rfl, hb⟩
def PaysSentry (g : Nat) (lb : Array Value) (p : S45 → Bool) (l : List S45) (w : World) : Prop :=
 ∀ (W : World) (x : S45) (cs : List Value), x ∈ l → Below w.heap.size w W → Kd.K k45 W x cs → Calls Try.prog g (#[.agg cs.toArray] ++ lb) W fun e w' => e = .returned (.bool (p x)) ∧ Below W.heap.size W w'
set_option maxHeartbeats 4000000 in
set_option maxRecDepth 100000 in
theorem idxSentry (A : Option Addr) (c : Nat) (l : List S45) (w : World) (hr : Kd.C k45 w A l.length l) (hc : l.length ≤ c) (g : Nat) (lb : Array Value) (eg : ∀ args w, (callFunc g args).run Try.prog w = .ok (.enter g args) w) (p : S45 → Bool) (hp : PaysSentry g lb p l w) :
    Calls Try.prog 98 #[.slice A l.length c, .func (.func g) #[] lb] w fun e w' => e = .returned (.int .i64 (fidx p l)) ∧ Below w.heap.size w w' := by
  have HR := Lib.hid hr
  have HP := Lib.hid hp
  clear hr hp
  obtain ⟨n, hn⟩ : ∃ n, n = l.length := ⟨_, rfl⟩
  have HN := Lib.hid hn
  rw [← hn] at hc ⊢
  clear hn
  have hbig : n ≤ 9223372036854775807 := by have := HR.out.2.1; have := HN.out; omega
  go_enter Try.func98, Try.ntmps98
  go_wp2
  go_loopg [5, 8] n (fun gg _ s8 wr => ∃ kk : Nat, kk ≤ n ∧ n - kk ≤ gg ∧ s8 = .int .i64 kk ∧ Aside (Below w.heap.size w wr) ∧ Aside (∀ j, j < kk → p (l.getD j z45) = false))
  case atStart => exact ⟨0, Nat.zero_le _, by omega, rfl, Below.refl _ w, fun j hj => absurd hj (Nat.not_lt_zero _)⟩
  case round =>
    obtain ⟨kk, hkk, hg, rfl, BW, A⟩ := hrel
    by_cases hlt : kk < n
    · have hltz : (kk : Int) < (n : Int) := by omega
      obtain ⟨ad, A0, c0, A1, c1, e, hx0, hx1, l0, g0, l1, g1⟩ := at_T45 HR.out (kk : Int) (by omega) (by have := HN.out; omega)
      cases e
      have hcall := HP.out wr (l.getD kk z45) [.slice A0 (q82 l kk).f0.length c0, .slice A1 (q82 l kk).f1.length c1] (by rw [List.getD_eq_getElem?_getD, List.getElem?_eq_getElem (show kk < l.length by have := HN.out; omega)]; exact List.getElem_mem _) BW.out (k45_mk _ _ l0 (Kd.C_below g0 BW.out) l1 (Kd.C_below g1 BW.out))
      simp only [Int.toNat_natCast] at hx0 hx1
      replace hx0 := (BW.out.cell (World.block_lt_of_cell? w _ hx0)).trans hx0
      replace hx1 := (BW.out.cell (World.block_lt_of_cell? w _ hx1)).trans hx1
      have B := Lib.hid (show p (l.getD kk z45) = p (l.getD kk z45) from rfl)
      cases hq : p (l.getD kk z45) with
      | true =>
        rw [hq] at hcall
        have HQ := Lib.hid hq
        clear hq
        go_wp2_with (go_at_fn g; refine hcall.mono ?_; rintro e w' ⟨rfl, hb'⟩)
        go_ret
        refine ⟨?_, q60 BW.out BW.out.size hb'⟩
        rw [fidx_hit p l kk z45 (by have := HN.out; omega) HQ.out A.out]
        rfl
      | false =>
        rw [hq] at hcall
        have HQ := Lib.hid hq
        clear hq
        go_wp2_with (go_at_fn g; refine hcall.mono ?_; rintro e w' ⟨rfl, hb'⟩)
        go_roundg (n - (kk + 1))
        case measure => omega
        case rel =>
          refine ⟨kk + 1, by omega, by omega, by go_num, q60 BW.out BW.out.size hb', (show Aside _ from fun j hj => ?_)⟩
          by_cases e : j = kk
          · subst e
            exact HQ.out
          · exact A.out j (by omega)
    · have hltz : ¬ (kk : Int) < (n : Int) := by omega
      obtain rfl : kk = n := by omega
      go_wp2
      go_ret
      refine ⟨?_, BW.out⟩
      rw [fidx_miss p l z45 (by rw [← HN.out]; exact A.out)]
      rfl
set_option maxHeartbeats 4000000 in
theorem anySentry (A : Option Addr) (c : Nat) (l : List S45) (w : World) (hr : Kd.C k45 w A l.length l) (hc : l.length ≤ c) (g : Nat) (lb : Array Value) (eg : ∀ args w, (callFunc g args).run Try.prog w = .ok (.enter g args) w) (p : S45 → Bool) (hp : PaysSentry g lb p l w) :
 Calls Try.prog 94 #[.slice A l.length c, .func (.func g) #[] lb] w fun e w' => e = .returned (.bool (l.any p)) ∧ Below w.heap.size w w' := by
 have h := idxSentry A c l w hr hc g lb eg p hp
 rw [← fidx_any]
 clear hr hp eg
 obtain ⟨n, hn⟩ : ∃ n : Int, n = fidx p l := ⟨_, rfl⟩
 rw [← hn] at h ⊢
 clear hn
 go_enter Try.func94, Try.ntmps94
 go_wp2_with (go_at_call 98; refine h.mono ?_; rintro e w' ⟨rfl, hb⟩)
 go_ret
 exact ⟨rfl, hb⟩
def PaysCond (g : Nat) (lb : Array Value) (p : S90 → Bool) (l : List S90) (w : World) : Prop :=
 ∀ (W : World) (x : S90) (cs : List Value), x ∈ l → Below w.heap.size w W → Kd.K k90 W x cs → Calls Try.prog g (#[.agg cs.toArray] ++ lb) W fun e w' => e = .returned (.bool (p x)) ∧ Below W.heap.size W w'
set_option maxHeartbeats 4000000 in
set_option maxRecDepth 100000 in
theorem idxCond (A : Option Addr) (c : Nat) (l : List S90) (w : World) (hr : Kd.C k90 w A l.length l) (hc : l.length ≤ c) (g : Nat) (lb : Array Value) (eg : ∀ args w, (callFunc g args).run Try.prog w = .ok (.enter g args) w) (p : S90 → Bool) (hp : PaysCond g lb p l w) :
    Calls Try.prog 106 #[.slice A l.length c, .func (.func g) #[] lb] w fun e w' => e = .returned (.int .i64 (fidx p l)) ∧ Below w.heap.size w w' := by
  have HR := Lib.hid hr
  have HP := Lib.hid hp
  clear hr hp
  obtain ⟨n, hn⟩ : ∃ n, n = l.length := ⟨_, rfl⟩
  have HN := Lib.hid hn
  rw [← hn] at hc ⊢
  clear hn
  have hbig : n ≤ 9223372036854775807 := by have := HR.out.2.1; have := HN.out; omega
  go_enter Try.func106, Try.ntmps106
  go_wp2
  go_loopg [5, 8] n (fun gg _ s8 wr => ∃ kk : Nat, kk ≤ n ∧ n - kk ≤ gg ∧ s8 = .int .i64 kk ∧ Aside (Below w.heap.size w wr) ∧ Aside (∀ j, j < kk → p (l.getD j z90) = false))
  case atStart => exact ⟨0, Nat.zero_le _, by omega, rfl, Below.refl _ w, fun j hj => absurd hj (Nat.not_lt_zero _)⟩
  case round =>
    obtain ⟨kk, hkk, hg, rfl, BW, A⟩ := hrel
    by_cases hlt : kk < n
    · have hltz : (kk : Int) < (n : Int) := by omega
      obtain ⟨ad, e, hx0, hx1, hx2⟩ := at_T90 HR.out (kk : Int) (by omega) (by have := HN.out; omega)
      cases e
      have hcall := HP.out wr (l.getD kk z90) [.string (q84 l kk).f0, .string (q84 l kk).f1, .int .i64 (q84 l kk).f2] (by rw [List.getD_eq_getElem?_getD, List.getElem?_eq_getElem (show kk < l.length by have := HN.out; omega)]; exact List.getElem_mem _) BW.out (k90_mk _ _)
      simp only [Int.toNat_natCast] at hx0 hx1 hx2
      replace hx0 := (BW.out.cell (World.block_lt_of_cell? w _ hx0)).trans hx0
      replace hx1 := (BW.out.cell (World.block_lt_of_cell? w _ hx1)).trans hx1
      replace hx2 := (BW.out.cell (World.block_lt_of_cell? w _ hx2)).trans hx2
      have B := Lib.hid (show p (l.getD kk z90) = p (l.getD kk z90) from rfl)
      cases hq : p (l.getD kk z90) with
      | true =>
        rw [hq] at hcall
        have HQ := Lib.hid hq
        clear hq
        go_wp2_with (go_at_fn g; refine hcall.mono ?_; rintro e w' ⟨rfl, hb'⟩)
        go_ret
        refine ⟨?_, q60 BW.out BW.out.size hb'⟩
        rw [fidx_hit p l kk z90 (by have := HN.out; omega) HQ.out A.out]
        rfl
      | false =>
        rw [hq] at hcall
        have HQ := Lib.hid hq
        clear hq
        go_wp2_with (go_at_fn g; refine hcall.mono ?_; rintro e w' ⟨rfl, hb'⟩)
        go_roundg (n - (kk + 1))
        case measure => omega
        case rel =>
          refine ⟨kk + 1, by omega, by omega, by go_num, q60 BW.out BW.out.size hb', (show Aside _ from fun j hj => ?_)⟩
          by_cases e : j = kk
          · subst e
            exact HQ.out
          · exact A.out j (by omega)
    · have hltz : ¬ (kk : Int) < (n : Int) := by omega
      obtain rfl : kk = n := by omega
      go_wp2
      go_ret
      refine ⟨?_, BW.out⟩
      rw [fidx_miss p l z90 (by rw [← HN.out]; exact A.out)]
      rfl
set_option maxHeartbeats 4000000 in
theorem anyCond (A : Option Addr) (c : Nat) (l : List S90) (w : World) (hr : Kd.C k90 w A l.length l) (hc : l.length ≤ c) (g : Nat) (lb : Array Value) (eg : ∀ args w, (callFunc g args).run Try.prog w = .ok (.enter g args) w) (p : S90 → Bool) (hp : PaysCond g lb p l w) :
 Calls Try.prog 101 #[.slice A l.length c, .func (.func g) #[] lb] w fun e w' => e = .returned (.bool (l.any p)) ∧ Below w.heap.size w w' := by
 have h := idxCond A c l w hr hc g lb eg p hp
 rw [← fidx_any]
 clear hr hp eg
 obtain ⟨n, hn⟩ : ∃ n : Int, n = fidx p l := ⟨_, rfl⟩
 rw [← hn] at h ⊢
 clear hn
 go_enter Try.func101, Try.ntmps101
 go_wp2_with (go_at_call 106; refine h.mono ?_; rintro e w' ⟨rfl, hb⟩)
 go_ret
 exact ⟨rfl, hb⟩
def q39.p (a1 : ByteArray) (x : S41) : Bool := x.f0.toList == a1.toList
def q39.f (l0_0 : List ByteArray) (l0_1 : List (S41)) (a1 : ByteArray) : Option Int := some (fidx (q39.p a1) l0_1)
set_option maxHeartbeats 2000000 in
theorem q39.closure (b : Nat) (id : ByteArray) (W : World) (hc : W.cell? ⟨b, 0, none⟩ = some (.string id)) (x : S41) (cs : List Value) (hK : Kd.K k41 W x cs) :
 Calls Try.prog 81 (#[.agg cs.toArray] ++ #[.pointer (some ⟨b, 0, none⟩)]) W fun e w' => e = .returned (.bool (q39.p id x)) ∧ Below W.heap.size W w' := by
 obtain ⟨A5, c5, A6, c6, rfl, _⟩ := k41_open hK
 unfold q39.p
 have hb := World.block_lt_of_cell? W _ hc
 simp only at hb
 have hu := Try.underlying41
 go_enter Try.func81, Try.ntmps81
 go_wp2
 go_ret
 exact ⟨rfl, q57 (Below.refl _ _) _⟩
theorem q39.eg : ∀ args w, (callFunc 81 args).run Try.prog w = .ok (.enter 81 args) w := enters_of Try.func81 (by kernel_rfl) rfl
set_option maxHeartbeats 2000000 in
theorem q39.calls (A0_0 : Option Addr) (c0_0 : Nat) (l0_0 : List ByteArray) (A0_1 : Option Addr) (c0_1 : Nat) (l0_1 : List (S41)) (a1 : ByteArray) (r : Int) (w : World) (hr0_0 : Kd.C Kd.string w A0_0 l0_0.length l0_0) (hc0_0 : l0_0.length ≤ c0_0) (hr0_1 : Kd.C k41 w A0_1 l0_1.length l0_1) (hc0_1 : l0_1.length ≤ c0_1) (h : q39.f l0_0 l0_1 a1 = some r) :
 Calls Try.prog 45 #[.agg #[.slice A0_0 l0_0.length c0_0, .slice A0_1 l0_1.length c0_1], .string a1] w fun e w' => e = .returned (.int .i64 r) ∧ Below w.heap.size w w' := by
 obtain rfl := Option.some.inj h
 have W1 := q57 (q57 (Below.refl w.heap.size w) (.cells #[.slice A0_0 l0_0.length c0_0, .slice A0_1 l0_1.length c0_1] 25)) (.cells #[.string a1] 9)
 have hcell : ((w.alloc (.cells #[.slice A0_0 l0_0.length c0_0, .slice A0_1 l0_1.length c0_1] 25)).alloc (.cells #[.string a1] 9)).cell? ⟨w.heap.size + 1, 0, none⟩ = some (.string a1) := by simp
 have hsz : ((w.alloc (.cells #[.slice A0_0 l0_0.length c0_0, .slice A0_1 l0_1.length c0_1] 25)).alloc (.cells #[.string a1] 9)).heap.size = w.heap.size + 2 := by simp
 have hi := idxItem A0_1 c0_1 l0_1 _ (Kd.C_below hr0_1 W1) hc0_1 81 #[.pointer (some ⟨w.heap.size + 1, 0, none⟩)] q39.eg (q39.p a1) (fun W x cs hx hb hK => q39.closure _ a1 W ((hb.cell (by rw [hsz]; simp)).trans hcell) x cs hK)
 have H := Lib.hid W1
 clear hr0_0 hr0_1 W1 hcell h hsz
 obtain ⟨n, hn⟩ : ∃ n : Int, n = fidx (q39.p a1) l0_1 := ⟨_, rfl⟩
 rw [← hn] at hi ⊢
 clear hn
 have hu := Try.underlying25
 go_enter Try.func45, Try.ntmps45
 go_wp2_with (go_at_call 80; refine hi.mono ?_; rintro e w' ⟨rfl, hb⟩)
 go_ret
 exact ⟨rfl, q60 H.out H.out.size hb⟩
def q47.f (k : Nat) (l0_0 : List ByteArray) (l0_1 : List (S41)) (a1_0 : ByteArray) (a1_1 : Int) : Option (Bool) := (q39.f l0_0 l0_1 a1_0).bind fun t200 => (if t200 ≥ 0 then (if 0 ≤ t200 then (if t200 < (l0_1.length : Int) then ((q41.f k ((q81 l0_1 t200).f1) a1_1).bind fun t202 => (some t202)) else (none)) else (none)) else (some false))
theorem q47.mono : ∀ a0 a1 a2 a3 k, LeO (q47.f k a0 a1 a2 a3) (q47.f (k + 1) a0 a1 a2 a3) := by
 intro a0 a1 a2 a3 k
 unfold q47.f
 repeat' first
  | (with_reducible exact q41.mono _ _ _)
  | (with_reducible exact LeO.refl _)
  | (with_reducible exact LeO.none _)
  | (with_reducible refine LeO.ite ?_ ?_)
  | (with_reducible refine LeO.bind ?_ (fun _ => ?_))
  | exact q41.mono _ _ _
  | exact LeO.none _
  | refine LeO.ite ?_ ?_
  | refine LeO.bind ?_ (fun _ => ?_)
set_option maxHeartbeats 8000000 in
set_option maxRecDepth 100000 in
theorem q47.calls (k : Nat) (A0_0 : Option Addr) (c0_0 : Nat) (l0_0 : List ByteArray) (A0_1 : Option Addr) (c0_1 : Nat) (l0_1 : List (S41)) (a1_0 : ByteArray) (a1_1 : Int) (r : Bool) (w : World) (hr0_0 : Kd.C Kd.string w A0_0 l0_0.length l0_0) (hc0_0 : l0_0.length ≤ c0_0) (hr0_1 : Kd.C k41 w A0_1 l0_1.length l0_1) (hc0_1 : l0_1.length ≤ c0_1) (h : q47.f k l0_0 l0_1 a1_0 a1_1 = some r) :
 Calls Try.prog 99 #[.agg #[.slice A0_0 l0_0.length c0_0, .slice A0_1 l0_1.length c0_1], .agg #[.string a1_0, .int .i64 a1_1]] w fun e w' => e = .returned (.bool r) ∧ Below w.heap.size w w' := by
 have hu25 := Try.underlying25
 have hu101 := Try.underlying101
 have HR0_0 := q56.mk hr0_0
 have HC0_0 := q56.mk hc0_0
 clear hr0_0 hc0_0
 have HR0_1 := q56.mk hr0_1
 have HC0_1 := q56.mk hc0_1
 clear hr0_1 hc0_1
 have HB := q56.mk (Below.refl w.heap.size w)
 unfold q47.f at h
 have H := h
 clear h
 replace H := bd_ H
 obtain ⟨t200, A3, H⟩ := H
 by_cases c4 : t200 ≥ 0
 rotate_left
 ·rw [if_neg c4] at H
  replace c4 := decide_eq_false c4
  obtain rfl := Option.some.inj H
  go_enter Try.func99, Try.ntmps99
  go_wp2_with (first | ((with_reducible refine q71 (N := 2) rfl ?_); refine bx_ 2 #[.slice A0_0 l0_0.length c0_0, .slice A0_1 l0_1.length c0_1] 25 ?_; intro gb198 hg w16 hbox hb; have BK198 := q56.mk (hbox); have GW198 := zz_ (w := w) hg; have GE198 := zz_ (w := w) hg; replace HB := hb_ HB hb;  clear hb hbox hg) | ((with_reducible refine q71 (N := 3) rfl ?_); refine bx_ 3 #[.string a1_0, .int .i64 a1_1] 101 ?_; intro gb199 hg w17 hbox hb; have BK199 := q56.mk (hbox); have GW199 := zz_ (w := w) hg; have GE199 := zz_ (w := w) hg; replace HB := hb_ HB hb; have NB198_199 := ne1_ hg BK198; have NB199_198 := ne2_ hg BK198; replace BK198 := bb_ BK198 hb;  clear hb hbox hg; have hnb18 := NB198_199.out; have hnc18 := NB199_198.out; obtain ⟨hcz19_0, hcz19_1, hfz19_0, hfz19_1⟩ := bs2_ BK198; obtain ⟨hcz20_0, hcz20_1, hfz20_0, hfz20_1⟩ := bs2_ BK199) | (go_at_call 45; (with_reducible refine (q39.calls _ _ l0_0 _ _ l0_1 a1_0 t200 _ ?side1 ?side2 ?side3 ?side4 A3.out).mono ?_); (case side1 => exact kc_ HR0_0 HB); (case side2 => exact HC0_0.out); (case side3 => exact kc_ HR0_1 HB); (case side4 => exact HC0_1.out); rintro e w21 ⟨rfl, hb⟩; replace BK198 := bb_ BK198 hb; replace BK199 := bb_ BK199 hb; replace HB := hb_ HB hb;  (try clear hb)))
  repeat (go_quiet (first | ((with_reducible refine q71 (N := 2) rfl ?_); refine bx_ 2 #[.slice A0_0 l0_0.length c0_0, .slice A0_1 l0_1.length c0_1] 25 ?_; intro gb198 hg w16 hbox hb; have BK198 := q56.mk (hbox); have GW198 := zz_ (w := w) hg; have GE198 := zz_ (w := w) hg; replace HB := hb_ HB hb;  clear hb hbox hg) | ((with_reducible refine q71 (N := 3) rfl ?_); refine bx_ 3 #[.string a1_0, .int .i64 a1_1] 101 ?_; intro gb199 hg w17 hbox hb; have BK199 := q56.mk (hbox); have GW199 := zz_ (w := w) hg; have GE199 := zz_ (w := w) hg; replace HB := hb_ HB hb; have NB198_199 := ne1_ hg BK198; have NB199_198 := ne2_ hg BK198; replace BK198 := bb_ BK198 hb;  clear hb hbox hg; have hnb18 := NB198_199.out; have hnc18 := NB199_198.out; obtain ⟨hcz19_0, hcz19_1, hfz19_0, hfz19_1⟩ := bs2_ BK198; obtain ⟨hcz20_0, hcz20_1, hfz20_0, hfz20_1⟩ := bs2_ BK199) | (go_at_call 45; (with_reducible refine (q39.calls _ _ l0_0 _ _ l0_1 a1_0 t200 _ ?side1 ?side2 ?side3 ?side4 A3.out).mono ?_); (case side1 => exact kc_ HR0_0 HB); (case side2 => exact HC0_0.out); (case side3 => exact kc_ HR0_1 HB); (case side4 => exact HC0_1.out); rintro e w21 ⟨rfl, hb⟩; replace BK198 := bb_ BK198 hb; replace BK199 := bb_ BK199 hb; replace HB := hb_ HB hb;  (try clear hb))); try go_wp2_with (first | ((with_reducible refine q71 (N := 2) rfl ?_); refine bx_ 2 #[.slice A0_0 l0_0.length c0_0, .slice A0_1 l0_1.length c0_1] 25 ?_; intro gb198 hg w16 hbox hb; have BK198 := q56.mk (hbox); have GW198 := zz_ (w := w) hg; have GE198 := zz_ (w := w) hg; replace HB := hb_ HB hb;  clear hb hbox hg) | ((with_reducible refine q71 (N := 3) rfl ?_); refine bx_ 3 #[.string a1_0, .int .i64 a1_1] 101 ?_; intro gb199 hg w17 hbox hb; have BK199 := q56.mk (hbox); have GW199 := zz_ (w := w) hg; have GE199 := zz_ (w := w) hg; replace HB := hb_ HB hb; have NB198_199 := ne1_ hg BK198; have NB199_198 := ne2_ hg BK198; replace BK198 := bb_ BK198 hb;  clear hb hbox hg; have hnb18 := NB198_199.out; have hnc18 := NB199_198.out; obtain ⟨hcz19_0, hcz19_1, hfz19_0, hfz19_1⟩ := bs2_ BK198; obtain ⟨hcz20_0, hcz20_1, hfz20_0, hfz20_1⟩ := bs2_ BK199) | (go_at_call 45; (with_reducible refine (q39.calls _ _ l0_0 _ _ l0_1 a1_0 t200 _ ?side1 ?side2 ?side3 ?side4 A3.out).mono ?_); (case side1 => exact kc_ HR0_0 HB); (case side2 => exact HC0_0.out); (case side3 => exact kc_ HR0_1 HB); (case side4 => exact HC0_1.out); rintro e w21 ⟨rfl, hb⟩; replace BK198 := bb_ BK198 hb; replace BK199 := bb_ BK199 hb; replace HB := hb_ HB hb;  (try clear hb))))
  go_ret
  exact ⟨er_, hf_⟩
 rw [if_pos c4] at H
 replace c4 := decide_eq_true c4
 by_cases c5 : 0 ≤ t200
 rotate_left
 ·rw [if_neg c5] at H
  exact absurd H (by simp)
 rw [if_pos c5] at H
 replace c5 := decide_eq_true c5
 by_cases c6 : t200 < (l0_1.length : Int)
 ·rw [if_pos c6] at H
  replace c6 := decide_eq_true c6
  replace H := bd_ H
  obtain ⟨t202, A7, H⟩ := H
  obtain rfl := Option.some.inj H
  go_enter Try.func99, Try.ntmps99
  go_wp2_with (first | ((with_reducible refine q71 (N := 2) rfl ?_); refine bx_ 2 #[.slice A0_0 l0_0.length c0_0, .slice A0_1 l0_1.length c0_1] 25 ?_; intro gb198 hg w8 hbox hb; have BK198 := q56.mk (hbox); have GW198 := zz_ (w := w) hg; have GE198 := zz_ (w := w) hg; replace HB := hb_ HB hb;  clear hb hbox hg) | ((with_reducible refine q71 (N := 3) rfl ?_); refine bx_ 3 #[.string a1_0, .int .i64 a1_1] 101 ?_; intro gb199 hg w9 hbox hb; have BK199 := q56.mk (hbox); have GW199 := zz_ (w := w) hg; have GE199 := zz_ (w := w) hg; replace HB := hb_ HB hb; have NB198_199 := ne1_ hg BK198; have NB199_198 := ne2_ hg BK198; replace BK198 := bb_ BK198 hb;  clear hb hbox hg; have hnb10 := NB198_199.out; have hnc10 := NB199_198.out; obtain ⟨hcz11_0, hcz11_1, hfz11_0, hfz11_1⟩ := bs2_ BK198; obtain ⟨hcz12_0, hcz12_1, hfz12_0, hfz12_1⟩ := bs2_ BK199) | (go_at_call 45; (with_reducible refine (q39.calls _ _ l0_0 _ _ l0_1 a1_0 t200 _ ?side1 ?side2 ?side3 ?side4 A3.out).mono ?_); (case side1 => exact kc_ HR0_0 HB); (case side2 => exact HC0_0.out); (case side3 => exact kc_ HR0_1 HB); (case side4 => exact HC0_1.out); rintro e w13 ⟨rfl, hb⟩; replace BK198 := bb_ BK198 hb; replace BK199 := bb_ BK199 hb; replace HB := hb_ HB hb;  (try clear hb); obtain ⟨hcz14_0, hcz14_1, hfz14_0, hfz14_1⟩ := bs2_ BK198; have p201 : 0 ≤ (t200 : Int) := od_; have q201 : t200 < (l0_1.length : Int) := od_; obtain ⟨ad201, A201_5, c201_5, A201_6, c201_6, e201, hx201_0, hx201_1, hx201_2, hx201_3, hx201_4, hx201_5, hx201_6, hl201_5, hi201_5, hl201_6, hi201_6⟩ := at_T41 HR0_1.out t200 p201 q201; cases e201; replace hx201_0 := rr_ HB hx201_0; replace hx201_1 := rr_ HB hx201_1; replace hx201_2 := rr_ HB hx201_2; replace hx201_3 := rr_ HB hx201_3; replace hx201_4 := rr_ HB hx201_4; replace hx201_5 := rr_ HB hx201_5; replace hx201_6 := rr_ HB hx201_6; have HR201_5 := q56.mk hi201_5; have HC201_5 := q56.mk hl201_5; clear hi201_5 hl201_5; have HR201_6 := q56.mk hi201_6; have HC201_6 := q56.mk hl201_6; clear hi201_6 hl201_6; replace p201 := eq_true p201; replace q201 := eq_true q201; obtain ⟨hcz15_0, hcz15_1, hfz15_0, hfz15_1⟩ := bs2_ BK199) | (go_at_call 104; (with_reducible refine (q41.calls k ((q81 l0_1 t200).f1) a1_1 t202 _ A7.out).mono ?_); rintro e w' ⟨rfl, ⟨nd, rfl⟩⟩; (try first | exact ⟨rfl, _, World.drewN_drewN _ _ _⟩ | exact ⟨rfl, _, Eq.trans (World.drewN_drewN _ _ _) (congrArg (World.drewN _) (Nat.add_assoc _ _ _))⟩)))
  repeat (go_quiet (first | ((with_reducible refine q71 (N := 2) rfl ?_); refine bx_ 2 #[.slice A0_0 l0_0.length c0_0, .slice A0_1 l0_1.length c0_1] 25 ?_; intro gb198 hg w8 hbox hb; have BK198 := q56.mk (hbox); have GW198 := zz_ (w := w) hg; have GE198 := zz_ (w := w) hg; replace HB := hb_ HB hb;  clear hb hbox hg) | ((with_reducible refine q71 (N := 3) rfl ?_); refine bx_ 3 #[.string a1_0, .int .i64 a1_1] 101 ?_; intro gb199 hg w9 hbox hb; have BK199 := q56.mk (hbox); have GW199 := zz_ (w := w) hg; have GE199 := zz_ (w := w) hg; replace HB := hb_ HB hb; have NB198_199 := ne1_ hg BK198; have NB199_198 := ne2_ hg BK198; replace BK198 := bb_ BK198 hb;  clear hb hbox hg; have hnb10 := NB198_199.out; have hnc10 := NB199_198.out; obtain ⟨hcz11_0, hcz11_1, hfz11_0, hfz11_1⟩ := bs2_ BK198; obtain ⟨hcz12_0, hcz12_1, hfz12_0, hfz12_1⟩ := bs2_ BK199) | (go_at_call 45; (with_reducible refine (q39.calls _ _ l0_0 _ _ l0_1 a1_0 t200 _ ?side1 ?side2 ?side3 ?side4 A3.out).mono ?_); (case side1 => exact kc_ HR0_0 HB); (case side2 => exact HC0_0.out); (case side3 => exact kc_ HR0_1 HB); (case side4 => exact HC0_1.out); rintro e w13 ⟨rfl, hb⟩; replace BK198 := bb_ BK198 hb; replace BK199 := bb_ BK199 hb; replace HB := hb_ HB hb;  (try clear hb); obtain ⟨hcz14_0, hcz14_1, hfz14_0, hfz14_1⟩ := bs2_ BK198; have p201 : 0 ≤ (t200 : Int) := od_; have q201 : t200 < (l0_1.length : Int) := od_; obtain ⟨ad201, A201_5, c201_5, A201_6, c201_6, e201, hx201_0, hx201_1, hx201_2, hx201_3, hx201_4, hx201_5, hx201_6, hl201_5, hi201_5, hl201_6, hi201_6⟩ := at_T41 HR0_1.out t200 p201 q201; cases e201; replace hx201_0 := rr_ HB hx201_0; replace hx201_1 := rr_ HB hx201_1; replace hx201_2 := rr_ HB hx201_2; replace hx201_3 := rr_ HB hx201_3; replace hx201_4 := rr_ HB hx201_4; replace hx201_5 := rr_ HB hx201_5; replace hx201_6 := rr_ HB hx201_6; have HR201_5 := q56.mk hi201_5; have HC201_5 := q56.mk hl201_5; clear hi201_5 hl201_5; have HR201_6 := q56.mk hi201_6; have HC201_6 := q56.mk hl201_6; clear hi201_6 hl201_6; replace p201 := eq_true p201; replace q201 := eq_true q201; obtain ⟨hcz15_0, hcz15_1, hfz15_0, hfz15_1⟩ := bs2_ BK199) | (go_at_call 104; (with_reducible refine (q41.calls k ((q81 l0_1 t200).f1) a1_1 t202 _ A7.out).mono ?_); rintro e w' ⟨rfl, ⟨nd, rfl⟩⟩; (try first | exact ⟨rfl, _, World.drewN_drewN _ _ _⟩ | exact ⟨rfl, _, Eq.trans (World.drewN_drewN _ _ _) (congrArg (World.drewN _) (Nat.add_assoc _ _ _))⟩))); try go_wp2_with (first | ((with_reducible refine q71 (N := 2) rfl ?_); refine bx_ 2 #[.slice A0_0 l0_0.length c0_0, .slice A0_1 l0_1.length c0_1] 25 ?_; intro gb198 hg w8 hbox hb; have BK198 := q56.mk (hbox); have GW198 := zz_ (w := w) hg; have GE198 := zz_ (w := w) hg; replace HB := hb_ HB hb;  clear hb hbox hg) | ((with_reducible refine q71 (N := 3) rfl ?_); refine bx_ 3 #[.string a1_0, .int .i64 a1_1] 101 ?_; intro gb199 hg w9 hbox hb; have BK199 := q56.mk (hbox); have GW199 := zz_ (w := w) hg; have GE199 := zz_ (w := w) hg; replace HB := hb_ HB hb; have NB198_199 := ne1_ hg BK198; have NB199_198 := ne2_ hg BK198; replace BK198 := bb_ BK198 hb;  clear hb hbox hg; have hnb10 := NB198_199.out; have hnc10 := NB199_198.out; obtain ⟨hcz11_0, hcz11_1, hfz11_0, hfz11_1⟩ := bs2_ BK198; obtain ⟨hcz12_0, hcz12_1, hfz12_0, hfz12_1⟩ := bs2_ BK199) | (go_at_call 45; (with_reducible refine (q39.calls _ _ l0_0 _ _ l0_1 a1_0 t200 _ ?side1 ?side2 ?side3 ?side4 A3.out).mono ?_); (case side1 => exact kc_ HR0_0 HB); (case side2 => exact HC0_0.out); (case side3 => exact kc_ HR0_1 HB); (case side4 => exact HC0_1.out); rintro e w13 ⟨rfl, hb⟩; replace BK198 := bb_ BK198 hb; replace BK199 := bb_ BK199 hb; replace HB := hb_ HB hb;  (try clear hb); obtain ⟨hcz14_0, hcz14_1, hfz14_0, hfz14_1⟩ := bs2_ BK198; have p201 : 0 ≤ (t200 : Int) := od_; have q201 : t200 < (l0_1.length : Int) := od_; obtain ⟨ad201, A201_5, c201_5, A201_6, c201_6, e201, hx201_0, hx201_1, hx201_2, hx201_3, hx201_4, hx201_5, hx201_6, hl201_5, hi201_5, hl201_6, hi201_6⟩ := at_T41 HR0_1.out t200 p201 q201; cases e201; replace hx201_0 := rr_ HB hx201_0; replace hx201_1 := rr_ HB hx201_1; replace hx201_2 := rr_ HB hx201_2; replace hx201_3 := rr_ HB hx201_3; replace hx201_4 := rr_ HB hx201_4; replace hx201_5 := rr_ HB hx201_5; replace hx201_6 := rr_ HB hx201_6; have HR201_5 := q56.mk hi201_5; have HC201_5 := q56.mk hl201_5; clear hi201_5 hl201_5; have HR201_6 := q56.mk hi201_6; have HC201_6 := q56.mk hl201_6; clear hi201_6 hl201_6; replace p201 := eq_true p201; replace q201 := eq_true q201; obtain ⟨hcz15_0, hcz15_1, hfz15_0, hfz15_1⟩ := bs2_ BK199) | (go_at_call 104; (with_reducible refine (q41.calls k ((q81 l0_1 t200).f1) a1_1 t202 _ A7.out).mono ?_); rintro e w' ⟨rfl, ⟨nd, rfl⟩⟩; (try first | exact ⟨rfl, _, World.drewN_drewN _ _ _⟩ | exact ⟨rfl, _, Eq.trans (World.drewN_drewN _ _ _) (congrArg (World.drewN _) (Nat.add_assoc _ _ _))⟩))))
  go_ret
  exact ⟨er_, hf_⟩
 ·rw [if_neg c6] at H
  exact absurd H (by simp)
def legalB (kind event : Int) : Bool :=
 if event = 1 ∨ event = 5 then decide (1 ≤ kind ∧ kind ≤ 5) else if event = 2 ∨ event = 3 then decide (kind = 1 ∨ kind = 2) else if event = 4 then decide (3 ≤ kind ∧ kind ≤ 5) else false
theorem legal_eq (a b : Int) : q41.f 2 a b = some (legalB a b) := by
 unfold q41.f legalB
 by_cases h1 : b = 1
 ·subst h1; simp only [q41.j0]; by_cases h2 : a ≥ 1 <;> by_cases h3 : a ≤ 5 <;> simp [h2, h3]
 by_cases h5 : b = 5
 ·subst h5; simp only [q41.j0]; by_cases h2 : a ≥ 1 <;> by_cases h3 : a ≤ 5 <;> simp [h2, h3]
 rw [if_neg h1, show (b == 5) = false by simpa using h5]
 simp only [q41.j0, Bool.false_eq_true, if_false]
 have h15 : ¬ (b = 1 ∨ b = 5) := by omega
 rw [if_neg h15]
 by_cases h2 : b = 2
 ·subst h2; simp only [q41.j1]; by_cases h3 : a = 1 <;> by_cases h4 : a = 2 <;> simp [h3, h4]
 by_cases h3 : b = 3
 ·subst h3; simp only [q41.j1]; by_cases h3 : a = 1 <;> by_cases h4 : a = 2 <;> simp [h3, h4]
 rw [if_neg h2, show (b == 3) = false by simpa using h3]
 simp only [q41.j1, Bool.false_eq_true, if_false]
 have h23 : ¬ (b = 2 ∨ b = 3) := by omega
 rw [if_neg h23]
 by_cases h4 : b = 4
 ·subst h4; by_cases h2 : a ≥ 3 <;> by_cases h3 : a ≤ 5 <;> simp [h2, h3]
 ·simp [h4]
theorem wrap_lt {i n : Int} (h0 : 0 ≤ i) (h : i < n) (hn : n ≤ 9223372036854775807) : wrap64 (i + 1) = i + 1 := by
 unfold wrap64
 omega
def memB (l : List ByteArray) (s : ByteArray) : Bool := l.any (fun x => s.toList == x.toList)
theorem rdOf_get {α : Type} (z : α) (l : List α) (i : Nat) (h : i < l.length) : rdOf z l (i : Int) = l[i] := by
 simp [rdOf, List.getD_eq_getElem?_getD, List.getElem?_eq_getElem h]
theorem index_any (l : List ByteArray) (s : ByteArray) (hn : l.length ≤ 9223372036854775807) (d : Nat) : ∀ (i k : Nat), i + d = l.length → d < k → ∃ r, q8.l0 k l s l.length i = some r ∧ decide (r ≥ 0) = (l.drop i).any (fun x => s.toList == x.toList) := by
  induction d with
  | zero =>
    intro i k hi hk
    obtain ⟨k, rfl⟩ : ∃ m, k = m + 1 := ⟨k - 1, by omega⟩
    refine ⟨-1, ?_, ?_⟩
    · simp only [q8.l0]
      rw [if_neg (by omega)]
    · rw [List.drop_of_length_le (by omega)]
      rfl
  | succ d ih =>
    intro i k hi hk
    obtain ⟨k, rfl⟩ : ∃ m, k = m + 1 := ⟨k - 1, by omega⟩
    have hlt : i < l.length := by omega
    simp only [q8.l0]
    rw [if_pos (by omega), if_pos (by omega), if_pos (by omega), rdOf_get _ _ _ hlt, List.drop_eq_getElem_cons hlt, List.any_cons]
    by_cases he : s.toList = l[i].toList
    · rw [if_pos he]
      refine ⟨i, rfl, ?_⟩
      rw [show (s.toList == l[i].toList) = true by simpa using he]
      simp
    · rw [if_neg he, show (s.toList == l[i].toList) = false by simpa using he, Bool.false_or, wrap_lt (n := (l.length : Int)) (by omega) (by omega) (by omega)]
      exact ih (i + 1) k (by omega) (by omega)
theorem contains_eq (l : List ByteArray) (s : ByteArray) (hn : l.length ≤ 9223372036854775807) (k : Nat) (hk : l.length < k) : q7.f k l s = some (memB l s) := by
 obtain ⟨r, hr, hd⟩ := index_any l s hn l.length 0 k (by omega) hk
 unfold q7.f q8.f
 have hr' : _ = some r := hr
 simp only [Int.natCast_zero, Int.ofNat_eq_natCast, Int.cast_ofNat_Int] at hr'
 rw [hr', Option.bind_some, hd]
 rfl
abbrev hasOn_p (a : ByteArray) (b : Int) (x : S101) : Bool := a.toList == x.f0.toList && (b == x.f1)
def hasOn (l : List (S101)) (a : ByteArray) (b : Int) : Bool := l.any (hasOn_p a b)
theorem hasOn_any (l : List (S101)) (a : ByteArray) (b : Int) (hn : l.length ≤ 9223372036854775807) (d : Nat) : ∀ (i k : Nat), i + d = l.length → d < k → ∃ r, q51.l0 k l l.length i a b = some r ∧ decide (r ≥ 0) = (l.drop i).any (hasOn_p a b) := by
  induction d with
  | zero =>
    intro i k hi hk
    obtain ⟨k, rfl⟩ : ∃ m, k = m + 1 := ⟨k - 1, by omega⟩
    refine ⟨-1, ?_, ?_⟩
    · simp only [q51.l0]
      rw [if_neg (by omega)]
    · rw [List.drop_of_length_le (by omega)]
      rfl
  | succ d ih =>
    intro i k hi hk
    obtain ⟨k, rfl⟩ : ∃ m, k = m + 1 := ⟨k - 1, by omega⟩
    have hlt : i < l.length := by omega
    have hrd : q76 l (i : Int) = l[i] := by simp [q76, List.getD_eq_getElem?_getD, List.getElem?_eq_getElem hlt]
    simp only [q51.l0]
    rw [if_pos (by omega), if_pos (by omega), if_pos (by omega), hrd, List.drop_eq_getElem_cons hlt, List.any_cons]
    cases he : hasOn_p a b l[i] with
    | true =>
      rw [if_pos he]
      exact ⟨i, rfl, by simp⟩
    | false =>
      rw [if_neg (show ¬ (hasOn_p a b l[i]) = true by rw [he]; simp), Bool.false_or, wrap_lt (n := (l.length : Int)) (by omega) (by omega) (by omega)]
      exact ih (i + 1) k (by omega) (by omega)
theorem hasOn_eq (l : List (S101)) (a : ByteArray) (b : Int) (hn : l.length ≤ 9223372036854775807) (k : Nat) (hk : l.length < k) : q45.f k l a b = some (hasOn l a b) := by
 obtain ⟨r, hr, hd⟩ := hasOn_any l a b hn l.length 0 k (by omega) hk
 unfold q45.f q51.f
 have hr' : _ = some r := hr
 simp only [Int.natCast_zero, Int.ofNat_eq_natCast, Int.cast_ofNat_Int] at hr'
 rw [hr', Option.bind_some, hd]
 rfl
def q74 (l : List (S41)) (id : ByteArray) : Int := fidx (q39.p id) l
theorem fidx_lt {α : Type} (p : α → Bool) (l : List α) : fidx p l < l.length := by
  unfold fidx
  cases h : l.findIdx? p with
  | none => show (-1 : Int) < _; omega
  | some i =>
    obtain ⟨hi, _⟩ := List.findIdx?_eq_some_iff_getElem.1 h
    show (i : Int) < _
    omega
theorem placeI_lt (l : List (S41)) (id : ByteArray) : q74 l id < l.length := fidx_lt _ _
def onB (l : List (S41)) (a : ByteArray) (b : Int) : Bool := if 0 ≤ q74 l a then legalB (q81 l (q74 l a)).f1 b else false
theorem isOn_eq (fs : List ByteArray) (l : List (S41)) (a : ByteArray) (b : Int) : q47.f 2 fs l a b = some (onB l a b) := by
 unfold q47.f onB q39.f
 rw [show fidx (q39.p a) l = q74 l a from rfl, Option.bind_some]
 by_cases h : 0 ≤ q74 l a
 ·rw [if_pos h, if_pos h, if_pos (placeI_lt l a), legal_eq, if_pos h]
  rfl
 ·rw [if_neg h, if_neg h]
def opsL : List ByteArray := [(⟨#[60]⟩ : ByteArray), (⟨#[60, 61]⟩ : ByteArray), (⟨#[61]⟩ : ByteArray), (⟨#[33, 61]⟩ : ByteArray), (⟨#[62, 61]⟩ : ByteArray), (⟨#[62]⟩ : ByteArray)]
def ifB (fs : List ByteArray) (file op : ByteArray) (n : Int) : Bool := memB opsL op && (memB fs file && decide (-1000000 ≤ n ∧ n ≤ 1000000))
theorem isIf_eq (fs : List ByteArray) (l : List (S41)) (a b : ByteArray) (c : Int) (hn : fs.length ≤ 9223372036854775807) (k : Nat) (hk : fs.length < k) (hk6 : 6 < k) : q46.f k fs l a b c = some (ifB fs a b c) := by
 unfold q46.f ifB
 rw [show ([(⟨#[60]⟩ : ByteArray), (⟨#[60, 61]⟩ : ByteArray), (⟨#[61]⟩ : ByteArray), (⟨#[33, 61]⟩ : ByteArray), (⟨#[62, 61]⟩ : ByteArray), (⟨#[62]⟩ : ByteArray)] : List ByteArray) = opsL by rfl, contains_eq opsL b (by decide) k hk6, contains_eq fs a hn k hk, Option.bind_some, Option.bind_some]
 cases memB opsL b <;> cases memB fs a <;> simp
 by_cases h : c ≥ -1000000 <;> by_cases h2 : c ≤ 1000000 <;> simp [h, h2] <;> omega
section
variable {P : Program} {md : Region.Mode} {ops : Array Oper} {Q : Exit → Act → World → Prop} {S : World → Prop} {ds : List Nat}
theorem oN_ {n m fuel : Nat} {oi : Oper} {a : Act} {w : World} (i : Nat) (N : Option Tmp)
 (h : ∀ K : Act → World → Prop, Shut (∀ a' w', S w' → (S w' → q86 P md ops Q S ds fuel (bits n (m ||| 1 <<< i)) a' w') → K a' w') → if Region.wanted oi (yielded ops a.tmps) = true then Oper.wp P oi a w K Q else K (a.put N undef) w)
 (hi : ops[i]? = some oi := by exact rfl) (hN : oi.dst = N := by exact rfl) (hc : readyB md ops (bits n m) (bits n (m ||| 1 <<< i)) i = true := by kernel_rfl) (hd : i ∉ ds := by decide) : q86 P md ops Q S ds (fuel + 1) (bits n m) a w :=
 one_ _ hi hN hc hd h
theorem tW_ {n m fuel : Nat} {oi oj : Oper} {a : Act} {w : World} (i j : Nat) (Ni Nj : Option Tmp)
 (h1 : ∀ K : Act → World → Prop, Shut (∀ a' w', S w' → (S w' → q86 P md ops Q S ds fuel (bits n (m ||| 1 <<< i)) a' w') → K a' w') → if Region.wanted oi (yielded ops a.tmps) = true then Oper.wp P oi a w K Q else K (a.put Ni undef) w)
 (h2 : ∀ K : Act → World → Prop, Shut (∀ a' w', S w' → (S w' → q86 P md ops Q S ds fuel (bits n (m ||| 1 <<< j)) a' w') → K a' w') → if Region.wanted oj (yielded ops a.tmps) = true then Oper.wp P oj a w K Q else K (a.put Nj undef) w)
 (hi : ops[i]? = some oi := by exact rfl) (hj : ops[j]? = some oj := by exact rfl) (hNi : oi.dst = Ni := by exact rfl) (hNj : oj.dst = Nj := by exact rfl)
 (hc : (Region.ready md ops (bits n m) == [i, j] && (bits n m).setIfInBounds i true == bits n (m ||| 1 <<< i) && (bits n m).setIfInBounds j true == bits n (m ||| 1 <<< j)) = true := by kernel_rfl) (hdi : i ∉ ds := by decide) (hdj : j ∉ ds := by decide) : q86 P md ops Q S ds (fuel + 1) (bits n m) a w :=
 two_ _ _ hi hj hNi hNj hc hdi hdj h1 h2
theorem sD_ {id : Nat} {a : Act} {w : World} (ds : List Nat) (S : World → Prop) (n : Nat) (hS : S w.drew) (h : S w.drew → q86 P .any ops Q S ds n (bits n 0) a w.drew)
 (hm : P.follows .mixedOrders = true := by kernel_rfl) (hn : ops.size = n := by exact rfl) (hl : Array.replicate n false = bits n 0 := by kernel_rfl) : (Code.region id ops true).wp P Q a w :=
 start_ (bits n 0) hm hn hl hS h
theorem lA_ {n m fuel : Nat} {oi : Oper} {a : Act} {w : World} (i : Nat) (N : Option Tmp)
 (h : ∀ K : Act → World → Prop, Shut (∀ a' w', q86 P md ops Q S ds fuel (bits n (m ||| 1 <<< i)) a' w' → K a' w') → if Region.wanted oi (yielded ops a.tmps) = true then Oper.wp P oi a w K Q else K (a.put N undef) w)
 (hi : ops[i]? = some oi := by exact rfl) (hN : oi.dst = N := by exact rfl) (hc : readyB md ops (bits n m) (bits n (m ||| 1 <<< i)) i = true := by kernel_rfl) (hd : i ∈ ds := by decide) : q86 P md ops Q S ds (fuel + 1) (bits n m) a w :=
 last_ _ hi hN hc hd h
end
def onOk (l : List (S41)) (on : List (S101)) (i : Nat) : Bool := onB l (q76 on i).f0 (q76 on i).f1 && !hasOn (on.take i) (q76 on i).f0 (q76 on i).f1
def ifsOk (fs : List ByteArray) (l : List (S90)) : Bool := !l.any (fun c => !ifB fs c.f0 c.f1 c.f2)
def sentryB (fs : List ByteArray) (l : List (S41)) (on : List (S101)) (ifs : List (S90)) : Bool :=
 decide (on.length ≤ 3 ∧ ifs.length ≤ 2 ∧ on.length + ifs.length ≠ 0) && ((List.range on.length).all (onOk l on) && ifsOk fs ifs)
def q30.f (l0_0 : List ByteArray) (l0_1 : List (S41)) (l1_0 : List (S101)) (l1_1 : List (S90)) : Option Bool := some (sentryB l0_0 l0_1 l1_0 l1_1)
theorem q73 {w1 w' : World} {a : Addr} {v : Value} (hb : Below w1.heap.size w1 w') (hc : w1.cell? a = some v) : w'.cell? a = some v := (hb.cell (World.block_lt_of_cell? _ _ hc)).trans hc
theorem q72 {w w1 w' : World} (hb : Below w1.heap.size w1 w') (hB : Below w.heap.size w w1) : Below w.heap.size w w' := q60 hB hB.size hb
theorem q30.eg : ∀ args w, (callFunc 102 args).run Try.prog w = .ok (.enter 102 args) w := enters_of Try.func102 (by kernel_rfl) rfl
set_option maxHeartbeats 4000000 in
theorem q30.closure (b : Nat) (A0_0 : Option Addr) (c0_0 : Nat) (l0_0 : List ByteArray) (A0_1 : Option Addr) (c0_1 : Nat) (l0_1 : List (S41)) (W : World) (hm0 : W.cell? ⟨b, 0, none⟩ = some (.slice A0_0 l0_0.length c0_0)) (hm1 : W.cell? ⟨b, 1, none⟩ = some (.slice A0_1 l0_1.length c0_1))
 (hr0_0 : Kd.C Kd.string W A0_0 l0_0.length l0_0) (hc0_0 : l0_0.length ≤ c0_0) (hr0_1 : Kd.C k41 W A0_1 l0_1.length l0_1) (hc0_1 : l0_1.length ≤ c0_1) (x : S90) (cs : List Value) (hK : Kd.K k90 W x cs) :
 Calls Try.prog 102 (#[.agg cs.toArray] ++ #[.pointer (some ⟨b, 0, none⟩)]) W fun e w' => e = .returned (.bool (!ifB l0_0 x.f0 x.f1 x.f2)) ∧ Below W.heap.size W w' := by
 obtain rfl := k90_open hK
 have hb := World.block_lt_of_cell? W _ hm0
 simp only at hb
 have hW1 := q57 (Below.refl W.heap.size W) (.cells #[.string x.f0, .string x.f1, .int .i64 x.f2] 90)
 have hif := q46.calls (l0_0.length + 7) A0_0 c0_0 l0_0 A0_1 c0_1 l0_1 x.f0 x.f1 x.f2 _ _ (Kd.C_below hr0_0 hW1) hc0_0 (Kd.C_below hr0_1 hW1) hc0_1 (isIf_eq l0_0 l0_1 x.f0 x.f1 x.f2 hr0_0.2.1 (l0_0.length + 7) (by omega) (by omega))
 have HW := Lib.hid hW1
 clear hr0_0 hr0_1 hW1 hK
 obtain ⟨T, hT⟩ : ∃ T, T = ifB l0_0 x.f0 x.f1 x.f2 := ⟨_, rfl⟩
 rw [← hT] at hif ⊢
 clear hT
 have hu36 := Try.underlying25
 have hu25 := Try.underlying90
 go_enter Try.func102, Try.ntmps102
 go_wp2_with (go_at_call 103; refine hif.mono ?_; rintro e w' ⟨rfl, hb'⟩)
 go_ret
 exact ⟨rfl, q72 hb' HW.out⟩
set_option maxHeartbeats 8000000 in
set_option maxRecDepth 100000 in
theorem q30.calls (A0_0 : Option Addr) (c0_0 : Nat) (l0_0 : List ByteArray) (A0_1 : Option Addr) (c0_1 : Nat) (l0_1 : List (S41)) (A1_0 : Option Addr) (c1_0 : Nat) (l1_0 : List (S101)) (A1_1 : Option Addr) (c1_1 : Nat) (l1_1 : List (S90)) (r : Bool) (w : World) (hr0_0 : Kd.C Kd.string w A0_0 l0_0.length l0_0) (hc0_0 : l0_0.length ≤ c0_0) (hr0_1 : Kd.C k41 w A0_1 l0_1.length l0_1) (hc0_1 : l0_1.length ≤ c0_1) (hr1_0 : Kd.C k101 w A1_0 l1_0.length l1_0) (hc1_0 : l1_0.length ≤ c1_0) (hr1_1 : Kd.C k90 w A1_1 l1_1.length l1_1) (hc1_1 : l1_1.length ≤ c1_1) (h : q30.f l0_0 l0_1 l1_0 l1_1 = some r) :
    Calls Try.prog 96 #[.agg #[.slice A0_0 l0_0.length c0_0, .slice A0_1 l0_1.length c0_1], .agg #[.slice A1_0 l1_0.length c1_0, .slice A1_1 l1_1.length c1_1]] w fun e w' => e = .returned (.bool r) ∧ Below w.heap.size w w' := by
  obtain rfl := Option.some.inj h
  clear h
  have hu36 := Try.underlying25
  have hu29 := Try.underlying45
  have hu39 := Try.underlying101
  have hbound : l1_0.length ≤ 9223372036854775807 ∧ l1_1.length ≤ 9223372036854775807 := ⟨hr1_0.2.1, hr1_1.2.1⟩
  by_cases hA : 3 < l1_0.length
  · have e : sentryB l0_0 l0_1 l1_0 l1_1 = false := by simp [sentryB]; omega
    rw [e]
    have hA' : (3 : Int) < l1_0.length := by omega
    clear hr0_0 hr0_1 hr1_0 hr1_1 e hbound
    go_enter Try.func96, Try.ntmps96
    go_wp2
    go_ret
    exact ⟨rfl, q57 (q57 (Below.refl _ _) _) _⟩
  have hA' : ¬ (3 : Int) < l1_0.length := by omega
  by_cases hB : 2 < l1_1.length
  · have e : sentryB l0_0 l0_1 l1_0 l1_1 = false := by simp [sentryB]; omega
    rw [e]
    have hB' : (2 : Int) < l1_1.length := by omega
    clear hr0_0 hr0_1 hr1_0 hr1_1 e hbound
    go_enter Try.func96, Try.ntmps96
    go_wp2
    go_ret
    exact ⟨rfl, q57 (q57 (Below.refl _ _) _) _⟩
  have hB' : ¬ (2 : Int) < l1_1.length := by omega
  by_cases hC : l1_0.length + l1_1.length = 0
  · have h1 : l1_0 = [] := List.eq_nil_of_length_eq_zero (by omega)
    have h2 : l1_1 = [] := List.eq_nil_of_length_eq_zero (by omega)
    subst h1 h2
    have e : sentryB l0_0 l0_1 [] [] = false := by simp [sentryB]
    rw [e]
    clear hr0_0 hr0_1 hr1_0 hr1_1 e hbound hA hA' hB hB' hC
    go_enter Try.func96, Try.ntmps96
    go_wp2
    go_ret
    exact ⟨rfl, q57 (q57 (Below.refl _ _) _) _⟩
  have hC' : (((l1_0.length : Int) + (l1_1.length : Int)) == 0) = false := by
    have : ((l1_0.length : Int) + (l1_1.length : Int)) ≠ 0 := by omega
    simpa using this
  have HR := Lib.hid (And.intro hr0_0 (And.intro hr0_1 (And.intro hr1_0 hr1_1)))
  clear hr0_0 hr0_1 hr1_0 hr1_1
  obtain ⟨n, hn⟩ : ∃ n, n = l1_0.length := ⟨_, rfl⟩
  obtain ⟨m, hm⟩ : ∃ m, m = l1_1.length := ⟨_, rfl⟩
  have HN := Lib.hid (And.intro hn hm)
  rw [← hn] at hbound hA hA' hC hC' hc1_0 ⊢
  rw [← hm] at hbound hB hB' hC hC' hc1_1 ⊢
  clear hn hm
  have hn3 : (n : Int) ≤ 3 := by omega
  have hm2 : (m : Int) ≤ 2 := by omega
  go_enter Try.func96, Try.ntmps96
  go_wp2
  obtain ⟨W1, hW1⟩ : ∃ W1, W1 = (w.alloc (.cells #[.slice A0_0 l0_0.length c0_0, .slice A0_1 l0_1.length c0_1] 25)).alloc (.cells #[.slice A1_0 n c1_0, .slice A1_1 m c1_1] 45) := ⟨_, rfl⟩
  have hb1 : Below w.heap.size w W1 := by rw [hW1]; exact q57 (q57 (Below.refl _ _) _) _
  have hm0 : W1.cell? ⟨w.heap.size, 0, none⟩ = some (.slice A0_0 l0_0.length c0_0) := by rw [hW1]; simp
  have hm1 : W1.cell? ⟨w.heap.size, 1, none⟩ = some (.slice A0_1 l0_1.length c0_1) := by rw [hW1]; simp
  have hs0 : W1.cell? ⟨w.heap.size + 1, 0, none⟩ = some (.slice A1_0 n c1_0) := by rw [hW1]; simp
  have hs1 : W1.cell? ⟨w.heap.size + 1, 1, none⟩ = some (.slice A1_1 m c1_1) := by rw [hW1]; simp
  have hsz : W1.heap.size = w.heap.size + 2 := by rw [hW1]; simp
  rw [← hW1]
  have H1 := Lib.hid (And.intro hb1 (And.intro hm0 (And.intro hm1 (And.intro hs0 (And.intro hs1 hsz)))))
  clear hW1 hb1 hm0 hm1 hs0 hs1 hsz
  go_loopg [30] n (fun gg s30 wr => ∃ i : Nat, i ≤ n ∧ n - i ≤ gg ∧ s30 = .int .i64 i ∧ Hid (Below W1.heap.size W1 wr ∧ ∀ j, j < i → onOk l0_1 l1_0 j = true))
  case atStart => exact ⟨0, Nat.zero_le _, by omega, rfl, Lib.hid ⟨Below.refl _ _, fun j hj => absurd hj (Nat.not_lt_zero _)⟩⟩
  case round =>
    obtain ⟨i, hin, hig, rfl, X⟩ := hrel
    have hbw : Below w.heap.size w wr := q60 H1.out.1 H1.out.1.size X.out.1
    have HBW := Lib.hid hbw
    clear hbw
    by_cases hlt : i < n
    · have hltz : (i : Int) < (n : Int) := by omega
      obtain ⟨ad, e, hx0, hx1⟩ := at_T101 HR.out.2.2.1 (i : Int) (by omega) (by have := HN.out; omega)
      cases e
      simp only [Int.toNat_natCast] at hx0 hx1
      obtain ⟨x, hx⟩ : ∃ x, x = q76 l1_0 (i : Int) := ⟨_, rfl⟩
      rw [← hx] at hx0 hx1
      have HX := Lib.hid hx
      clear hx
      replace hx0 := (HBW.out.cell (World.block_lt_of_cell? w _ hx0)).trans hx0
      replace hx1 := (HBW.out.cell (World.block_lt_of_cell? w _ hx1)).trans hx1
      go_wp2
      clear hx0 hx1
      obtain ⟨W2, hW2⟩ : ∃ W2, W2 = wr.alloc (.cells #[.string x.f0, .int .i64 x.f1] 101) := ⟨_, rfl⟩
      have hb2 : Below wr.heap.size wr W2 := by rw [hW2]; exact q57 (Below.refl _ _) _
      have hx0 : W2.cell? ⟨wr.heap.size, 0, none⟩ = some (.string x.f0) := by rw [hW2]; simp
      have hx1 : W2.cell? ⟨wr.heap.size, 1, none⟩ = some (.int .i64 x.f1) := by rw [hW2]; simp
      rw [← hW2]
      clear hW2
      have hlo : w.heap.size + 2 ≤ wr.heap.size := by have := X.out.1.size; have := H1.out.2.2.2.2.2; omega
      have hm0 : W2.cell? ⟨w.heap.size, 0, none⟩ = some (.slice A0_0 l0_0.length c0_0) := (hb2.cell (p := ⟨_, _, none⟩) (by simp only; omega)).trans ((X.out.1.cell (p := ⟨_, _, none⟩) (by simp only; have := H1.out.2.2.2.2.2; omega)).trans H1.out.2.1)
      have hm1 : W2.cell? ⟨w.heap.size, 1, none⟩ = some (.slice A0_1 l0_1.length c0_1) := (hb2.cell (p := ⟨_, _, none⟩) (by simp only; omega)).trans ((X.out.1.cell (p := ⟨_, _, none⟩) (by simp only; have := H1.out.2.2.2.2.2; omega)).trans H1.out.2.2.1)
      have hs0 : W2.cell? ⟨w.heap.size + 1, 0, none⟩ = some (.slice (some ad) n c1_0) := (hb2.cell (p := ⟨_, _, none⟩) (by simp only; omega)).trans ((X.out.1.cell (p := ⟨_, _, none⟩) (by simp only; have := H1.out.2.2.2.2.2; omega)).trans H1.out.2.2.2.1)
      have hbw2 : Below w.heap.size w W2 := q60 HBW.out HBW.out.size hb2
      have hon := fun (W : World) (hb : Below w.heap.size w W) => q47.calls 2 _ c0_0 l0_0 _ c0_1 l0_1 x.f0 x.f1 _ W (Kd.C_below HR.out.1 hb) hc0_0 (Kd.C_below HR.out.2.1 hb) hc0_1 (isOn_eq l0_0 l0_1 x.f0 x.f1)
      have hin2 : i ≤ c1_0 := by omega
      have el : (l1_0.take i).length = i := by rw [List.length_take]; have := HN.out; omega
      have hhas : ∀ (W : World), Below w.heap.size w W → Calls Try.prog 100 #[.slice (some ad) i c1_0, .agg #[.string x.f0, .int .i64 x.f1]] W fun e w' => e = .returned (.bool (hasOn (l1_0.take i) x.f0 x.f1)) ∧ Below W.heap.size W w' := fun W hb => by
        have := q45.calls (n + 1) (some ad) c1_0 (l1_0.take i) x.f0 x.f1 _ W (Kd.C_below (Kd.C_take HR.out.2.2.1 (show i ≤ l1_0.length by have := HN.out; omega)) hb) (by rw [el]; omega) (hasOn_eq (l1_0.take i) x.f0 x.f1 (by rw [el]; omega) (n + 1) (by rw [el]; omega))
        rw [el] at this
        exact this
      have hxo : onOk l0_1 l1_0 i = (onB l0_1 x.f0 x.f1 && !hasOn (l1_0.take i) x.f0 x.f1) := by rw [HX.out]; rfl
      have HXO := Lib.hid hxo
      have HON := Lib.hid hon
      have HHAS := Lib.hid hhas
      clear hxo hon hhas el
      cases hq : onB l0_1 x.f0 x.f1 with
      | false =>
        have hon := HON.out
        rw [hq] at hon HXO
        clear hq HON HHAS
        refine st_ (fun w' => (w'.cell? ⟨w.heap.size, 0, none⟩ = some (.slice A0_0 l0_0.length c0_0) ∧ w'.cell? ⟨w.heap.size, 1, none⟩ = some (.slice A0_1 l0_1.length c0_1) ∧ w'.cell? ⟨w.heap.size + 1, 0, none⟩ = some (.slice (some ad) n c1_0) ∧ w'.cell? ⟨wr.heap.size, 0, none⟩ = some (.string x.f0) ∧ w'.cell? ⟨wr.heap.size, 1, none⟩ = some (.int .i64 x.f1)) ∧ Below W2.heap.size W2 w') 12 ⟨⟨hm0, hm1, hs0, hx0, hx1⟩, q58 (Below.refl _ _)⟩ (fun hHeld => ?_)
        generalize W2.drew = W3 at hHeld ⊢
        refine tk_ 0 (some 35) hHeld ?_ (hy := by rintro w' ⟨⟨s0, s1, s2, s3, s4⟩, _⟩; go_simp; with_reducible rfl)
        refine tk_ 1 (some 36) hHeld ?_ (hy := by rintro w' ⟨⟨s0, s1, s2, s3, s4⟩, _⟩; go_simp; with_reducible rfl)
        refine oN_ 2 (some 37) (fun K hK => ?_)
        refine goes_ Try.func99 (by kernel_rfl) rfl #[.agg #[.slice A0_0 l0_0.length c0_0, .slice A0_1 l0_1.length c0_1], .agg #[.string x.f0, .int .i64 x.f1]] (by rfl) rfl rfl (by (try simp only [List.map_toArray, List.map_cons, List.map_nil]); first | done | rfl) ?_
        with_reducible refine (hon _ (q72 hHeld.2 hbw2)).mono ?_
        rintro e w' ⟨rfl, hb'⟩
        refine ⟨_, rfl, ?_⟩
        refine hK.out _ _ ⟨⟨q73 hb' hHeld.1.1, q73 hb' hHeld.1.2.1, q73 hb' hHeld.1.2.2.1, q73 hb' hHeld.1.2.2.2.1, q73 hb' hHeld.1.2.2.2.2⟩, q72 hb' hHeld.2⟩ (fun hHeld => ?_)
        clear hK K
        refine nz_ (some 37) ?_
        refine pu_ 3 (some 38) ?_
        refine pu_ 4 (some 39) ?_
        refine sk_ 5 (some 40) ?_
        refine sk_ 6 (some 41) ?_
        refine sk_ 7 (some 42) ?_
        refine sk_ 8 (some 43) ?_
        refine sk_ 9 (some 44) ?_
        refine sk_ 10 (some 45) ?_
        refine pu_ 11 (some 46) ?_
        refine dn_ ?_
        have hbx := q72 hHeld.2 hbw2
        have he : sentryB l0_0 l0_1 l1_0 l1_1 = false := by
          have h1 : (List.range l1_0.length).all (onOk l0_1 l1_0) = false := List.all_eq_false.2 ⟨i, List.mem_range.2 (by have := HN.out; omega), by rw [HXO.out]; simp⟩
          simp [sentryB, h1]
        have HE := Lib.hid he
        clear hHeld he
        go_wp2
        go_ret
        exact ⟨by rw [HE.out]; rfl, hbx⟩
      | true =>
        have hon := HON.out
        have hhas := HHAS.out
        rw [hq] at hon HXO
        clear hq HON HHAS
        have p0 : (0 : Int) ≤ i := by omega
        have p1 : (i : Int) ≤ n := by omega
        have p2 : (i : Int) ≤ c1_0 := by omega
        refine st_ (fun w' => (w'.cell? ⟨w.heap.size, 0, none⟩ = some (.slice A0_0 l0_0.length c0_0) ∧ w'.cell? ⟨w.heap.size, 1, none⟩ = some (.slice A0_1 l0_1.length c0_1) ∧ w'.cell? ⟨w.heap.size + 1, 0, none⟩ = some (.slice (some ad) n c1_0) ∧ w'.cell? ⟨wr.heap.size, 0, none⟩ = some (.string x.f0) ∧ w'.cell? ⟨wr.heap.size, 1, none⟩ = some (.int .i64 x.f1)) ∧ Below W2.heap.size W2 w') 12 ⟨⟨hm0, hm1, hs0, hx0, hx1⟩, q58 (Below.refl _ _)⟩ (fun hHeld => ?_)
        generalize W2.drew = W3 at hHeld ⊢
        refine tk_ 0 (some 35) hHeld ?_ (hy := by rintro w' ⟨⟨s0, s1, s2, s3, s4⟩, _⟩; go_simp; with_reducible rfl)
        refine tk_ 1 (some 36) hHeld ?_ (hy := by rintro w' ⟨⟨s0, s1, s2, s3, s4⟩, _⟩; go_simp; with_reducible rfl)
        refine oN_ 2 (some 37) (fun K hK => ?_)
        refine goes_ Try.func99 (by kernel_rfl) rfl #[.agg #[.slice A0_0 l0_0.length c0_0, .slice A0_1 l0_1.length c0_1], .agg #[.string x.f0, .int .i64 x.f1]] (by rfl) rfl rfl (by (try simp only [List.map_toArray, List.map_cons, List.map_nil]); first | done | rfl) ?_
        with_reducible refine (hon _ (q72 hHeld.2 hbw2)).mono ?_
        rintro e w' ⟨rfl, hb'⟩
        refine ⟨_, rfl, ?_⟩
        refine hK.out _ _ ⟨⟨q73 hb' hHeld.1.1, q73 hb' hHeld.1.2.1, q73 hb' hHeld.1.2.2.1, q73 hb' hHeld.1.2.2.2.1, q73 hb' hHeld.1.2.2.2.2⟩, q72 hb' hHeld.2⟩ (fun hHeld => ?_)
        clear hK K
        refine nz_ (some 37) ?_
        refine pu_ 3 (some 38) ?_
        refine pu_ 4 (some 39) ?_
        refine pu_ 5 (some 40) ?_
        refine tk_ 6 (some 41) hHeld ?_ (hy := by rintro w' ⟨⟨s0, s1, s2, s3, s4⟩, _⟩; go_simp; with_reducible rfl)
        refine pu_ 7 (some 42) ?_
        refine pu_ 8 (some 43) ?_
        refine tk_ 9 (some 44) hHeld ?_ (hy := by rintro w' ⟨⟨s0, s1, s2, s3, s4⟩, _⟩; go_simp; with_reducible rfl)
        refine oN_ 10 (some 45) (fun K hK => ?_)
        refine goes_ Try.func100 (by kernel_rfl) rfl #[.slice (some ad) i c1_0, .agg #[.string x.f0, .int .i64 x.f1]] (by rfl) rfl rfl (by (try simp only [List.map_toArray, List.map_cons, List.map_nil]); first | done | rfl) ?_
        with_reducible refine (hhas _ (q72 hHeld.2 hbw2)).mono ?_
        rintro e w' ⟨rfl, hb'⟩
        refine ⟨_, rfl, ?_⟩
        refine hK.out _ _ ⟨⟨q73 hb' hHeld.1.1, q73 hb' hHeld.1.2.1, q73 hb' hHeld.1.2.2.1, q73 hb' hHeld.1.2.2.2.1, q73 hb' hHeld.1.2.2.2.2⟩, q72 hb' hHeld.2⟩ (fun hHeld => ?_)
        clear hK K
        refine nz_ (some 45) ?_
        refine pu_ 11 (some 46) ?_
        refine dn_ ?_
        have hbx := q72 hHeld.2 hbw2
        have HS := Lib.hid hHeld
        have HSB := Lib.hid hbx
        clear hHeld hbx p0 p1 p2 hhas hon
        cases hq2 : hasOn (l1_0.take i) x.f0 x.f1 with
        | true =>
          rw [hq2] at HXO
          have he : sentryB l0_0 l0_1 l1_0 l1_1 = false := by
            have h1 : (List.range l1_0.length).all (onOk l0_1 l1_0) = false := List.all_eq_false.2 ⟨i, List.mem_range.2 (by have := HN.out; omega), by rw [HXO.out]; simp⟩
            simp [sentryB, h1]
          have HE := Lib.hid he
          clear he hq2
          go_wp2
          go_ret
          exact ⟨by rw [HE.out]; rfl, HSB.out⟩
        | false =>
          rw [hq2] at HXO
          clear hq2
          go_wp2
          go_roundg (n - (i + 1))
          case measure => omega
          case rel =>
            refine ⟨i + 1, by omega, by omega, by go_num, Lib.hid ⟨?_, fun j hj => ?_⟩⟩
            · have hb3 := q60 X.out.1 X.out.1.size hb2
              exact q60 hb3 hb3.size HS.out.2
            · by_cases e : j = i
              · subst e; rw [HXO.out]; rfl
              · exact X.out.2 j (by omega)
    · have hltz : ¬ (i : Int) < (n : Int) := by omega
      obtain rfl : i = n := by omega
      have hsz := H1.out.2.2.2.2.2
      have hm0 : wr.cell? ⟨w.heap.size, 0, none⟩ = some (.slice A0_0 l0_0.length c0_0) := (X.out.1.cell (p := ⟨_, _, none⟩) (by simp only; omega)).trans H1.out.2.1
      have hm1 : wr.cell? ⟨w.heap.size, 1, none⟩ = some (.slice A0_1 l0_1.length c0_1) := (X.out.1.cell (p := ⟨_, _, none⟩) (by simp only; omega)).trans H1.out.2.2.1
      have hs1 : wr.cell? ⟨w.heap.size + 1, 1, none⟩ = some (.slice A1_1 m c1_1) := (X.out.1.cell (p := ⟨_, _, none⟩) (by simp only; omega)).trans H1.out.2.2.2.2.1
      clear hsz
      have hany := anyCond A1_1 c1_1 l1_1 wr (Kd.C_below HR.out.2.2.2 HBW.out) (by have := HN.out; omega) 102 #[.pointer (some ⟨w.heap.size, 0, none⟩)] q30.eg (fun c => !ifB l0_0 c.f0 c.f1 c.f2) (fun W x cs hx hb hK => q30.closure w.heap.size A0_0 c0_0 l0_0 A0_1 c0_1 l0_1 W (q73 hb hm0) (q73 hb hm1) (Kd.C_below (Kd.C_below HR.out.1 HBW.out) hb) hc0_0 (Kd.C_below (Kd.C_below HR.out.2.1 HBW.out) hb) hc0_1 x cs hK)
      rw [← HN.out.2] at hany
      have he : sentryB l0_0 l0_1 l1_0 l1_1 = !(l1_1.any (fun c => !ifB l0_0 c.f0 c.f1 c.f2)) := by
        have h1 : (List.range l1_0.length).all (onOk l0_1 l1_0) = true := List.all_eq_true.2 fun j hj => X.out.2 j (by have := List.mem_range.1 hj; have := HN.out; omega)
        have h2 : decide (l1_0.length ≤ 3 ∧ l1_1.length ≤ 2 ∧ l1_0.length + l1_1.length ≠ 0) = true := decide_eq_true (by have := HN.out; omega)
        unfold sentryB
        rw [h1, h2]
        rfl
      have HE := Lib.hid he
      clear he hm0 hm1
      obtain ⟨T, hT⟩ : ∃ T, T = l1_1.any (fun c => !ifB l0_0 c.f0 c.f1 c.f2) := ⟨_, rfl⟩
      rw [← hT] at hany HE
      clear hT
      go_wp2_with (go_at_call 101; refine hany.mono ?_; rintro e w' ⟨rfl, hb'⟩)
      go_ret
      exact ⟨by rw [HE.out]; rfl, q72 hb' HBW.out⟩
def sentsB (fs : List ByteArray) (l : List (S41)) (ss : List (S45)) : Bool := decide (ss.length ≤ 3) && !ss.any (fun s => !sentryB fs l s.f0 s.f1)
def q21.f (l0_0 : List ByteArray) (l0_1 : List (S41)) (l1 : List (S45)) : Option Bool := some (sentsB l0_0 l0_1 l1)
theorem q21.eg : ∀ args w, (callFunc 95 args).run Try.prog w = .ok (.enter 95 args) w := enters_of Try.func95 (by kernel_rfl) rfl
set_option maxHeartbeats 4000000 in
theorem q21.closure (b : Nat) (A0_0 : Option Addr) (c0_0 : Nat) (l0_0 : List ByteArray) (A0_1 : Option Addr) (c0_1 : Nat) (l0_1 : List (S41)) (W : World) (hm0 : W.cell? ⟨b, 0, none⟩ = some (.slice A0_0 l0_0.length c0_0)) (hm1 : W.cell? ⟨b, 1, none⟩ = some (.slice A0_1 l0_1.length c0_1))
 (hr0_0 : Kd.C Kd.string W A0_0 l0_0.length l0_0) (hc0_0 : l0_0.length ≤ c0_0) (hr0_1 : Kd.C k41 W A0_1 l0_1.length l0_1) (hc0_1 : l0_1.length ≤ c0_1) (x : S45) (cs : List Value) (hK : Kd.K k45 W x cs) :
 Calls Try.prog 95 (#[.agg cs.toArray] ++ #[.pointer (some ⟨b, 0, none⟩)]) W fun e w' => e = .returned (.bool (!sentryB l0_0 l0_1 x.f0 x.f1)) ∧ Below W.heap.size W w' := by
 obtain ⟨A0, c0, A1, c1, rfl, g0, h0, g1, h1⟩ := k45_open hK
 have hb := World.block_lt_of_cell? W _ hm0
 simp only at hb
 have hW1 := q57 (Below.refl W.heap.size W) (.cells #[.slice A0 x.f0.length c0, .slice A1 x.f1.length c1] 45)
 have hif := q30.calls A0_0 c0_0 l0_0 A0_1 c0_1 l0_1 A0 c0 x.f0 A1 c1 x.f1 _ _ (Kd.C_below hr0_0 hW1) hc0_0 (Kd.C_below hr0_1 hW1) hc0_1 (Kd.C_below h0 hW1) g0 (Kd.C_below h1 hW1) g1 rfl
 have HW := Lib.hid hW1
 clear hr0_0 hr0_1 hW1 hK h0 h1
 obtain ⟨T, hT⟩ : ∃ T, T = sentryB l0_0 l0_1 x.f0 x.f1 := ⟨_, rfl⟩
 rw [← hT] at hif ⊢
 clear hT
 have hu36 := Try.underlying25
 have hu29 := Try.underlying45
 go_enter Try.func95, Try.ntmps95
 go_wp2_with (go_at_call 96; refine hif.mono ?_; rintro e w' ⟨rfl, hb'⟩)
 go_ret
 exact ⟨rfl, q72 hb' HW.out⟩
set_option maxHeartbeats 8000000 in
set_option maxRecDepth 100000 in
theorem q21.calls (A0_0 : Option Addr) (c0_0 : Nat) (l0_0 : List ByteArray) (A0_1 : Option Addr) (c0_1 : Nat) (l0_1 : List (S41)) (A1 : Option Addr) (c1 : Nat) (l1 : List (S45)) (r : Bool) (w : World) (hr0_0 : Kd.C Kd.string w A0_0 l0_0.length l0_0) (hc0_0 : l0_0.length ≤ c0_0) (hr0_1 : Kd.C k41 w A0_1 l0_1.length l0_1) (hc0_1 : l0_1.length ≤ c0_1) (hr1 : Kd.C k45 w A1 l1.length l1) (hc1 : l1.length ≤ c1) (h : q21.f l0_0 l0_1 l1 = some r) :
 Calls Try.prog 87 #[.agg #[.slice A0_0 l0_0.length c0_0, .slice A0_1 l0_1.length c0_1], .slice A1 l1.length c1] w fun e w' => e = .returned (.bool r) ∧ Below w.heap.size w w' := by
 obtain rfl := Option.some.inj h
 clear h
 have hu36 := Try.underlying25
 have W1 := q57 (Below.refl w.heap.size w) (.cells #[.slice A0_0 l0_0.length c0_0, .slice A0_1 l0_1.length c0_1] 25)
 by_cases hA : 3 < l1.length
 ·have e : sentsB l0_0 l0_1 l1 = false := by simp [sentsB]; omega
  rw [e]
  have hA' : (3 : Int) < l1.length := by omega
  have H := Lib.hid W1
  clear hr0_0 hr0_1 hr1 e W1
  go_enter Try.func87, Try.ntmps87
  go_wp2
  go_ret
  exact ⟨rfl, H.out⟩
 have hA' : ¬ (3 : Int) < l1.length := by omega
 have hm0 : (w.alloc (.cells #[.slice A0_0 l0_0.length c0_0, .slice A0_1 l0_1.length c0_1] 25)).cell? ⟨w.heap.size, 0, none⟩ = some (.slice A0_0 l0_0.length c0_0) := by simp
 have hm1 : (w.alloc (.cells #[.slice A0_0 l0_0.length c0_0, .slice A0_1 l0_1.length c0_1] 25)).cell? ⟨w.heap.size, 1, none⟩ = some (.slice A0_1 l0_1.length c0_1) := by simp
 have hany := anySentry A1 c1 l1 _ (Kd.C_below hr1 W1) hc1 95 #[.pointer (some ⟨w.heap.size, 0, none⟩)] q21.eg (fun s => !sentryB l0_0 l0_1 s.f0 s.f1) (fun W x cs hx hb hK => q21.closure w.heap.size A0_0 c0_0 l0_0 A0_1 c0_1 l0_1 W (q73 hb hm0) (q73 hb hm1) (Kd.C_below (Kd.C_below hr0_0 W1) hb) hc0_0 (Kd.C_below (Kd.C_below hr0_1 W1) hb) hc0_1 x cs hK)
 have he : sentsB l0_0 l0_1 l1 = !(l1.any (fun s => !sentryB l0_0 l0_1 s.f0 s.f1)) := by
  unfold sentsB
  rw [decide_eq_true (by omega), Bool.true_and]
 rw [he]
 have H := Lib.hid W1
 clear hr0_0 hr0_1 hr1 he W1 hm0 hm1
 obtain ⟨T, hT⟩ : ∃ T, T = l1.any (fun s => !sentryB l0_0 l0_1 s.f0 s.f1) := ⟨_, rfl⟩
 rw [← hT] at hany ⊢
 clear hT
 go_enter Try.func87, Try.ntmps87
 go_wp2_with (go_at_call 94; refine hany.mono ?_; rintro e w' ⟨rfl, hb'⟩)
 go_ret
 exact ⟨rfl, q72 hb' H.out⟩
theorem kp1 {a0 : Addr} {u0 : Value} {w w1 w0 : World} (h : (w.cell? a0 = some u0) ∧ Below w0.heap.size w0 w) (b : Below w.heap.size w w1) : (w1.cell? a0 = some u0) ∧ Below w0.heap.size w0 w1 := ⟨q73 b h.1, q72 b h.2⟩
theorem kp2 {a0 a1 : Addr} {u0 u1 : Value} {w w1 w0 : World} (h : (w.cell? a0 = some u0 ∧ w.cell? a1 = some u1) ∧ Below w0.heap.size w0 w) (b : Below w.heap.size w w1) : (w1.cell? a0 = some u0 ∧ w1.cell? a1 = some u1) ∧ Below w0.heap.size w0 w1 := ⟨⟨q73 b h.1.1, q73 b h.1.2⟩, q72 b h.2⟩
theorem kp3 {a0 a1 a2 : Addr} {u0 u1 u2 : Value} {w w1 w0 : World} (h : (w.cell? a0 = some u0 ∧ w.cell? a1 = some u1 ∧ w.cell? a2 = some u2) ∧ Below w0.heap.size w0 w) (b : Below w.heap.size w w1) : (w1.cell? a0 = some u0 ∧ w1.cell? a1 = some u1 ∧ w1.cell? a2 = some u2) ∧ Below w0.heap.size w0 w1 := ⟨⟨q73 b h.1.1, q73 b h.1.2.1, q73 b h.1.2.2⟩, q72 b h.2⟩
theorem kp4 {a0 a1 a2 a3 : Addr} {u0 u1 u2 u3 : Value} {w w1 w0 : World} (h : (w.cell? a0 = some u0 ∧ w.cell? a1 = some u1 ∧ w.cell? a2 = some u2 ∧ w.cell? a3 = some u3) ∧ Below w0.heap.size w0 w) (b : Below w.heap.size w w1) : (w1.cell? a0 = some u0 ∧ w1.cell? a1 = some u1 ∧ w1.cell? a2 = some u2 ∧ w1.cell? a3 = some u3) ∧ Below w0.heap.size w0 w1 := ⟨⟨q73 b h.1.1, q73 b h.1.2.1, q73 b h.1.2.2.1, q73 b h.1.2.2.2⟩, q72 b h.2⟩
theorem kp5 {a0 a1 a2 a3 a4 : Addr} {u0 u1 u2 u3 u4 : Value} {w w1 w0 : World} (h : (w.cell? a0 = some u0 ∧ w.cell? a1 = some u1 ∧ w.cell? a2 = some u2 ∧ w.cell? a3 = some u3 ∧ w.cell? a4 = some u4) ∧ Below w0.heap.size w0 w) (b : Below w.heap.size w w1) : (w1.cell? a0 = some u0 ∧ w1.cell? a1 = some u1 ∧ w1.cell? a2 = some u2 ∧ w1.cell? a3 = some u3 ∧ w1.cell? a4 = some u4) ∧ Below w0.heap.size w0 w1 := ⟨⟨q73 b h.1.1, q73 b h.1.2.1, q73 b h.1.2.2.1, q73 b h.1.2.2.2.1, q73 b h.1.2.2.2.2⟩, q72 b h.2⟩
theorem kp10 {a0 a1 a2 a3 a4 a5 a6 a7 a8 a9 : Addr} {u0 u1 u2 u3 u4 u5 u6 u7 u8 u9 : Value} {w w1 w0 : World} (h : (w.cell? a0 = some u0 ∧ w.cell? a1 = some u1 ∧ w.cell? a2 = some u2 ∧ w.cell? a3 = some u3 ∧ w.cell? a4 = some u4 ∧ w.cell? a5 = some u5 ∧ w.cell? a6 = some u6 ∧ w.cell? a7 = some u7 ∧ w.cell? a8 = some u8 ∧ w.cell? a9 = some u9) ∧ Below w0.heap.size w0 w) (b : Below w.heap.size w w1) : (w1.cell? a0 = some u0 ∧ w1.cell? a1 = some u1 ∧ w1.cell? a2 = some u2 ∧ w1.cell? a3 = some u3 ∧ w1.cell? a4 = some u4 ∧ w1.cell? a5 = some u5 ∧ w1.cell? a6 = some u6 ∧ w1.cell? a7 = some u7 ∧ w1.cell? a8 = some u8 ∧ w1.cell? a9 = some u9) ∧ Below w0.heap.size w0 w1 := ⟨⟨q73 b h.1.1, q73 b h.1.2.1, q73 b h.1.2.2.1, q73 b h.1.2.2.2.1, q73 b h.1.2.2.2.2.1, q73 b h.1.2.2.2.2.2.1, q73 b h.1.2.2.2.2.2.2.1, q73 b h.1.2.2.2.2.2.2.2.1, q73 b h.1.2.2.2.2.2.2.2.2.1, q73 b h.1.2.2.2.2.2.2.2.2.2⟩, q72 b h.2⟩
theorem kp24 {a0 a1 a2 a3 a4 a5 a6 a7 a8 a9 a10 a11 a12 a13 a14 a15 a16 a17 a18 a19 a20 a21 a22 a23 : Addr} {u0 u1 u2 u3 u4 u5 u6 u7 u8 u9 u10 u11 u12 u13 u14 u15 u16 u17 u18 u19 u20 u21 u22 u23 : Value} {w w1 w0 : World} (h : (w.cell? a0 = some u0 ∧ w.cell? a1 = some u1 ∧ w.cell? a2 = some u2 ∧ w.cell? a3 = some u3 ∧ w.cell? a4 = some u4 ∧ w.cell? a5 = some u5 ∧ w.cell? a6 = some u6 ∧ w.cell? a7 = some u7 ∧ w.cell? a8 = some u8 ∧ w.cell? a9 = some u9 ∧ w.cell? a10 = some u10 ∧ w.cell? a11 = some u11 ∧ w.cell? a12 = some u12 ∧ w.cell? a13 = some u13 ∧ w.cell? a14 = some u14 ∧ w.cell? a15 = some u15 ∧ w.cell? a16 = some u16 ∧ w.cell? a17 = some u17 ∧ w.cell? a18 = some u18 ∧ w.cell? a19 = some u19 ∧ w.cell? a20 = some u20 ∧ w.cell? a21 = some u21 ∧ w.cell? a22 = some u22 ∧ w.cell? a23 = some u23) ∧ Below w0.heap.size w0 w) (b : Below w.heap.size w w1) : (w1.cell? a0 = some u0 ∧ w1.cell? a1 = some u1 ∧ w1.cell? a2 = some u2 ∧ w1.cell? a3 = some u3 ∧ w1.cell? a4 = some u4 ∧ w1.cell? a5 = some u5 ∧ w1.cell? a6 = some u6 ∧ w1.cell? a7 = some u7 ∧ w1.cell? a8 = some u8 ∧ w1.cell? a9 = some u9 ∧ w1.cell? a10 = some u10 ∧ w1.cell? a11 = some u11 ∧ w1.cell? a12 = some u12 ∧ w1.cell? a13 = some u13 ∧ w1.cell? a14 = some u14 ∧ w1.cell? a15 = some u15 ∧ w1.cell? a16 = some u16 ∧ w1.cell? a17 = some u17 ∧ w1.cell? a18 = some u18 ∧ w1.cell? a19 = some u19 ∧ w1.cell? a20 = some u20 ∧ w1.cell? a21 = some u21 ∧ w1.cell? a22 = some u22 ∧ w1.cell? a23 = some u23) ∧ Below w0.heap.size w0 w1 := ⟨⟨q73 b h.1.1, q73 b h.1.2.1, q73 b h.1.2.2.1, q73 b h.1.2.2.2.1, q73 b h.1.2.2.2.2.1, q73 b h.1.2.2.2.2.2.1, q73 b h.1.2.2.2.2.2.2.1, q73 b h.1.2.2.2.2.2.2.2.1, q73 b h.1.2.2.2.2.2.2.2.2.1, q73 b h.1.2.2.2.2.2.2.2.2.2.1, q73 b h.1.2.2.2.2.2.2.2.2.2.2.1, q73 b h.1.2.2.2.2.2.2.2.2.2.2.2.1, q73 b h.1.2.2.2.2.2.2.2.2.2.2.2.2.1, q73 b h.1.2.2.2.2.2.2.2.2.2.2.2.2.2.1, q73 b h.1.2.2.2.2.2.2.2.2.2.2.2.2.2.2.1, q73 b h.1.2.2.2.2.2.2.2.2.2.2.2.2.2.2.2.1, q73 b h.1.2.2.2.2.2.2.2.2.2.2.2.2.2.2.2.2.1, q73 b h.1.2.2.2.2.2.2.2.2.2.2.2.2.2.2.2.2.2.1, q73 b h.1.2.2.2.2.2.2.2.2.2.2.2.2.2.2.2.2.2.2.1, q73 b h.1.2.2.2.2.2.2.2.2.2.2.2.2.2.2.2.2.2.2.2.1, q73 b h.1.2.2.2.2.2.2.2.2.2.2.2.2.2.2.2.2.2.2.2.2.1, q73 b h.1.2.2.2.2.2.2.2.2.2.2.2.2.2.2.2.2.2.2.2.2.2.1, q73 b h.1.2.2.2.2.2.2.2.2.2.2.2.2.2.2.2.2.2.2.2.2.2.2.1, q73 b h.1.2.2.2.2.2.2.2.2.2.2.2.2.2.2.2.2.2.2.2.2.2.2.2⟩, q72 b h.2⟩
theorem tc_ {P : Program} {md : Region.Mode} {ops : Array Oper} {Q : Exit → Act → World → Prop} {S : World → Prop} {ds : List Nat} {n m fuel : Nat} {oi : Oper} {v : Value} {a a' : Act} {w : World} (i : Nat) (N : Option Tmp) (hS : S w) (h : q86 P md ops Q S ds fuel (bits n (m ||| 1 <<< i)) a' w)
 (hi : ops[i]? = some oi := by exact rfl) (hN : oi.dst = N := by exact rfl) (hc : takeB md ops ds (bits n m) (bits n (m ||| 1 <<< i)) i = true := by kernel_rfl)
 (hw : Region.wanted oi (yielded ops a.tmps) = true := by exact rfl) (hy : ∀ w', S w' → (execOp a.eval oi).run P w' = .ok (.value v) w' := by (intro w' hs_; go_simp; with_reducible rfl))
 (ha : a.put N v = a' := by (simp only [Act.put, List.setIfInBounds_toArray, List.set_cons_zero, List.set_cons_succ, i64_w, i32_w]; rfl))
 (hQ : ∀ c a w, Q (.panic c) (a.put oi.dst v) w → Q (.panic c) a w := by exact fun _ _ _ h => h) : q86 P md ops Q S ds (fuel + 1) (bits n m) a w :=
 tk_ i N hS h hi hN hc hw hy ha hQ
mutual
def q18.l0 : Nat → Int → Int → List ByteArray → List (S41) → Option (Bool)
 | 0, _, _, _, _ => none
 | k + 1, x3, x4, x183000, x183001 => if x4 < (x183001.length : Int) then (q18.j1 k x3 x4 (decide (x3 < 400)) x183000 x183001) else (q18.j1 k x3 x4 false x183000 x183001)
def q18.j1 : Nat → Int → Int → Bool → List ByteArray → List (S41) → Option (Bool)
 | 0, _, _, _, _, _ => none
 | k + 1, x3, x4, x23, x183000, x183001 => if x23 = true then (if 0 ≤ x4 then (if x4 < (x183001.length : Int) then (q18.l1 k (wrap64 ((wrap64 ((wrap64 ((wrap64 (x3 + (((q81 x183001 x4).f5).length : Int))) + (((q81 x183001 x4).f6).length : Int))) + (wrap64 ((((q81 x183001 x4).f0).size : Int) / 50)))) + (wrap64 ((((q81 x183001 x4).f2).size : Int) / 50)))) x4 0 x183000 x183001 ((q81 x183001 x4).f0) ((q81 x183001 x4).f1) ((q81 x183001 x4).f2) ((q81 x183001 x4).f3) ((q81 x183001 x4).f4) ((q81 x183001 x4).f5) ((q81 x183001 x4).f6)) else (none)) else (none)) else (some (decide (x3 ≥ 400)))
def q18.j3 : Nat → Int → Int → List ByteArray → List (S41) → ByteArray → Int → ByteArray → Bool → Int → List (S45) → List (S45) → Option (Bool)
 | 0, _, _, _, _, _, _, _, _, _, _, _ => none
 | k + 1, x3, x4, x183000, x183001, x185000, x185001, x185002, x185003, x185004, x185005, x185006 => q18.l2 k x3 x4 0 x183000 x183001 x185000 x185001 x185002 x185003 x185004 x185005 x185006
def q18.l2 : Nat → Int → Int → Int → List ByteArray → List (S41) → ByteArray → Int → ByteArray → Bool → Int → List (S45) → List (S45) → Option (Bool)
 | 0, _, _, _, _, _, _, _, _, _, _, _, _ => none
 | k + 1, x3, x4, x7, x183000, x183001, x185000, x185001, x185002, x185003, x185004, x185005, x185006 => if x7 < (x185006.length : Int) then (if x3 < 400 then (if 0 ≤ x7 then (q18.l2 k (wrap64 ((wrap64 (x3 + (((q82 x185006 x7).f0).length : Int))) + (((q82 x185006 x7).f1).length : Int))) x4 (wrap64 (x7 + 1)) x183000 x183001 x185000 x185001 x185002 x185003 x185004 x185005 x185006) else (none)) else (q18.l0 k x3 (wrap64 (x4 + 1)) x183000 x183001)) else (q18.l0 k x3 (wrap64 (x4 + 1)) x183000 x183001)
def q18.l1 : Nat → Int → Int → Int → List ByteArray → List (S41) → ByteArray → Int → ByteArray → Bool → Int → List (S45) → List (S45) → Option (Bool)
 | 0, _, _, _, _, _, _, _, _, _, _, _, _ => none
 | k + 1, x3, x4, x6, x183000, x183001, x185000, x185001, x185002, x185003, x185004, x185005, x185006 => if x6 < (x185005.length : Int) then (if x3 < 400 then (if 0 ≤ x6 then (q18.l1 k (wrap64 ((wrap64 (x3 + (((q82 x185005 x6).f0).length : Int))) + (((q82 x185005 x6).f1).length : Int))) x4 (wrap64 (x6 + 1)) x183000 x183001 x185000 x185001 x185002 x185003 x185004 x185005 x185006) else (none)) else (q18.j3 k x3 x4 x183000 x183001 x185000 x185001 x185002 x185003 x185004 x185005 x185006)) else (q18.j3 k x3 x4 x183000 x183001 x185000 x185001 x185002 x185003 x185004 x185005 x185006)
end
def q18.f (k : Nat) (l0_0 : List ByteArray) (l0_1 : List (S41)) : Option (Bool) := q18.l0 k (wrap64 ((l0_0.length : Int) + (l0_1.length : Int))) 0 l0_0 l0_1
theorem q18.mono_l : ∀ k, (∀ y0 y1 y2 y3, LeO (q18.l0 k y0 y1 y2 y3) (q18.l0 (k + 1) y0 y1 y2 y3)) ∧ (∀ y0 y1 y2 y3 y4, LeO (q18.j1 k y0 y1 y2 y3 y4) (q18.j1 (k + 1) y0 y1 y2 y3 y4)) ∧ (∀ y0 y1 y2 y3 y4 y5 y6 y7 y8 y9 y10, LeO (q18.j3 k y0 y1 y2 y3 y4 y5 y6 y7 y8 y9 y10) (q18.j3 (k + 1) y0 y1 y2 y3 y4 y5 y6 y7 y8 y9 y10)) ∧ (∀ y0 y1 y2 y3 y4 y5 y6 y7 y8 y9 y10 y11, LeO (q18.l2 k y0 y1 y2 y3 y4 y5 y6 y7 y8 y9 y10 y11) (q18.l2 (k + 1) y0 y1 y2 y3 y4 y5 y6 y7 y8 y9 y10 y11)) ∧ (∀ y0 y1 y2 y3 y4 y5 y6 y7 y8 y9 y10 y11, LeO (q18.l1 k y0 y1 y2 y3 y4 y5 y6 y7 y8 y9 y10 y11) (q18.l1 (k + 1) y0 y1 y2 y3 y4 y5 y6 y7 y8 y9 y10 y11))
 | 0 => ⟨fun _ _ _ _ r h => by simp [q18.l0] at h, fun _ _ _ _ _ r h => by simp [q18.j1] at h, fun _ _ _ _ _ _ _ _ _ _ _ r h => by simp [q18.j3] at h, fun _ _ _ _ _ _ _ _ _ _ _ _ r h => by simp [q18.l2] at h, fun _ _ _ _ _ _ _ _ _ _ _ _ r h => by simp [q18.l1] at h⟩
 | k + 1 => by
  obtain ⟨ih0, ih1, ih2, ih3, ih4⟩ := q18.mono_l k
  refine ⟨?_, ?_, ?_, ?_, ?_⟩
  intro y0 y1 y2 y3
  unfold q18.l0
  rotate_left
  intro y0 y1 y2 y3 y4
  unfold q18.j1
  rotate_left
  intro y0 y1 y2 y3 y4 y5 y6 y7 y8 y9 y10
  unfold q18.j3
  rotate_left
  intro y0 y1 y2 y3 y4 y5 y6 y7 y8 y9 y10 y11
  unfold q18.l2
  rotate_left
  intro y0 y1 y2 y3 y4 y5 y6 y7 y8 y9 y10 y11
  unfold q18.l1
  rotate_left
  all_goals repeat' first
   | (with_reducible exact ih0 _ _ _ _)
   | (with_reducible exact ih1 _ _ _ _ _)
   | (with_reducible exact ih2 _ _ _ _ _ _ _ _ _ _ _)
   | (with_reducible exact ih3 _ _ _ _ _ _ _ _ _ _ _ _)
   | (with_reducible exact ih4 _ _ _ _ _ _ _ _ _ _ _ _)
   | (with_reducible exact LeO.refl _)
   | (with_reducible exact LeO.none _)
   | (with_reducible refine LeO.ite ?_ ?_)
   | (with_reducible refine LeO.bind ?_ (fun _ => ?_))
   | exact ih0 _ _ _ _
   | exact ih1 _ _ _ _ _
   | exact ih2 _ _ _ _ _ _ _ _ _ _ _
   | exact ih3 _ _ _ _ _ _ _ _ _ _ _ _
   | exact ih4 _ _ _ _ _ _ _ _ _ _ _ _
   | exact LeO.none _
   | refine LeO.ite ?_ ?_
   | refine LeO.bind ?_ (fun _ => ?_)
theorem q18.mono : ∀ a0 a1 k, LeO (q18.f k a0 a1) (q18.f (k + 1) a0 a1) := by
 intro a0 a1 k
 obtain ⟨ih0, ih1, ih2, ih3, ih4⟩ := q18.mono_l k
 unfold q18.f
 repeat' first
  | (with_reducible exact ih0 _ _ _ _)
  | (with_reducible exact ih1 _ _ _ _ _)
  | (with_reducible exact ih2 _ _ _ _ _ _ _ _ _ _ _)
  | (with_reducible exact ih3 _ _ _ _ _ _ _ _ _ _ _ _)
  | (with_reducible exact ih4 _ _ _ _ _ _ _ _ _ _ _ _)
  | (with_reducible exact LeO.refl _)
  | (with_reducible exact LeO.none _)
  | (with_reducible refine LeO.ite ?_ ?_)
  | (with_reducible refine LeO.bind ?_ (fun _ => ?_))
  | exact ih0 _ _ _ _
  | exact ih1 _ _ _ _ _
  | exact ih2 _ _ _ _ _ _ _ _ _ _ _
  | exact ih3 _ _ _ _ _ _ _ _ _ _ _ _
  | exact ih4 _ _ _ _ _ _ _ _ _ _ _ _
  | exact LeO.none _
  | refine LeO.ite ?_ ?_
  | refine LeO.bind ?_ (fun _ => ?_)
set_option maxHeartbeats 8000000 in
set_option maxRecDepth 100000 in
theorem q18.calls (k : Nat) (A0_0 : Option Addr) (c0_0 : Nat) (l0_0 : List ByteArray) (A0_1 : Option Addr) (c0_1 : Nat) (l0_1 : List (S41)) (r : Bool) (w : World) (hr0_0 : Kd.C Kd.string w A0_0 l0_0.length l0_0) (hc0_0 : l0_0.length ≤ c0_0) (hr0_1 : Kd.C k41 w A0_1 l0_1.length l0_1) (hc0_1 : l0_1.length ≤ c0_1) (h : q18.f k l0_0 l0_1 = some r) :
 Calls Try.prog 6 #[.agg #[.slice A0_0 l0_0.length c0_0, .slice A0_1 l0_1.length c0_1]] w fun e w' => e = .returned (.bool r) ∧ Below w.heap.size w w' := by
 have hu25 := Try.underlying25
 have hu41 := Try.underlying41
 have HR0_0 := q56.mk hr0_0
 have HC0_0 := q56.mk hc0_0
 clear hr0_0 hc0_0
 have HR0_1 := q56.mk hr0_1
 have HC0_1 := q56.mk hc0_1
 clear hr0_1 hc0_1
 have HB := q56.mk (Below.refl w.heap.size w)
 have H : (q18.l0 k (wrap64 ((l0_0.length : Int) + (l0_1.length : Int))) 0 l0_0 l0_1) = some r := h
 clear h
 have H' := q56.mk H
 clear H
 go_enter Try.func6, Try.ntmps6
 go_wp2_with (first | ((with_reducible refine q71 (N := 1) rfl ?_); refine bx_ 1 #[.slice A0_0 l0_0.length c0_0, .slice A0_1 l0_1.length c0_1] 25 ?_; intro gb182 hg w2 hbox hb; have BK182 := q56.mk (hbox); have GW182 := zz_ (w := w) hg; have GE182 := zz_ (w := w) hg; replace HB := hb_ HB hb;  clear hb hbox hg; obtain ⟨hcz3_0, hcz3_1, hfz3_0, hfz3_1⟩ := bs2_ BK182))
 repeat (go_quiet (first | ((with_reducible refine q71 (N := 1) rfl ?_); refine bx_ 1 #[.slice A0_0 l0_0.length c0_0, .slice A0_1 l0_1.length c0_1] 25 ?_; intro gb182 hg w2 hbox hb; have BK182 := q56.mk (hbox); have GW182 := zz_ (w := w) hg; have GE182 := zz_ (w := w) hg; replace HB := hb_ HB hb;  clear hb hbox hg; obtain ⟨hcz3_0, hcz3_1, hfz3_0, hfz3_1⟩ := bs2_ BK182)); try go_wp2_with (first | ((with_reducible refine q71 (N := 1) rfl ?_); refine bx_ 1 #[.slice A0_0 l0_0.length c0_0, .slice A0_1 l0_1.length c0_1] 25 ?_; intro gb182 hg w2 hbox hb; have BK182 := q56.mk (hbox); have GW182 := zz_ (w := w) hg; have GE182 := zz_ (w := w) hg; replace HB := hb_ HB hb;  clear hb hbox hg; obtain ⟨hcz3_0, hcz3_1, hfz3_0, hfz3_1⟩ := bs2_ BK182)))
 go_loopg [3, 4] k (fun kq v3 v4 w' => ∃ (x3_1 : Int) (x4_1 : Int), v3 = .int .i64 x3_1 ∧ v4 = .int .i64 x4_1 ∧ q56 (q18.l0 kq x3_1 x4_1 l0_0 l0_1 = some r) ∧ q56 (kq ≤ k) ∧ q56 (w'.heap[gb182]? = some (.cells #[(.slice A0_0 l0_0.length c0_0), (.slice A0_1 l0_1.length c0_1)] 25 (0, 0))) ∧ q56 (Below w.heap.size w w'))
 case atStart => exact ⟨(wrap64 ((l0_0.length : Int) + (l0_1.length : Int))), (0), rf_, rf_, H', ⟨Nat.le_refl _⟩, ⟨gx_ BK182⟩, ⟨hf_⟩⟩
 case round =>
 clear H'
 (try clear hcz3_0); (try clear hcz3_1); (try clear hfz3_0); (try clear hfz3_1)
 obtain ⟨x3_1, x4_1, rfl, rfl, HA, HK1, BK182, HB⟩ := hrel
 cases gk with
 | zero => exact absurd HA.out (by simp [q18.l0])
 | succ k1 =>
 have H := HA.out
 clear HA
 simp only [q18.l0] at H
 have HC4 := q56.mk H
 clear H
 go_upto_region 3 with (fail)
 repeat (go_quiet (fail); go_upto_region 3 with (fail))
 go_cut [23] (fun v23 wc => ∃ (kq : Nat) (x23_3 : Bool), v23 = .bool x23_3 ∧ q56 (q18.j1 kq x3_1 x4_1 x23_3 l0_0 l0_1 = some r) ∧ q56 (kq ≤ k1) ∧ q56 (wc.heap[gb182]? = some (.cells #[(.slice A0_0 l0_0.length c0_0), (.slice A0_1 l0_1.length c0_1)] 25 (0, 0))) ∧ q56 (Below w.heap.size w wc))
 case first =>
  have H := HC4.out
  clear HC4
  by_cases c5 : x4_1 < (l0_1.length : Int)
  ·rw [if_pos c5] at H
   have c5b0 := decide_eq_true c5
   clear c5
   (first | rw [c5b0] | (simp only [i64_w, i32_w]; rw [c5b0]) | skip)
   have H' := q56.mk H
   clear H
   obtain ⟨hcz6_0, hcz6_1, hfz6_0, hfz6_1⟩ := bs2_ BK182
   go_wp2
   repeat (go_quiet (fail); try go_wp2)
   go_meet
   case rel => exact ⟨_, (decide (x3_1 < 400)), rf_, H', ⟨by have := HK1.out; first | omega | exact Nat.le_refl _⟩, ⟨gx_ BK182⟩, ⟨hf_⟩⟩
  rw [if_neg c5] at H
  have c5b0 := decide_eq_false c5
  clear c5
  (first | rw [c5b0] | (simp only [i64_w, i32_w]; rw [c5b0]) | skip)
  have H' := q56.mk H
  clear H
  obtain ⟨hcz7_0, hcz7_1, hfz7_0, hfz7_1⟩ := bs2_ BK182
  go_wp2
  repeat (go_quiet (fail); try go_wp2)
  go_meet
  case rel => exact ⟨_, (false), rf_, H', ⟨by have := HK1.out; first | omega | exact Nat.le_refl _⟩, ⟨gx_ BK182⟩, ⟨hf_⟩⟩
 case rest =>
 clear HC4
 obtain ⟨kq, x23_3, rfl, HA, HJ3, BK182, HB⟩ := hcut
 cases kq with
 | zero => exact absurd HA.out (by simp [q18.j1])
 | succ kj3 =>
 have H := HA.out
 clear HA
 simp only [q18.j1] at H
 by_cases c8 : x23_3 = true
 rotate_left
 ·replace c8 := Bool.eq_false_iff.mpr c8
  subst c8
  replace H := ie_ H
  obtain rfl := Option.some.inj H
  go_wp2
  repeat (go_quiet (fail); try go_wp2)
  go_ret
  exact ⟨er_, hf_⟩
 subst c8
 replace H := it_ H
 by_cases c9 : 0 ≤ x4_1
 rotate_left
 ·rw [if_neg c9] at H
  exact absurd H (by simp)
 rw [if_pos c9] at H
 have c9b0 := decide_eq_true c9
 clear c9
 by_cases c10 : x4_1 < (l0_1.length : Int)
 rotate_left
 ·rw [if_neg c10] at H
  exact absurd H (by simp)
 rw [if_pos c10] at H
 have c10b0 := decide_eq_true c10
 clear c10
 have HC11 := q56.mk H
 clear H
 obtain ⟨hcz12_0, hcz12_1, hfz12_0, hfz12_1⟩ := bs2_ BK182
 obtain ⟨ad183, A183_5, c183_5, A183_6, c183_6, e183, hx183_0, hx183_1, hx183_2, hx183_3, hx183_4, hx183_5, hx183_6, HC183_5, HR183_5, HC183_6, HR183_6, p183, q183⟩ := au_T41 HR0_1 HB (x4_1)
 cases e183
 go_upto_block 2 with (first | ((with_reducible refine q71 (N := 5) rfl ?_); refine bx_ 5 #[.string (⟨#[]⟩ : ByteArray), .int .i64 0, .string (⟨#[]⟩ : ByteArray), .bool false, .int .i64 0, .slice none 0 0, .slice none 0 0] 41 ?_; intro gb184 hg w13 hbox hb; have BK184 := q56.mk (hbox); have GW184 := zz_ (w := w) hg; have GE184 := zz_ (w := w) hg; replace HB := hb_ HB hb; have NB182_184 := ne1_ hg BK182; have NB184_182 := ne2_ hg BK182; replace BK182 := bb_ BK182 hb;  clear hb hbox hg; have hnb14 := NB184_182.out; have hnc14 := NB182_184.out; obtain ⟨hcz15_0, hcz15_1, hcz15_2, hcz15_3, hcz15_4, hcz15_5, hcz15_6, hfz15_0, hfz15_1, hfz15_2, hfz15_3, hfz15_4, hfz15_5, hfz15_6⟩ := bs7_ BK184))
 repeat (go_quiet (first | ((with_reducible refine q71 (N := 5) rfl ?_); refine bx_ 5 #[.string (⟨#[]⟩ : ByteArray), .int .i64 0, .string (⟨#[]⟩ : ByteArray), .bool false, .int .i64 0, .slice none 0 0, .slice none 0 0] 41 ?_; intro gb184 hg w13 hbox hb; have BK184 := q56.mk (hbox); have GW184 := zz_ (w := w) hg; have GE184 := zz_ (w := w) hg; replace HB := hb_ HB hb; have NB182_184 := ne1_ hg BK182; have NB184_182 := ne2_ hg BK182; replace BK182 := bb_ BK182 hb;  clear hb hbox hg; have hnb14 := NB184_182.out; have hnc14 := NB182_184.out; obtain ⟨hcz15_0, hcz15_1, hcz15_2, hcz15_3, hcz15_4, hcz15_5, hcz15_6, hfz15_0, hfz15_1, hfz15_2, hfz15_3, hfz15_4, hfz15_5, hfz15_6⟩ := bs7_ BK184)); go_upto_block 2 with (first | ((with_reducible refine q71 (N := 5) rfl ?_); refine bx_ 5 #[.string (⟨#[]⟩ : ByteArray), .int .i64 0, .string (⟨#[]⟩ : ByteArray), .bool false, .int .i64 0, .slice none 0 0, .slice none 0 0] 41 ?_; intro gb184 hg w13 hbox hb; have BK184 := q56.mk (hbox); have GW184 := zz_ (w := w) hg; have GE184 := zz_ (w := w) hg; replace HB := hb_ HB hb; have NB182_184 := ne1_ hg BK182; have NB184_182 := ne2_ hg BK182; replace BK182 := bb_ BK182 hb;  clear hb hbox hg; have hnb14 := NB184_182.out; have hnc14 := NB182_184.out; obtain ⟨hcz15_0, hcz15_1, hcz15_2, hcz15_3, hcz15_4, hcz15_5, hcz15_6, hfz15_0, hfz15_1, hfz15_2, hfz15_3, hfz15_4, hfz15_5, hfz15_6⟩ := bs7_ BK184)))
 (try simp only [Act.put, List.setIfInBounds_toArray, List.set_cons_zero, List.set_cons_succ])
 go_cut [3] (fun v3 wc => ∃ (kq : Nat) (x3_10 : Int), v3 = .int .i64 x3_10 ∧ q56 (q18.j3 kq x3_10 x4_1 l0_0 l0_1 ((q81 l0_1 x4_1).f0) ((q81 l0_1 x4_1).f1) ((q81 l0_1 x4_1).f2) ((q81 l0_1 x4_1).f3) ((q81 l0_1 x4_1).f4) ((q81 l0_1 x4_1).f5) ((q81 l0_1 x4_1).f6) = some r) ∧ q56 (kq ≤ kj3) ∧ q56 (wc.heap[gb182]? = some (.cells #[(.slice A0_0 l0_0.length c0_0), (.slice (some ad183) l0_1.length c0_1)] 25 (0, 0))) ∧ q56 (wc.heap[gb184]? = some (.cells #[.string ((q81 l0_1 x4_1).f0), .int .i64 ((q81 l0_1 x4_1).f1), .string ((q81 l0_1 x4_1).f2), .bool ((q81 l0_1 x4_1).f3), .int .i64 ((q81 l0_1 x4_1).f4), (.slice A183_5 ((q81 l0_1 x4_1).f5).length c183_5), (.slice A183_6 ((q81 l0_1 x4_1).f6).length c183_6)] 41 (0, 0))) ∧ q56 (Below w.heap.size w wc))
 case first =>
  have H := HC11.out
  clear HC11
  have H' := q56.mk H
  clear H
  go_wp2
  repeat (go_quiet (fail); try go_wp2)
  go_loopg [3, 6] kj3 (fun kq v3 v6 w' => ∃ (x3_3 : Int) (x6_3 : Int), v3 = .int .i64 x3_3 ∧ v6 = .int .i64 x6_3 ∧ q56 (q18.l1 kq x3_3 x4_1 x6_3 l0_0 l0_1 ((q81 l0_1 x4_1).f0) ((q81 l0_1 x4_1).f1) ((q81 l0_1 x4_1).f2) ((q81 l0_1 x4_1).f3) ((q81 l0_1 x4_1).f4) ((q81 l0_1 x4_1).f5) ((q81 l0_1 x4_1).f6) = some r) ∧ q56 (kq ≤ kj3) ∧ q56 (w'.heap[gb182]? = some (.cells #[(.slice A0_0 l0_0.length c0_0), (.slice (some ad183) l0_1.length c0_1)] 25 (0, 0))) ∧ q56 (w'.heap[gb184]? = some (.cells #[.string ((q81 l0_1 x4_1).f0), .int .i64 ((q81 l0_1 x4_1).f1), .string ((q81 l0_1 x4_1).f2), .bool ((q81 l0_1 x4_1).f3), .int .i64 ((q81 l0_1 x4_1).f4), (.slice A183_5 ((q81 l0_1 x4_1).f5).length c183_5), (.slice A183_6 ((q81 l0_1 x4_1).f6).length c183_6)] 41 (0, 0))) ∧ q56 (Below w.heap.size w w'))
  case atStart => exact ⟨(wrap64 ((wrap64 ((wrap64 ((wrap64 (x3_1 + (((q81 l0_1 x4_1).f5).length : Int))) + (((q81 l0_1 x4_1).f6).length : Int))) + (wrap64 ((((q81 l0_1 x4_1).f0).size : Int) / 50)))) + (wrap64 ((((q81 l0_1 x4_1).f2).size : Int) / 50)))), (0), rf_, rf_, H', ⟨Nat.le_refl _⟩, ⟨by (with_reducible repeat (first | refine q65 ?_ _ | refine q64 ?_ | refine q61 ?_ _ | refine q66 ?_ NB182_184.out _)); exact BK182.out⟩, ⟨by (with_reducible repeat (first | refine q65 ?_ _ | refine q64 ?_ | refine q61 ?_ _)); apply put7_; (with_reducible repeat (first | refine q65 ?_ _ | refine q64 ?_ | refine q61 ?_ _)); exact BK184.out⟩, ⟨hf_⟩⟩
  case round =>
  clear H'
  clear c9b0 c10b0 hcz12_0 hcz12_1 hfz12_0 hfz12_1 hx183_0 hx183_1 hx183_2 hx183_3 hx183_4 hx183_5 hx183_6 p183 q183; (try clear hcz15_0); (try clear hcz15_1); (try clear hcz15_2); (try clear hcz15_3); (try clear hcz15_4); (try clear hcz15_5); (try clear hcz15_6); (try clear hfz15_0); (try clear hfz15_1); (try clear hfz15_2); (try clear hfz15_3); (try clear hfz15_4); (try clear hfz15_5); (try clear hfz15_6)
  obtain ⟨x3_3, x6_3, rfl, rfl, HA, HK3, BK182, BK184, HB⟩ := hrel
  cases gk with
  | zero => exact absurd HA.out (by simp [q18.l1])
  | succ k3 =>
  have H := HA.out
  clear HA
  simp only [q18.l1] at H
  by_cases c16 : x6_3 < (((q81 l0_1 x4_1).f5).length : Int)
  rotate_left
  ·rw [if_neg c16] at H
   have c16b0 := decide_eq_false c16
   clear c16
   (first | rw [c16b0] | (simp only [i64_w, i32_w]; rw [c16b0]) | skip)
   have H' := q56.mk H
   clear H
   have hnb23 := NB184_182.out
   have hnc23 := NB182_184.out
   obtain ⟨hcz24_0, hcz24_1, hcz24_2, hcz24_3, hcz24_4, hcz24_5, hcz24_6, hfz24_0, hfz24_1, hfz24_2, hfz24_3, hfz24_4, hfz24_5, hfz24_6⟩ := bs7_ BK184
   go_wp2
   repeat (go_quiet (fail); try go_wp2)
   go_meet
   case rel => exact ⟨_, (x3_3), rf_, H', ⟨by have := HK1.out; have := HJ3.out; have := HK3.out; first | omega | exact Nat.le_refl _⟩, ⟨gx_ BK182⟩, ⟨gx_ BK184⟩, ⟨hf_⟩⟩
  rw [if_pos c16] at H
  have c16b0 := decide_eq_true c16
  clear c16
  (first | rw [c16b0] | (simp only [i64_w, i32_w]; rw [c16b0]) | skip)
  by_cases c17 : x3_3 < 400
  rotate_left
  ·rw [if_neg c17] at H
   replace c17 := decide_eq_false c17
   have H' := q56.mk H
   clear H
   have hnb21 := NB184_182.out
   have hnc21 := NB182_184.out
   obtain ⟨hcz22_0, hcz22_1, hcz22_2, hcz22_3, hcz22_4, hcz22_5, hcz22_6, hfz22_0, hfz22_1, hfz22_2, hfz22_3, hfz22_4, hfz22_5, hfz22_6⟩ := bs7_ BK184
   go_wp2
   repeat (go_quiet (fail); try go_wp2)
   go_meet
   case rel => exact ⟨_, (x3_3), rf_, H', ⟨by have := HK1.out; have := HJ3.out; have := HK3.out; first | omega | exact Nat.le_refl _⟩, ⟨gx_ BK182⟩, ⟨gx_ BK184⟩, ⟨hf_⟩⟩
  rw [if_pos c17] at H
  replace c17 := decide_eq_true c17
  by_cases c18 : 0 ≤ x6_3
  rotate_left
  ·rw [if_neg c18] at H
   exact absurd H (by simp)
  rw [if_pos c18] at H
  replace c18 := decide_eq_true c18
  have H' := q56.mk H
  clear H
  have hnb19 := NB184_182.out
  have hnc19 := NB182_184.out
  obtain ⟨hcz20_0, hcz20_1, hcz20_2, hcz20_3, hcz20_4, hcz20_5, hcz20_6, hfz20_0, hfz20_1, hfz20_2, hfz20_3, hfz20_4, hfz20_5, hfz20_6⟩ := bs7_ BK184
  obtain ⟨ad185, A185_0, c185_0, A185_1, c185_1, e185, hx185_0, hx185_1, HC185_0, HR185_0, HC185_1, HR185_1, p185, q185⟩ := au_T45 HR183_5 HB (x6_3)
  cases e185
  obtain ⟨ad186, A186_0, c186_0, A186_1, c186_1, e186, hx186_0, hx186_1, HC186_0, HR186_0, HC186_1, HR186_1, p186, q186⟩ := au_T45 HR183_5 HB (x6_3)
  obtain rfl : ad185 = ad186 := (by injection e186)
  have ea_ := Option.some.inj (hx185_0.symm.trans hx186_0)
  injection ea_ with ea_ en_ ec_
  subst ea_
  subst ec_
  clear en_
  have ea_ := Option.some.inj (hx185_1.symm.trans hx186_1)
  injection ea_ with ea_ en_ ec_
  subst ea_
  subst ec_
  clear en_
  go_wp2
  repeat (go_quiet (fail); try go_wp2)
  go_roundg k3
  case measure => have := HK1.out; have := HJ3.out; have := HK3.out; omega
  case rel => exact ⟨(wrap64 ((wrap64 (x3_3 + (((q82 ((q81 l0_1 x4_1).f5) x6_3).f0).length : Int))) + (((q82 ((q81 l0_1 x4_1).f5) x6_3).f1).length : Int))), (wrap64 (x6_3 + 1)), rf_, rf_, H', ⟨by have := HK1.out; have := HJ3.out; have := HK3.out; omega⟩, ⟨gx_ BK182⟩, ⟨gx_ BK184⟩, ⟨hf_⟩⟩
 case rest =>
 clear HC11
 clear c9b0 c10b0 hcz12_0 hcz12_1 hfz12_0 hfz12_1 hx183_0 hx183_1 hx183_2 hx183_3 hx183_4 hx183_5 hx183_6 p183 q183; (try clear hcz15_0); (try clear hcz15_1); (try clear hcz15_2); (try clear hcz15_3); (try clear hcz15_4); (try clear hcz15_5); (try clear hcz15_6); (try clear hfz15_0); (try clear hfz15_1); (try clear hfz15_2); (try clear hfz15_3); (try clear hfz15_4); (try clear hfz15_5); (try clear hfz15_6)
 obtain ⟨kq, x3_10, rfl, HA, HJ10, BK182, BK184, HB⟩ := hcut
 cases kq with
 | zero => exact absurd HA.out (by simp [q18.j3])
 | succ kj10 =>
 have H := HA.out
 clear HA
 simp only [q18.j3] at H
 have H' := q56.mk H
 clear H
 go_wp2
 repeat (go_quiet (fail); try go_wp2)
 go_loopg [3, 7] kj10 (fun kq v3 v7 w' => ∃ (x3_4 : Int) (x7_4 : Int), v3 = .int .i64 x3_4 ∧ v7 = .int .i64 x7_4 ∧ q56 (q18.l2 kq x3_4 x4_1 x7_4 l0_0 l0_1 ((q81 l0_1 x4_1).f0) ((q81 l0_1 x4_1).f1) ((q81 l0_1 x4_1).f2) ((q81 l0_1 x4_1).f3) ((q81 l0_1 x4_1).f4) ((q81 l0_1 x4_1).f5) ((q81 l0_1 x4_1).f6) = some r) ∧ q56 (kq ≤ kj10) ∧ q56 (w'.heap[gb182]? = some (.cells #[(.slice A0_0 l0_0.length c0_0), (.slice (some ad183) l0_1.length c0_1)] 25 (0, 0))) ∧ q56 (w'.heap[gb184]? = some (.cells #[.string ((q81 l0_1 x4_1).f0), .int .i64 ((q81 l0_1 x4_1).f1), .string ((q81 l0_1 x4_1).f2), .bool ((q81 l0_1 x4_1).f3), .int .i64 ((q81 l0_1 x4_1).f4), (.slice A183_5 ((q81 l0_1 x4_1).f5).length c183_5), (.slice A183_6 ((q81 l0_1 x4_1).f6).length c183_6)] 41 (0, 0))) ∧ q56 (Below w.heap.size w w'))
 case atStart => exact ⟨(x3_10), (0), rf_, rf_, H', ⟨Nat.le_refl _⟩, ⟨gx_ BK182⟩, ⟨gx_ BK184⟩, ⟨hf_⟩⟩
 case round =>
 clear H'
 obtain ⟨x3_4, x7_4, rfl, rfl, HA, HK4, BK182, BK184, HB⟩ := hrel
 cases gk with
 | zero => exact absurd HA.out (by simp [q18.l2])
 | succ k4 =>
 have H := HA.out
 clear HA
 simp only [q18.l2] at H
 by_cases c25 : x7_4 < (((q81 l0_1 x4_1).f6).length : Int)
 rotate_left
 ·rw [if_neg c25] at H
  replace c25 := decide_eq_false c25
  have H' := q56.mk H
  clear H
  have hnb32 := NB184_182.out
  have hnc32 := NB182_184.out
  obtain ⟨hcz33_0, hcz33_1, hcz33_2, hcz33_3, hcz33_4, hcz33_5, hcz33_6, hfz33_0, hfz33_1, hfz33_2, hfz33_3, hfz33_4, hfz33_5, hfz33_6⟩ := bs7_ BK184
  go_wp2
  repeat (go_quiet (fail); try go_wp2)
  go_roundg k4
  case measure => have := HK1.out; have := HJ3.out; have := HJ10.out; have := HK4.out; omega
  case rel => exact ⟨(x3_4), (wrap64 (x4_1 + 1)), rf_, rf_, H', ⟨by have := HK1.out; have := HJ3.out; have := HJ10.out; have := HK4.out; omega⟩, ⟨gx_ BK182⟩, ⟨hf_⟩⟩
 rw [if_pos c25] at H
 replace c25 := decide_eq_true c25
 by_cases c26 : x3_4 < 400
 rotate_left
 ·rw [if_neg c26] at H
  replace c26 := decide_eq_false c26
  have H' := q56.mk H
  clear H
  have hnb30 := NB184_182.out
  have hnc30 := NB182_184.out
  obtain ⟨hcz31_0, hcz31_1, hcz31_2, hcz31_3, hcz31_4, hcz31_5, hcz31_6, hfz31_0, hfz31_1, hfz31_2, hfz31_3, hfz31_4, hfz31_5, hfz31_6⟩ := bs7_ BK184
  go_wp2
  repeat (go_quiet (fail); try go_wp2)
  go_roundg k4
  case measure => have := HK1.out; have := HJ3.out; have := HJ10.out; have := HK4.out; omega
  case rel => exact ⟨(x3_4), (wrap64 (x4_1 + 1)), rf_, rf_, H', ⟨by have := HK1.out; have := HJ3.out; have := HJ10.out; have := HK4.out; omega⟩, ⟨gx_ BK182⟩, ⟨hf_⟩⟩
 rw [if_pos c26] at H
 replace c26 := decide_eq_true c26
 by_cases c27 : 0 ≤ x7_4
 rotate_left
 ·rw [if_neg c27] at H
  exact absurd H (by simp)
 rw [if_pos c27] at H
 replace c27 := decide_eq_true c27
 have H' := q56.mk H
 clear H
 have hnb28 := NB184_182.out
 have hnc28 := NB182_184.out
 obtain ⟨hcz29_0, hcz29_1, hcz29_2, hcz29_3, hcz29_4, hcz29_5, hcz29_6, hfz29_0, hfz29_1, hfz29_2, hfz29_3, hfz29_4, hfz29_5, hfz29_6⟩ := bs7_ BK184
 obtain ⟨ad187, A187_0, c187_0, A187_1, c187_1, e187, hx187_0, hx187_1, HC187_0, HR187_0, HC187_1, HR187_1, p187, q187⟩ := au_T45 HR183_6 HB (x7_4)
 cases e187
 obtain ⟨ad188, A188_0, c188_0, A188_1, c188_1, e188, hx188_0, hx188_1, HC188_0, HR188_0, HC188_1, HR188_1, p188, q188⟩ := au_T45 HR183_6 HB (x7_4)
 obtain rfl : ad187 = ad188 := (by injection e188)
 have ea_ := Option.some.inj (hx187_0.symm.trans hx188_0)
 injection ea_ with ea_ en_ ec_
 subst ea_
 subst ec_
 clear en_
 have ea_ := Option.some.inj (hx187_1.symm.trans hx188_1)
 injection ea_ with ea_ en_ ec_
 subst ea_
 subst ec_
 clear en_
 go_wp2
 repeat (go_quiet (fail); try go_wp2)
 go_roundg k4
 case measure => have := HK1.out; have := HJ3.out; have := HJ10.out; have := HK4.out; omega
 case rel => exact ⟨(wrap64 ((wrap64 (x3_4 + (((q82 ((q81 l0_1 x4_1).f6) x7_4).f0).length : Int))) + (((q82 ((q81 l0_1 x4_1).f6) x7_4).f1).length : Int))), (wrap64 (x7_4 + 1)), rf_, rf_, H', ⟨by have := HK1.out; have := HJ3.out; have := HJ10.out; have := HK4.out; omega⟩, ⟨gx_ BK182⟩, ⟨gx_ BK184⟩, ⟨hf_⟩⟩
def q24.f (a0 : Int) : Option (Bool) := if a0 ≥ 97 then (if a0 ≤ 122 then (some true) else (if a0 ≥ 65 then (if a0 ≤ 90 then (some true) else (some (a0 == 95))) else (some (a0 == 95)))) else (if a0 ≥ 65 then (if a0 ≤ 90 then (some true) else (some (a0 == 95))) else (some (a0 == 95)))
set_option maxHeartbeats 8000000 in
set_option maxRecDepth 100000 in
theorem q24.calls (a0 : Int) (r : Bool) (w : World) (h : q24.f a0 = some r) :
 Calls Try.prog 50 #[.int .u8 a0] w fun e w' => e = .returned (.bool r) ∧ Drawn0 w w' := by
 unfold q24.f at h
 have H := h
 clear h
 by_cases c2 : a0 ≥ 97
 ·rw [if_pos c2] at H
  replace c2 := decide_eq_true c2
  by_cases c3 : a0 ≤ 122
  ·rw [if_pos c3] at H
   replace c3 := decide_eq_true c3
   obtain rfl := Option.some.inj H
   go_enter Try.func50, Try.ntmps50
   go_wp2
   go_ret
   exact ⟨by first | rfl | (simp; done) | (simp [*]; done), by repeat (first | exact Drawn0.refl _ | apply Drawn0.step)⟩
  rw [if_neg c3] at H
  replace c3 := decide_eq_false c3
  by_cases c4 : a0 ≥ 65
  ·rw [if_pos c4] at H
   replace c4 := decide_eq_true c4
   by_cases c5 : a0 ≤ 90
   ·rw [if_pos c5] at H
    replace c5 := decide_eq_true c5
    obtain rfl := Option.some.inj H
    go_enter Try.func50, Try.ntmps50
    go_wp2
    go_ret
    exact ⟨by first | rfl | (simp; done) | (simp [*]; done), by repeat (first | exact Drawn0.refl _ | apply Drawn0.step)⟩
   rw [if_neg c5] at H
   replace c5 := decide_eq_false c5
   obtain rfl := Option.some.inj H
   go_enter Try.func50, Try.ntmps50
   go_wp2
   go_ret
   exact ⟨by first | rfl | (simp; done) | (simp [*]; done), by repeat (first | exact Drawn0.refl _ | apply Drawn0.step)⟩
  rw [if_neg c4] at H
  replace c4 := decide_eq_false c4
  obtain rfl := Option.some.inj H
  go_enter Try.func50, Try.ntmps50
  go_wp2
  go_ret
  exact ⟨by first | rfl | (simp; done) | (simp [*]; done), by repeat (first | exact Drawn0.refl _ | apply Drawn0.step)⟩
 rw [if_neg c2] at H
 replace c2 := decide_eq_false c2
 by_cases c6 : a0 ≥ 65
 ·rw [if_pos c6] at H
  replace c6 := decide_eq_true c6
  by_cases c7 : a0 ≤ 90
  ·rw [if_pos c7] at H
   replace c7 := decide_eq_true c7
   obtain rfl := Option.some.inj H
   go_enter Try.func50, Try.ntmps50
   go_wp2
   go_ret
   exact ⟨by first | rfl | (simp; done) | (simp [*]; done), by repeat (first | exact Drawn0.refl _ | apply Drawn0.step)⟩
  rw [if_neg c7] at H
  replace c7 := decide_eq_false c7
  obtain rfl := Option.some.inj H
  go_enter Try.func50, Try.ntmps50
  go_wp2
  go_ret
  exact ⟨by first | rfl | (simp; done) | (simp [*]; done), by repeat (first | exact Drawn0.refl _ | apply Drawn0.step)⟩
 rw [if_neg c6] at H
 replace c6 := decide_eq_false c6
 obtain rfl := Option.some.inj H
 go_enter Try.func50, Try.ntmps50
 go_wp2
 go_ret
 exact ⟨by first | rfl | (simp; done) | (simp [*]; done), by repeat (first | exact Drawn0.refl _ | apply Drawn0.step)⟩
def q27.f (a0 : Int) : Option (Bool) := (q24.f a0).bind fun t101 => (if t101 = true then (some true) else (if a0 ≥ 48 then (if a0 ≤ 57 then (some true) else (if a0 = 45 then (some true) else (some (a0 == 46)))) else (if a0 = 45 then (some true) else (some (a0 == 46)))))
set_option maxHeartbeats 8000000 in
set_option maxRecDepth 100000 in
theorem q27.calls (a0 : Int) (r : Bool) (w : World) (h : q27.f a0 = some r) :
 Calls Try.prog 51 #[.int .u8 a0] w fun e w' => e = .returned (.bool r) ∧ Drawn0 w w' := by
 unfold q27.f at h
 have H := h
 clear h
 replace H := bd_ H
 obtain ⟨t101, A2, H⟩ := H
 by_cases c3 : t101 = true
 ·subst c3
  replace H := it_ H
  obtain rfl := Option.some.inj H
  go_enter Try.func51, Try.ntmps51
  go_wp2_with (first | ((with_reducible refine q70 (f := 50) rfl ?_); refine gl_ (some 4) Try.func50 #[.int .u8 a0] ?_; (with_reducible refine (q24.calls a0 true _ A2.out).mono ?_); rintro e w' ⟨rfl, ⟨nd, rfl⟩⟩; refine ⟨_, rfl, ?_⟩))
  go_ret
  exact ⟨by first | rfl | (simp; done) | (simp [*]; done), by repeat (first | exact Drawn0.refl _ | apply Drawn0.step)⟩
 replace c3 := Bool.eq_false_iff.mpr c3
 subst c3
 replace H := ie_ H
 by_cases c4 : a0 ≥ 48
 ·rw [if_pos c4] at H
  replace c4 := decide_eq_true c4
  by_cases c5 : a0 ≤ 57
  ·rw [if_pos c5] at H
   replace c5 := decide_eq_true c5
   obtain rfl := Option.some.inj H
   go_enter Try.func51, Try.ntmps51
   go_wp2_with (first | ((with_reducible refine q70 (f := 50) rfl ?_); refine gl_ (some 4) Try.func50 #[.int .u8 a0] ?_; (with_reducible refine (q24.calls a0 false _ A2.out).mono ?_); rintro e w' ⟨rfl, ⟨nd, rfl⟩⟩; refine ⟨_, rfl, ?_⟩))
   go_ret
   exact ⟨by first | rfl | (simp; done) | (simp [*]; done), by repeat (first | exact Drawn0.refl _ | apply Drawn0.step)⟩
  rw [if_neg c5] at H
  replace c5 := decide_eq_false c5
  by_cases c6 : a0 = 45
  ·rw [if_pos c6] at H
   have c6b0 : (a0 == 45) = true := beq_iff_eq.mpr c6
   have c6b1 : (a0 != 45) = false := bne_eq_false_iff_eq.mpr c6
   clear c6
   obtain rfl := Option.some.inj H
   go_enter Try.func51, Try.ntmps51
   go_wp2_with (first | ((with_reducible refine q70 (f := 50) rfl ?_); refine gl_ (some 4) Try.func50 #[.int .u8 a0] ?_; (with_reducible refine (q24.calls a0 false _ A2.out).mono ?_); rintro e w' ⟨rfl, ⟨nd, rfl⟩⟩; refine ⟨_, rfl, ?_⟩))
   go_ret
   exact ⟨by first | rfl | (simp; done) | (simp [*]; done), by repeat (first | exact Drawn0.refl _ | apply Drawn0.step)⟩
  rw [if_neg c6] at H
  have c6b0 : (a0 == 45) = false := beq_eq_false_iff_ne.mpr c6
  have c6b1 : (a0 != 45) = true := bne_iff_ne.mpr c6
  obtain rfl := Option.some.inj H
  go_enter Try.func51, Try.ntmps51
  go_wp2_with (first | ((with_reducible refine q70 (f := 50) rfl ?_); refine gl_ (some 4) Try.func50 #[.int .u8 a0] ?_; (with_reducible refine (q24.calls a0 false _ A2.out).mono ?_); rintro e w' ⟨rfl, ⟨nd, rfl⟩⟩; refine ⟨_, rfl, ?_⟩))
  go_ret
  exact ⟨by first | rfl | (simp; done) | (simp [*]; done), by repeat (first | exact Drawn0.refl _ | apply Drawn0.step)⟩
 rw [if_neg c4] at H
 replace c4 := decide_eq_false c4
 by_cases c7 : a0 = 45
 ·rw [if_pos c7] at H
  have c7b0 : (a0 == 45) = true := beq_iff_eq.mpr c7
  have c7b1 : (a0 != 45) = false := bne_eq_false_iff_eq.mpr c7
  clear c7
  obtain rfl := Option.some.inj H
  go_enter Try.func51, Try.ntmps51
  go_wp2_with (first | ((with_reducible refine q70 (f := 50) rfl ?_); refine gl_ (some 4) Try.func50 #[.int .u8 a0] ?_; (with_reducible refine (q24.calls a0 false _ A2.out).mono ?_); rintro e w' ⟨rfl, ⟨nd, rfl⟩⟩; refine ⟨_, rfl, ?_⟩))
  go_ret
  exact ⟨by first | rfl | (simp; done) | (simp [*]; done), by repeat (first | exact Drawn0.refl _ | apply Drawn0.step)⟩
 rw [if_neg c7] at H
 have c7b0 : (a0 == 45) = false := beq_eq_false_iff_ne.mpr c7
 have c7b1 : (a0 != 45) = true := bne_iff_ne.mpr c7
 obtain rfl := Option.some.inj H
 go_enter Try.func51, Try.ntmps51
 go_wp2_with (first | ((with_reducible refine q70 (f := 50) rfl ?_); refine gl_ (some 4) Try.func50 #[.int .u8 a0] ?_; (with_reducible refine (q24.calls a0 false _ A2.out).mono ?_); rintro e w' ⟨rfl, ⟨nd, rfl⟩⟩; refine ⟨_, rfl, ?_⟩))
 go_ret
 exact ⟨by first | rfl | (simp; done) | (simp [*]; done), by repeat (first | exact Drawn0.refl _ | apply Drawn0.step)⟩
mutual
def q34.j0 : Nat → ByteArray → Bool → Option (Bool)
 | 0, _, _ => none
 | k + 1, x0, x17 => if x17 = true then (some false) else (q34.l0 k x0 0)
def q34.l0 : Nat → ByteArray → Int → Option (Bool)
 | 0, _, _ => none
 | k + 1, x0, x3 => if x3 < (x0.size : Int) then (if 0 ≤ x3 then ((q27.f (bt x0 x3)).bind fun t103 => (if t103 = true then (q34.l0 k x0 (wrap64 (x3 + 1))) else (some false))) else (none)) else (some true)
end
def q34.f (k : Nat) (a0 : ByteArray) : Option (Bool) := if (a0.size : Int) < 1 then (q34.j0 k a0 true) else (if (a0.size : Int) > 12 then (q34.j0 k a0 true) else (if 0 < (a0.size : Int) then ((q24.f (bt a0 0)).bind fun t102 => (q34.j0 k a0 (!t102))) else (none)))
theorem q34.mono_l : ∀ k, (∀ y0 y1, LeO (q34.j0 k y0 y1) (q34.j0 (k + 1) y0 y1)) ∧ (∀ y0 y1, LeO (q34.l0 k y0 y1) (q34.l0 (k + 1) y0 y1))
 | 0 => ⟨fun _ _ r h => by simp [q34.j0] at h, fun _ _ r h => by simp [q34.l0] at h⟩
 | k + 1 => by
  obtain ⟨ih0, ih1⟩ := q34.mono_l k
  refine ⟨?_, ?_⟩
  intro y0 y1
  unfold q34.j0
  rotate_left
  intro y0 y1
  unfold q34.l0
  rotate_left
  all_goals repeat' first
   | (with_reducible exact ih0 _ _)
   | (with_reducible exact ih1 _ _)
   | (with_reducible exact LeO.refl _)
   | (with_reducible exact LeO.none _)
   | (with_reducible refine LeO.ite ?_ ?_)
   | (with_reducible refine LeO.bind ?_ (fun _ => ?_))
   | exact ih0 _ _
   | exact ih1 _ _
   | exact LeO.none _
   | refine LeO.ite ?_ ?_
   | refine LeO.bind ?_ (fun _ => ?_)
theorem q34.mono : ∀ a0 k, LeO (q34.f k a0) (q34.f (k + 1) a0) := by
 intro a0 k
 obtain ⟨ih0, ih1⟩ := q34.mono_l k
 unfold q34.f
 repeat' first
  | (with_reducible exact ih0 _ _)
  | (with_reducible exact ih1 _ _)
  | (with_reducible exact LeO.refl _)
  | (with_reducible exact LeO.none _)
  | (with_reducible refine LeO.ite ?_ ?_)
  | (with_reducible refine LeO.bind ?_ (fun _ => ?_))
  | exact ih0 _ _
  | exact ih1 _ _
  | exact LeO.none _
  | refine LeO.ite ?_ ?_
  | refine LeO.bind ?_ (fun _ => ?_)
set_option maxHeartbeats 8000000 in
set_option maxRecDepth 100000 in
theorem q34.calls (k : Nat) (a0 : ByteArray) (r : Bool) (w : World) (h : q34.f k a0 = some r) :
 Calls Try.prog 17 #[.string a0] w fun e w' => e = .returned (.bool r) ∧ Drawn0 w w' := by
 unfold q34.f at h
 have H := h
 clear h
 have HC2 := q56.mk H
 clear H
 go_enter Try.func17, Try.ntmps17
 go_upto_region 1 with (fail)
 go_cut [17] (fun v17 wc => ∃ (kq : Nat) (x17_1 : Bool), v17 = .bool x17_1 ∧ q56 (q34.j0 kq a0 x17_1 = some r) ∧ q56 (kq ≤ k) ∧ Drawn0 w wc)
 case first =>
  have H := HC2.out
  clear HC2
  by_cases c3 : (a0.size : Int) < 1
  ·rw [if_pos c3] at H
   have c3b0 := decide_eq_true c3
   have c3b1 : decide (a0.size < 1) = true := decide_eq_true (by omega)
   clear c3
   (first | rw [c3b0] | (simp only [i64_w, i32_w]; rw [c3b0]) | skip)
   have H' := q56.mk H
   clear H
   go_wp2
   go_meet
   case rel => exact ⟨_, (true), rf_, H', ⟨by first | omega | exact Nat.le_refl _⟩, by repeat (first | exact Drawn0.refl _ | apply Drawn0.step)⟩
  rw [if_neg c3] at H
  have c3b0 := decide_eq_false c3
  have c3b1 : decide (a0.size < 1) = false := decide_eq_false (by omega)
  clear c3
  (first | rw [c3b0] | (simp only [i64_w, i32_w]; rw [c3b0]) | skip)
  by_cases c4 : (a0.size : Int) > 12
  ·rw [if_pos c4] at H
   have c4b0 := decide_eq_true c4
   have c4b1 : decide (12 < a0.size) = true := decide_eq_true (by omega)
   clear c4
   have H' := q56.mk H
   clear H
   go_wp2
   go_meet
   case rel => exact ⟨_, (true), rf_, H', ⟨by first | omega | exact Nat.le_refl _⟩, by repeat (first | exact Drawn0.refl _ | apply Drawn0.step)⟩
  rw [if_neg c4] at H
  have c4b0 := decide_eq_false c4
  have c4b1 : decide (12 < a0.size) = false := decide_eq_false (by omega)
  clear c4
  by_cases c5 : 0 < (a0.size : Int)
  rotate_left
  ·rw [if_neg c5] at H
   exact absurd H (by simp)
  rw [if_pos c5] at H
  have c5b0 := decide_eq_true c5
  have c5b1 : decide (0 < a0.size) = true := decide_eq_true (by omega)
  clear c5
  replace H := bd_ H
  obtain ⟨t102, A7, H⟩ := H
  have H' := q56.mk H
  clear H
  have p6 : 0 ≤ (0 : Int) := (by omega)
  have q6 : 0 < a0.size := (by have : (0 : Int) < (a0.size : Int) := od_; omega)
  have hx6 : ∀ h : 0 < a0.size, ((a0[0]'h).toNat : Int) = bt a0 0 := bt_at a0 0
  clear p6
  have qi6 : (0 < (a0.size : Int)) = True := eq_true (od_)
  replace q6 := eq_true q6
  go_wp2_with (first | (go_at_call 50; (with_reducible refine (q24.calls (bt a0 0) t102 _ A7.out).mono ?_); rintro e w' ⟨rfl, ⟨nd, rfl⟩⟩))
  go_meet
  case rel => exact ⟨_, (!t102), rf_, H', ⟨by first | omega | exact Nat.le_refl _⟩, by repeat (first | exact Drawn0.refl _ | apply Drawn0.step)⟩
 case rest =>
 clear HC2
 obtain ⟨kq, x17_1, rfl, HA, HJ1, ⟨mc1, rfl⟩⟩ := hcut
 cases kq with
 | zero => exact absurd HA.out (by simp [q34.j0])
 | succ kj1 =>
 have H := HA.out
 clear HA
 simp only [q34.j0] at H
 by_cases c8 : x17_1 = true
 ·subst c8
  replace H := it_ H
  obtain rfl := Option.some.inj H
  go_wp2
  go_ret
  exact ⟨by first | rfl | (simp; done) | (simp [*]; done), by repeat (first | exact Drawn0.refl _ | apply Drawn0.step)⟩
 replace c8 := Bool.eq_false_iff.mpr c8
 subst c8
 replace H := ie_ H
 have H' := q56.mk H
 clear H
 go_wp2
 go_loopg [3] kj1 (fun kq v3 w' => ∃ (x3_2 : Int), v3 = .int .i64 x3_2 ∧ q56 (q34.l0 kq a0 x3_2 = some r) ∧ q56 (kq ≤ kj1) ∧ Drawn0 w w')
 case atStart => exact ⟨(0), rf_, H', ⟨Nat.le_refl _⟩, by repeat (first | exact Drawn0.refl _ | apply Drawn0.step)⟩
 case round =>
 clear H'
 obtain ⟨x3_2, rfl, HA, HK2, ⟨m2, rfl⟩⟩ := hrel
 cases gk with
 | zero => exact absurd HA.out (by simp [q34.l0])
 | succ k2 =>
 have H := HA.out
 clear HA
 simp only [q34.l0] at H
 by_cases c9 : x3_2 < (a0.size : Int)
 rotate_left
 ·rw [if_neg c9] at H
  replace c9 := decide_eq_false c9
  obtain rfl := Option.some.inj H
  go_wp2
  go_ret
  exact ⟨by first | rfl | (simp; done) | (simp [*]; done), by repeat (first | exact Drawn0.refl _ | apply Drawn0.step)⟩
 rw [if_pos c9] at H
 replace c9 := decide_eq_true c9
 by_cases c10 : 0 ≤ x3_2
 rotate_left
 ·rw [if_neg c10] at H
  exact absurd H (by simp)
 rw [if_pos c10] at H
 replace c10 := decide_eq_true c10
 replace H := bd_ H
 obtain ⟨t103, A12, H⟩ := H
 by_cases c13 : t103 = true
 ·subst c13
  replace H := it_ H
  have H' := q56.mk H
  clear H
  have p11 : 0 ≤ (x3_2 : Int) := od_
  have q11 : x3_2 < (a0.size : Int) := od_
  have hx11 := bt_at a0 x3_2
  replace p11 := eq_true p11
  replace q11 := eq_true q11
  go_wp2_with (first | ((with_reducible refine q70 (f := 51) rfl ?_); refine gl_ (some 27) Try.func51 #[.int .u8 (bt a0 x3_2)] ?_; (with_reducible refine (q27.calls (bt a0 x3_2) true _ A12.out).mono ?_); rintro e w' ⟨rfl, ⟨nd, rfl⟩⟩; refine ⟨_, rfl, ?_⟩))
  go_roundg k2
  case measure => have := HJ1.out; have := HK2.out; omega
  case rel => exact ⟨(wrap64 (x3_2 + 1)), rf_, H', ⟨by have := HJ1.out; have := HK2.out; omega⟩, by repeat (first | exact Drawn0.refl _ | apply Drawn0.step)⟩
 replace c13 := Bool.eq_false_iff.mpr c13
 subst c13
 replace H := ie_ H
 obtain rfl := Option.some.inj H
 have p11 : 0 ≤ (x3_2 : Int) := od_
 have q11 : x3_2 < (a0.size : Int) := od_
 have hx11 := bt_at a0 x3_2
 replace p11 := eq_true p11
 replace q11 := eq_true q11
 go_wp2_with (first | ((with_reducible refine q70 (f := 51) rfl ?_); refine gl_ (some 27) Try.func51 #[.int .u8 (bt a0 x3_2)] ?_; (with_reducible refine (q27.calls (bt a0 x3_2) false _ A12.out).mono ?_); rintro e w' ⟨rfl, ⟨nd, rfl⟩⟩; refine ⟨_, rfl, ?_⟩))
 go_ret
 exact ⟨by first | rfl | (simp; done) | (simp [*]; done), by repeat (first | exact Drawn0.refl _ | apply Drawn0.step)⟩
end Go.Proofs.Yteddgedacjdjgaa.Pm
end
